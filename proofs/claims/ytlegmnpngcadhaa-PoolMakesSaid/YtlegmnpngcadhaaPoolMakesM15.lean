/- Texts of the proof of PoolMakes, part 15. -/
import Derived.Test.YtlegmnpngcadhaaPoolMakesMA
import Derived.Test.YtlegmnpngcadhaaPoolMakesM13
import Derived.Test.YtlegmnpngcadhaaPoolMakesM14
section
namespace Go.Proofs.Ytlegmnpngcadhaa.Print
open Go.RowKit Go.Proofs.YtlegmnpngcadhaaW.PrintWords Go.Proofs.YtlegmnpngcadhaaW.PrintLast Go.Proofs.YtlegmnpngcadhaaW.PrintMore
attribute [local go_sem] max2_int min2_int max_two min_two max_three min_three max_four min_four   -- for this text's walks alone
attribute [local go_sem ↓] Go.Proofs.Ytlegmnpngcadhaa.Sem.isSome_setCell
attribute [local go_sem] Go.Instr.field Go.asAgg
set_option linter.unusedVariables false
set_option linter.unusedSimpArgs false
mutual
def slipwayref04_Same.j0:Nat → Bool → List Int → List Int → List Int → List Int → Option (Bool)
 | 0,_,_,_,_,_=>none
 | k + 1,x22,x240000,x240001,x241000,x241001=>if x22=true then (some false) else (slipwayref04_Same.l0 k 0 x240000 x240001 x241000 x241001)
def slipwayref04_Same.l0:Nat → Int → List Int → List Int → List Int → List Int → Option (Bool)
 | 0,_,_,_,_,_=>none
 | k + 1,x5,x240000,x240001,x241000,x241001=>if x5 < (x240000.length:Int) then (if 0≤x5 then (if x5 < (x241000.length:Int) then (if (rd x240000 x5)=(rd x241000 x5) then (slipwayref04_Same.l0 k (wrap64 (x5 + 1)) x240000 x240001 x241000 x241001) else (some false)) else (none)) else (none)) else (slipwayref04_Same.l1 k 0 x240000 x240001 x241000 x241001)
def slipwayref04_Same.l1:Nat → Int → List Int → List Int → List Int → List Int → Option (Bool)
 | 0,_,_,_,_,_=>none
 | k + 1,x6,x240000,x240001,x241000,x241001=>if x6 < (x240001.length:Int) then (if 0≤x6 then (if x6 < (x241001.length:Int) then (if (rd x240001 x6)=(rd x241001 x6) then (slipwayref04_Same.l1 k (wrap64 (x6 + 1)) x240000 x240001 x241000 x241001) else (some false)) else (none)) else (none)) else (some true)
end
def slipwayref04_Same.f (k:Nat) (l0_0:List Int) (l0_1:List Int) (l1_0:List Int) (l1_1:List Int):Option (Bool):=if (l0_0.length:Int)=(l1_0.length:Int) then (slipwayref04_Same.j0 k ((l0_1.length:Int) != (l1_1.length:Int)) l0_0 l0_1 l1_0 l1_1) else (slipwayref04_Same.j0 k true l0_0 l0_1 l1_0 l1_1)
set_option maxHeartbeats 8000000 in
set_option maxRecDepth 100000 in
theorem slipwayref04_Same.calls (k:Nat) (A0_0:Option Addr) (c0_0:Nat) (l0_0:List Int) (A0_1:Option Addr) (c0_1:Nat) (l0_1:List Int) (A1_0:Option Addr) (c1_0:Nat) (l1_0:List Int) (A1_1:Option Addr) (c1_1:Nat) (l1_1:List Int) (r:Bool) (w:World) (hr0_0:Kd.C (Kd.int .i64) w A0_0 l0_0.length l0_0) (hc0_0:l0_0.length≤c0_0) (hr0_1:Kd.C (Kd.int .i64) w A0_1 l0_1.length l0_1) (hc0_1:l0_1.length≤c0_1) (hr1_0:Kd.C (Kd.int .i64) w A1_0 l1_0.length l1_0) (hc1_0:l1_0.length≤c1_0) (hr1_1:Kd.C (Kd.int .i64) w A1_1 l1_1.length l1_1) (hc1_1:l1_1.length≤c1_1) (h:slipwayref04_Same.f k l0_0 l0_1 l1_0 l1_1=some r) :
  Calls Try.prog 15 #[.agg #[.slice A0_0 l0_0.length c0_0,.slice A0_1 l0_1.length c0_1],.agg #[.slice A1_0 l1_0.length c1_0,.slice A1_1 l1_1.length c1_1]] w fun e w'=>e=.returned (.bool r)∧Below w.heap.size w w':=by
 have hu25:=Try.underlying25
 have HR0_0:=zm hr0_0
 have HC0_0:=zm hc0_0
 clear hr0_0 hc0_0
 have HR0_1:=zm hr0_1
 have HC0_1:=zm hc0_1
 clear hr0_1 hc0_1
 have HR1_0:=zm hr1_0
 have HC1_0:=zm hc1_0
 clear hr1_0 hc1_0
 have HR1_1:=zm hr1_1
 have HC1_1:=zm hc1_1
 clear hr1_1 hc1_1
 have HB:=zm (Below.refl w.heap.size w)
 have H:(if (l0_0.length:Int)=(l1_0.length:Int) then (slipwayref04_Same.j0 k ((l0_1.length:Int) != (l1_1.length:Int)) l0_0 l0_1 l1_0 l1_1) else (slipwayref04_Same.j0 k true l0_0 l0_1 l1_0 l1_1))=some r:=h
 clear h
 have HC3:=zm H
 clear H
 go_enter Try.func15,Try.ntmps15
 go_upto_region 1 with (first|((with_reducible refine gate_dst (N:=2) rfl ?_);(try (refine gate_guard (by rfl) ?_;dsimp only));refine box_event ?hg (N:=2) ?hd (cs:=#[.slice A0_0 l0_0.length c0_0,.slice A0_1 l0_1.length c0_1]) (t:=25) ?hr ?_;(case hd=>rfl);(case hg=>rfl);(case hr=>first|(go_simp;done)|(go_simp;rfl));intro gb239 hg w4 hbox hb;have n0_:=zm (below_step (by repeat (first|(with_reducible first|exact HB.out|apply zlA|apply zlN|apply zlD)|exact HB.out)) hb);have n1_:=zm (hbox);have n2_:=zm ((by rw [hg];exact (below_size (by repeat (first|(with_reducible first|exact HB.out|apply zlA|apply zlN|apply zlD)|exact HB.out))):w.heap.size≤gb239));have n3_:=zm ((by rw [hg];exact (below_size (by repeat (first|(with_reducible first|exact HB.out|apply zlA|apply zlN|apply zlD)|exact HB.out))):w.heap.size≤gb239));clear HB;have HB:=n0_;have BK239:=n1_;have GW239:=n2_;have GE239:=n3_;clear n0_ n1_ n2_ n3_;clear hb hbox hg)|((with_reducible refine gate_dst (N:=3) rfl ?_);(try (refine gate_guard (by rfl) ?_;dsimp only));refine box_event ?hg (N:=3) ?hd (cs:=#[.slice A1_0 l1_0.length c1_0,.slice A1_1 l1_1.length c1_1]) (t:=25) ?hr ?_;(case hd=>rfl);(case hg=>rfl);(case hr=>first|(go_simp;done)|(go_simp;rfl));intro gb240 hg w5 hbox hb;have n0_:=zm (zbB (g:=gb239) (o:=.cells #[.slice A0_0 l0_0.length c0_0,.slice A0_1 l0_1.length c0_1] 25 (0,0)) (by (with_reducible repeat (first|refine zbN ?_ _|refine zbD ?_|refine zbA ?_ _));exact BK239.out) hb);have n1_:=zm (below_step (by repeat (first|(with_reducible first|exact HB.out|apply zlA|apply zlN|apply zlD|refine zlS ?_ GE239.out)|exact HB.out)) hb);have n2_:=zm (hbox);have n3_:=zm ((by rw [hg];exact (below_size (by repeat (first|(with_reducible first|exact HB.out|apply zlA|apply zlN|apply zlD|refine zlS ?_ GE239.out)|exact HB.out))):w.heap.size≤gb240));have n4_:=zm ((by rw [hg];exact (below_size (by repeat (first|(with_reducible first|exact HB.out|apply zlA|apply zlN|apply zlD|refine zlS ?_ GE239.out)|exact HB.out))):w.heap.size≤gb240));have n5_:=zm ((by rw [hg];exact Nat.ne_of_lt (blk_lt (g:=gb239) (o:=.cells #[.slice A0_0 l0_0.length c0_0,.slice A0_1 l0_1.length c0_1] 25 (0,0)) (by (with_reducible repeat (first|refine zbN ?_ _|refine zbD ?_|refine zbA ?_ _));exact BK239.out)):gb239≠gb240));have n6_:=zm ((by rw [hg];exact Nat.ne_of_gt (blk_lt (g:=gb239) (o:=.cells #[.slice A0_0 l0_0.length c0_0,.slice A0_1 l0_1.length c0_1] 25 (0,0)) (by (with_reducible repeat (first|refine zbN ?_ _|refine zbD ?_|refine zbA ?_ _));exact BK239.out)):gb240≠gb239));clear BK239 HB;have BK239:=n0_;have HB:=n1_;have BK240:=n2_;have GW240:=n3_;have GE240:=n4_;have NB239_240:=n5_;have NB240_239:=n6_;clear n0_ n1_ n2_ n3_ n4_ n5_ n6_;clear hb hbox hg))
 repeat (go_quiet (first|((with_reducible refine gate_dst (N:=2) rfl ?_);(try (refine gate_guard (by rfl) ?_;dsimp only));refine box_event ?hg (N:=2) ?hd (cs:=#[.slice A0_0 l0_0.length c0_0,.slice A0_1 l0_1.length c0_1]) (t:=25) ?hr ?_;(case hd=>rfl);(case hg=>rfl);(case hr=>first|(go_simp;done)|(go_simp;rfl));intro gb239 hg w4 hbox hb;have n0_:=zm (below_step (by repeat (first|(with_reducible first|exact HB.out|apply zlA|apply zlN|apply zlD)|exact HB.out)) hb);have n1_:=zm (hbox);have n2_:=zm ((by rw [hg];exact (below_size (by repeat (first|(with_reducible first|exact HB.out|apply zlA|apply zlN|apply zlD)|exact HB.out))):w.heap.size≤gb239));have n3_:=zm ((by rw [hg];exact (below_size (by repeat (first|(with_reducible first|exact HB.out|apply zlA|apply zlN|apply zlD)|exact HB.out))):w.heap.size≤gb239));clear HB;have HB:=n0_;have BK239:=n1_;have GW239:=n2_;have GE239:=n3_;clear n0_ n1_ n2_ n3_;clear hb hbox hg)|((with_reducible refine gate_dst (N:=3) rfl ?_);(try (refine gate_guard (by rfl) ?_;dsimp only));refine box_event ?hg (N:=3) ?hd (cs:=#[.slice A1_0 l1_0.length c1_0,.slice A1_1 l1_1.length c1_1]) (t:=25) ?hr ?_;(case hd=>rfl);(case hg=>rfl);(case hr=>first|(go_simp;done)|(go_simp;rfl));intro gb240 hg w5 hbox hb;have n0_:=zm (zbB (g:=gb239) (o:=.cells #[.slice A0_0 l0_0.length c0_0,.slice A0_1 l0_1.length c0_1] 25 (0,0)) (by (with_reducible repeat (first|refine zbN ?_ _|refine zbD ?_|refine zbA ?_ _));exact BK239.out) hb);have n1_:=zm (below_step (by repeat (first|(with_reducible first|exact HB.out|apply zlA|apply zlN|apply zlD|refine zlS ?_ GE239.out)|exact HB.out)) hb);have n2_:=zm (hbox);have n3_:=zm ((by rw [hg];exact (below_size (by repeat (first|(with_reducible first|exact HB.out|apply zlA|apply zlN|apply zlD|refine zlS ?_ GE239.out)|exact HB.out))):w.heap.size≤gb240));have n4_:=zm ((by rw [hg];exact (below_size (by repeat (first|(with_reducible first|exact HB.out|apply zlA|apply zlN|apply zlD|refine zlS ?_ GE239.out)|exact HB.out))):w.heap.size≤gb240));have n5_:=zm ((by rw [hg];exact Nat.ne_of_lt (blk_lt (g:=gb239) (o:=.cells #[.slice A0_0 l0_0.length c0_0,.slice A0_1 l0_1.length c0_1] 25 (0,0)) (by (with_reducible repeat (first|refine zbN ?_ _|refine zbD ?_|refine zbA ?_ _));exact BK239.out)):gb239≠gb240));have n6_:=zm ((by rw [hg];exact Nat.ne_of_gt (blk_lt (g:=gb239) (o:=.cells #[.slice A0_0 l0_0.length c0_0,.slice A0_1 l0_1.length c0_1] 25 (0,0)) (by (with_reducible repeat (first|refine zbN ?_ _|refine zbD ?_|refine zbA ?_ _));exact BK239.out)):gb240≠gb239));clear BK239 HB;have BK239:=n0_;have HB:=n1_;have BK240:=n2_;have GW240:=n3_;have GE240:=n4_;have NB239_240:=n5_;have NB240_239:=n6_;clear n0_ n1_ n2_ n3_ n4_ n5_ n6_;clear hb hbox hg));go_upto_region 1 with (first|((with_reducible refine gate_dst (N:=2) rfl ?_);(try (refine gate_guard (by rfl) ?_;dsimp only));refine box_event ?hg (N:=2) ?hd (cs:=#[.slice A0_0 l0_0.length c0_0,.slice A0_1 l0_1.length c0_1]) (t:=25) ?hr ?_;(case hd=>rfl);(case hg=>rfl);(case hr=>first|(go_simp;done)|(go_simp;rfl));intro gb239 hg w4 hbox hb;have n0_:=zm (below_step (by repeat (first|(with_reducible first|exact HB.out|apply zlA|apply zlN|apply zlD)|exact HB.out)) hb);have n1_:=zm (hbox);have n2_:=zm ((by rw [hg];exact (below_size (by repeat (first|(with_reducible first|exact HB.out|apply zlA|apply zlN|apply zlD)|exact HB.out))):w.heap.size≤gb239));have n3_:=zm ((by rw [hg];exact (below_size (by repeat (first|(with_reducible first|exact HB.out|apply zlA|apply zlN|apply zlD)|exact HB.out))):w.heap.size≤gb239));clear HB;have HB:=n0_;have BK239:=n1_;have GW239:=n2_;have GE239:=n3_;clear n0_ n1_ n2_ n3_;clear hb hbox hg)|((with_reducible refine gate_dst (N:=3) rfl ?_);(try (refine gate_guard (by rfl) ?_;dsimp only));refine box_event ?hg (N:=3) ?hd (cs:=#[.slice A1_0 l1_0.length c1_0,.slice A1_1 l1_1.length c1_1]) (t:=25) ?hr ?_;(case hd=>rfl);(case hg=>rfl);(case hr=>first|(go_simp;done)|(go_simp;rfl));intro gb240 hg w5 hbox hb;have n0_:=zm (zbB (g:=gb239) (o:=.cells #[.slice A0_0 l0_0.length c0_0,.slice A0_1 l0_1.length c0_1] 25 (0,0)) (by (with_reducible repeat (first|refine zbN ?_ _|refine zbD ?_|refine zbA ?_ _));exact BK239.out) hb);have n1_:=zm (below_step (by repeat (first|(with_reducible first|exact HB.out|apply zlA|apply zlN|apply zlD|refine zlS ?_ GE239.out)|exact HB.out)) hb);have n2_:=zm (hbox);have n3_:=zm ((by rw [hg];exact (below_size (by repeat (first|(with_reducible first|exact HB.out|apply zlA|apply zlN|apply zlD|refine zlS ?_ GE239.out)|exact HB.out))):w.heap.size≤gb240));have n4_:=zm ((by rw [hg];exact (below_size (by repeat (first|(with_reducible first|exact HB.out|apply zlA|apply zlN|apply zlD|refine zlS ?_ GE239.out)|exact HB.out))):w.heap.size≤gb240));have n5_:=zm ((by rw [hg];exact Nat.ne_of_lt (blk_lt (g:=gb239) (o:=.cells #[.slice A0_0 l0_0.length c0_0,.slice A0_1 l0_1.length c0_1] 25 (0,0)) (by (with_reducible repeat (first|refine zbN ?_ _|refine zbD ?_|refine zbA ?_ _));exact BK239.out)):gb239≠gb240));have n6_:=zm ((by rw [hg];exact Nat.ne_of_gt (blk_lt (g:=gb239) (o:=.cells #[.slice A0_0 l0_0.length c0_0,.slice A0_1 l0_1.length c0_1] 25 (0,0)) (by (with_reducible repeat (first|refine zbN ?_ _|refine zbD ?_|refine zbA ?_ _));exact BK239.out)):gb240≠gb239));clear BK239 HB;have BK239:=n0_;have HB:=n1_;have BK240:=n2_;have GW240:=n3_;have GE240:=n4_;have NB239_240:=n5_;have NB240_239:=n6_;clear n0_ n1_ n2_ n3_ n4_ n5_ n6_;clear hb hbox hg)))
 (try simp only [Act.put,List.setIfInBounds_toArray,List.set_cons_zero,List.set_cons_succ])
 go_cut [22] (fun v22 wc=>∃ (kq:Nat) (x22_2:Bool),v22=.bool x22_2∧Aside0 (slipwayref04_Same.j0 kq x22_2 l0_0 l0_1 l1_0 l1_1=some r)∧Aside0 (kq≤k)∧Aside0 (wc.heap[gb239]?=some (.cells #[(.slice A0_0 l0_0.length c0_0),(.slice A0_1 l0_1.length c0_1)] 25 (0,0)))∧Aside0 (wc.heap[gb240]?=some (.cells #[(.slice A1_0 l1_0.length c1_0),(.slice A1_1 l1_1.length c1_1)] 25 (0,0)))∧Aside0 (Below w.heap.size w wc))
 case first =>
  have H:=HC3.out
  clear HC3
  by_cases c6:(l0_0.length:Int)=(l1_0.length:Int)
  ·rw [if_pos c6] at H
   have c6b0:((l0_0.length:Int) == (l1_0.length:Int))=true:=beq_iff_eq.mpr c6
   have c6b1:((l0_0.length:Int) != (l1_0.length:Int))=false:=bne_eq_false_iff_eq.mpr c6
   have c6b2:(l0_0.length == l1_0.length)=true:=by first|simpa using c6|(simp at c6 ⊢;omega)
   clear c6
   (first|rw [c6b0]|(simp only [i64_w,i32_w];rw [c6b0])|skip)
   have H':=zm H
   clear H
   have hnb7:=NB239_240.out
   have hnc7:=NB240_239.out
   have hcz8_0:w5.cell? ⟨gb239,0,none⟩=some (.slice A0_0 l0_0.length c0_0):=(blk_cell BK239.out 0).trans rfl
   have hcz8_1:w5.cell? ⟨gb239,1,none⟩=some (.slice A0_1 l0_1.length c0_1):=(blk_cell BK239.out 1).trans rfl
   have hfz8_0:=blk_frozen BK239.out 0
   have hfz8_1:=blk_frozen BK239.out 1
   have hcz9_0:w5.cell? ⟨gb240,0,none⟩=some (.slice A1_0 l1_0.length c1_0):=(blk_cell BK240.out 0).trans rfl
   have hcz9_1:w5.cell? ⟨gb240,1,none⟩=some (.slice A1_1 l1_1.length c1_1):=(blk_cell BK240.out 1).trans rfl
   have hfz9_0:=blk_frozen BK240.out 0
   have hfz9_1:=blk_frozen BK240.out 1
   go_wp2
   repeat (go_quiet (fail);try go_wp2)
   go_meet
   case rel=>exact ⟨_,(((l0_1.length:Int) != (l1_1.length:Int))),(by first|rfl|(simp;done)|(simp [*];done)),H',⟨by first|omega|exact Nat.le_refl _⟩,⟨by (with_reducible repeat (first|refine zbN ?_ _|refine zbD ?_|refine zbA ?_ _));exact BK239.out⟩,⟨by (with_reducible repeat (first|refine zbN ?_ _|refine zbD ?_|refine zbA ?_ _));exact BK240.out⟩,⟨by repeat (first|(with_reducible first|exact HB.out|apply zlA|apply zlN|apply zlD|refine zlS ?_ GE239.out|refine zlS ?_ GE240.out)|exact HB.out)⟩⟩
  ·rw [if_neg c6] at H
   have c6b0:((l0_0.length:Int) == (l1_0.length:Int))=false:=beq_eq_false_iff_ne.mpr c6
   have c6b1:((l0_0.length:Int) != (l1_0.length:Int))=true:=bne_iff_ne.mpr c6
   have c6b2:(l0_0.length == l1_0.length)=false:=by first|simpa using c6|(simp at c6 ⊢;omega)
   (first|rw [c6b0]|(simp only [i64_w,i32_w];rw [c6b0])|skip)
   have H':=zm H
   clear H
   have hnb10:=NB239_240.out
   have hnc10:=NB240_239.out
   have hcz11_0:w5.cell? ⟨gb239,0,none⟩=some (.slice A0_0 l0_0.length c0_0):=(blk_cell BK239.out 0).trans rfl
   have hcz11_1:w5.cell? ⟨gb239,1,none⟩=some (.slice A0_1 l0_1.length c0_1):=(blk_cell BK239.out 1).trans rfl
   have hfz11_0:=blk_frozen BK239.out 0
   have hfz11_1:=blk_frozen BK239.out 1
   have hcz12_0:w5.cell? ⟨gb240,0,none⟩=some (.slice A1_0 l1_0.length c1_0):=(blk_cell BK240.out 0).trans rfl
   have hcz12_1:w5.cell? ⟨gb240,1,none⟩=some (.slice A1_1 l1_1.length c1_1):=(blk_cell BK240.out 1).trans rfl
   have hfz12_0:=blk_frozen BK240.out 0
   have hfz12_1:=blk_frozen BK240.out 1
   go_wp2
   repeat (go_quiet (fail);try go_wp2)
   go_meet
   case rel=>exact ⟨_,(true),(by first|rfl|(simp;done)|(simp [*];done)),H',⟨by first|omega|exact Nat.le_refl _⟩,⟨by (with_reducible repeat (first|refine zbN ?_ _|refine zbD ?_|refine zbA ?_ _));exact BK239.out⟩,⟨by (with_reducible repeat (first|refine zbN ?_ _|refine zbD ?_|refine zbA ?_ _));exact BK240.out⟩,⟨by repeat (first|(with_reducible first|exact HB.out|apply zlA|apply zlN|apply zlD|refine zlS ?_ GE239.out|refine zlS ?_ GE240.out)|exact HB.out)⟩⟩
 case rest =>
  clear HC3
  try clear c1
  try clear p2
  try clear c6
  try clear c6b0
  try clear c6b1
  try clear c6b2
  try clear c7
  try clear c10
  try clear hcz11_0
  try clear hcz11_1
  try clear hcz12_0
  try clear hcz12_1
  try clear hcz8_0
  try clear hcz8_1
  try clear hcz9_0
  try clear hcz9_1
  try clear hfz11_0
  try clear hfz11_1
  try clear hfz12_0
  try clear hfz12_1
  try clear hfz8_0
  try clear hfz8_1
  try clear hfz9_0
  try clear hfz9_1
  obtain ⟨kq,x22_2,rfl,HA,HJ2,BK239,BK240,HB⟩:=hcut
  cases kq with
  | zero=>exact absurd HA.out (by simp [slipwayref04_Same.j0])
  | succ kj2 =>
   have H:=HA.out
   clear HA
   simp only [slipwayref04_Same.j0] at H
   by_cases c13:x22_2=true
   ·subst c13
    have H1:(some false)=some r:=by rw [if_pos rfl] at H;exact H
    clear H
    have H:=H1
    clear H1
    obtain rfl:=Option.some.inj H
    go_wp2
    repeat (go_quiet (fail);try go_wp2)
    go_ret
    exact ⟨by first|rfl|(simp [errW_none,errW_some] <;> rfl)|(simp [*,errW_none,errW_some] <;> rfl),by repeat (first|(with_reducible first|exact HB.out|apply zlA|apply zlN|apply zlD|refine zlS ?_ GE239.out|refine zlS ?_ GE240.out)|exact HB.out)⟩
   ·replace c13:=Bool.eq_false_iff.mpr c13
    subst c13
    have H1:(slipwayref04_Same.l0 kj2 0 l0_0 l0_1 l1_0 l1_1)=some r:=by rw [if_neg (show ¬ (false=true) by decide)] at H;exact H
    clear H
    have H:=H1
    clear H1
    have H':=zm H
    clear H
    go_wp2
    repeat (go_quiet (fail);try go_wp2)
    go_loopg [5] kj2 (fun kq v5 w'=>∃ (x5_2:Int),v5=.int .i64 x5_2∧Aside0 (slipwayref04_Same.l0 kq x5_2 l0_0 l0_1 l1_0 l1_1=some r)∧Aside0 (kq≤kj2)∧Aside0 (w'.heap[gb239]?=some (.cells #[(.slice A0_0 l0_0.length c0_0),(.slice A0_1 l0_1.length c0_1)] 25 (0,0)))∧Aside0 (w'.heap[gb240]?=some (.cells #[(.slice A1_0 l1_0.length c1_0),(.slice A1_1 l1_1.length c1_1)] 25 (0,0)))∧Aside0 (Below w.heap.size w w'))
    case atStart=>exact ⟨(0),(by first|rfl|(simp;done)|(simp [*];done)),H',⟨Nat.le_refl _⟩,⟨by (with_reducible repeat (first|refine zbN ?_ _|refine zbD ?_|refine zbA ?_ _));exact BK239.out⟩,⟨by (with_reducible repeat (first|refine zbN ?_ _|refine zbD ?_|refine zbA ?_ _));exact BK240.out⟩,⟨by repeat (first|(with_reducible first|exact HB.out|apply zlA|apply zlN|apply zlD|refine zlS ?_ GE239.out|refine zlS ?_ GE240.out)|exact HB.out)⟩⟩
    case round =>
     clear H'
     try clear c1
     try clear p2
     try clear c6
     try clear c6b0
     try clear c6b1
     try clear c6b2
     try clear c7
     try clear c10
     try clear c13
     try clear hcz11_0
     try clear hcz11_1
     try clear hcz12_0
     try clear hcz12_1
     try clear hcz8_0
     try clear hcz8_1
     try clear hcz9_0
     try clear hcz9_1
     try clear hfz11_0
     try clear hfz11_1
     try clear hfz12_0
     try clear hfz12_1
     try clear hfz8_0
     try clear hfz8_1
     try clear hfz9_0
     try clear hfz9_1
     try clear p2
     obtain ⟨x5_2,rfl,HA,HK2,BK239,BK240,HB⟩:=hrel
     cases gk with
     | zero=>exact absurd HA.out (by simp [slipwayref04_Same.l0])
     | succ k2 =>
      have H:=HA.out
      clear HA
      simp only [slipwayref04_Same.l0] at H
      by_cases c14:x5_2 < (l0_0.length:Int)
      ·rw [if_pos c14] at H
       have c14b0:decide (x5_2 < (l0_0.length:Int))=true:=decide_eq_true c14
       clear c14
       by_cases c15:0≤x5_2
       ·rw [if_pos c15] at H
        have c15b0:decide (0≤x5_2)=true:=decide_eq_true c15
        clear c15
        by_cases c16:x5_2 < (l1_0.length:Int)
        ·rw [if_pos c16] at H
         have c16b0:decide (x5_2 < (l1_0.length:Int))=true:=decide_eq_true c16
         clear c16
         by_cases c17:(rd l0_0 x5_2)=(rd l1_0 x5_2)
         ·rw [if_pos c17] at H
          have c17b0:((rd l0_0 x5_2) == (rd l1_0 x5_2))=true:=beq_iff_eq.mpr c17
          have c17b1:((rd l0_0 x5_2) != (rd l1_0 x5_2))=false:=bne_eq_false_iff_eq.mpr c17
          clear c17
          have H':=zm H
          clear H
          have hnb18:=NB239_240.out
          have hnc18:=NB240_239.out
          have hcz19_0:wr.cell? ⟨gb239,0,none⟩=some (.slice A0_0 l0_0.length c0_0):=(blk_cell BK239.out 0).trans rfl
          have hcz19_1:wr.cell? ⟨gb239,1,none⟩=some (.slice A0_1 l0_1.length c0_1):=(blk_cell BK239.out 1).trans rfl
          have hfz19_0:=blk_frozen BK239.out 0
          have hfz19_1:=blk_frozen BK239.out 1
          have p241:0≤(x5_2:Int):=of_decide_eq_true (by first|(with_reducible assumption)|assumption)
          have q241:x5_2 < (l0_0.length:Int):=of_decide_eq_true (by first|(with_reducible assumption)|assumption)
          obtain ⟨ad241,e241,hx241_0⟩:=Kd.at_int HR0_0.out x5_2 p241 q241
          cases e241
          replace hx241_0:=(HB.out.cell (World.block_lt_of_cell? w _ hx241_0)).trans hx241_0
          replace p241:=eq_true p241
          replace q241:=eq_true q241
          have hcz20_0:wr.cell? ⟨gb240,0,none⟩=some (.slice A1_0 l1_0.length c1_0):=(blk_cell BK240.out 0).trans rfl
          have hcz20_1:wr.cell? ⟨gb240,1,none⟩=some (.slice A1_1 l1_1.length c1_1):=(blk_cell BK240.out 1).trans rfl
          have hfz20_0:=blk_frozen BK240.out 0
          have hfz20_1:=blk_frozen BK240.out 1
          have p242:0≤(x5_2:Int):=of_decide_eq_true (by first|(with_reducible assumption)|assumption)
          have q242:x5_2 < (l1_0.length:Int):=of_decide_eq_true (by first|(with_reducible assumption)|assumption)
          obtain ⟨ad242,e242,hx242_0⟩:=Kd.at_int HR1_0.out x5_2 p242 q242
          cases e242
          replace hx242_0:=(HB.out.cell (World.block_lt_of_cell? w _ hx242_0)).trans hx242_0
          replace p242:=eq_true p242
          replace q242:=eq_true q242
          go_wp2
          repeat (go_quiet (fail);try go_wp2)
          go_roundg k2
          case measure=>have:=HJ2.out;have:=HK2.out;omega
          case rel=>exact ⟨(wrap64 (x5_2 + 1)),(by first|rfl|(simp;done)|(simp [*];done)),H',⟨by have:=HJ2.out;have:=HK2.out;omega⟩,⟨by (with_reducible repeat (first|refine zbN ?_ _|refine zbD ?_|refine zbA ?_ _));exact BK239.out⟩,⟨by (with_reducible repeat (first|refine zbN ?_ _|refine zbD ?_|refine zbA ?_ _));exact BK240.out⟩,⟨by repeat (first|(with_reducible first|exact HB.out|apply zlA|apply zlN|apply zlD|refine zlS ?_ GE239.out|refine zlS ?_ GE240.out)|exact HB.out)⟩⟩
         ·rw [if_neg c17] at H
          have c17b0:((rd l0_0 x5_2) == (rd l1_0 x5_2))=false:=beq_eq_false_iff_ne.mpr c17
          have c17b1:((rd l0_0 x5_2) != (rd l1_0 x5_2))=true:=bne_iff_ne.mpr c17
          obtain rfl:=Option.some.inj H
          have hnb21:=NB239_240.out
          have hnc21:=NB240_239.out
          have hcz22_0:wr.cell? ⟨gb239,0,none⟩=some (.slice A0_0 l0_0.length c0_0):=(blk_cell BK239.out 0).trans rfl
          have hcz22_1:wr.cell? ⟨gb239,1,none⟩=some (.slice A0_1 l0_1.length c0_1):=(blk_cell BK239.out 1).trans rfl
          have hfz22_0:=blk_frozen BK239.out 0
          have hfz22_1:=blk_frozen BK239.out 1
          have p241:0≤(x5_2:Int):=of_decide_eq_true (by first|(with_reducible assumption)|assumption)
          have q241:x5_2 < (l0_0.length:Int):=of_decide_eq_true (by first|(with_reducible assumption)|assumption)
          obtain ⟨ad241,e241,hx241_0⟩:=Kd.at_int HR0_0.out x5_2 p241 q241
          cases e241
          replace hx241_0:=(HB.out.cell (World.block_lt_of_cell? w _ hx241_0)).trans hx241_0
          replace p241:=eq_true p241
          replace q241:=eq_true q241
          have hcz23_0:wr.cell? ⟨gb240,0,none⟩=some (.slice A1_0 l1_0.length c1_0):=(blk_cell BK240.out 0).trans rfl
          have hcz23_1:wr.cell? ⟨gb240,1,none⟩=some (.slice A1_1 l1_1.length c1_1):=(blk_cell BK240.out 1).trans rfl
          have hfz23_0:=blk_frozen BK240.out 0
          have hfz23_1:=blk_frozen BK240.out 1
          have p242:0≤(x5_2:Int):=of_decide_eq_true (by first|(with_reducible assumption)|assumption)
          have q242:x5_2 < (l1_0.length:Int):=of_decide_eq_true (by first|(with_reducible assumption)|assumption)
          obtain ⟨ad242,e242,hx242_0⟩:=Kd.at_int HR1_0.out x5_2 p242 q242
          cases e242
          replace hx242_0:=(HB.out.cell (World.block_lt_of_cell? w _ hx242_0)).trans hx242_0
          replace p242:=eq_true p242
          replace q242:=eq_true q242
          go_wp2
          repeat (go_quiet (fail);try go_wp2)
          go_ret
          exact ⟨by first|rfl|(simp [errW_none,errW_some] <;> rfl)|(simp [*,errW_none,errW_some] <;> rfl),by repeat (first|(with_reducible first|exact HB.out|apply zlA|apply zlN|apply zlD|refine zlS ?_ GE239.out|refine zlS ?_ GE240.out)|exact HB.out)⟩
        ·rw [if_neg c16] at H
         exact absurd H (by simp)
       ·rw [if_neg c15] at H
        exact absurd H (by simp)
      ·rw [if_neg c14] at H
       have c14b0:decide (x5_2 < (l0_0.length:Int))=false:=decide_eq_false c14
       clear c14
       have H':=zm H
       clear H
       have hnb24:=NB239_240.out
       have hnc24:=NB240_239.out
       have hcz25_0:wr.cell? ⟨gb239,0,none⟩=some (.slice A0_0 l0_0.length c0_0):=(blk_cell BK239.out 0).trans rfl
       have hcz25_1:wr.cell? ⟨gb239,1,none⟩=some (.slice A0_1 l0_1.length c0_1):=(blk_cell BK239.out 1).trans rfl
       have hfz25_0:=blk_frozen BK239.out 0
       have hfz25_1:=blk_frozen BK239.out 1
       go_wp2
       repeat (go_quiet (fail);try go_wp2)
       go_loopg [6] k2 (fun kq v6 w'=>∃ (x6_3:Int),v6=.int .i64 x6_3∧Aside0 (slipwayref04_Same.l1 kq x6_3 l0_0 l0_1 l1_0 l1_1=some r)∧Aside0 (kq≤k2)∧Aside0 (w'.heap[gb239]?=some (.cells #[(.slice A0_0 l0_0.length c0_0),(.slice A0_1 l0_1.length c0_1)] 25 (0,0)))∧Aside0 (w'.heap[gb240]?=some (.cells #[(.slice A1_0 l1_0.length c1_0),(.slice A1_1 l1_1.length c1_1)] 25 (0,0)))∧Aside0 (Below w.heap.size w w'))
       case atStart=>exact ⟨(0),(by first|rfl|(simp;done)|(simp [*];done)),H',⟨Nat.le_refl _⟩,⟨by (with_reducible repeat (first|refine zbN ?_ _|refine zbD ?_|refine zbA ?_ _));exact BK239.out⟩,⟨by (with_reducible repeat (first|refine zbN ?_ _|refine zbD ?_|refine zbA ?_ _));exact BK240.out⟩,⟨by repeat (first|(with_reducible first|exact HB.out|apply zlA|apply zlN|apply zlD|refine zlS ?_ GE239.out|refine zlS ?_ GE240.out)|exact HB.out)⟩⟩
       case round =>
        clear H'
        try clear c1
        try clear c2
        try clear p2
        try clear q2
        try clear hx2
        try clear c6
        try clear c6b0
        try clear c6b1
        try clear c6b2
        try clear p6
        try clear c7
        try clear c10
        try clear c13
        try clear c14
        try clear c14b0
        try clear c15
        try clear c15b0
        try clear c16
        try clear c16b0
        try clear c17
        try clear c17b0
        try clear c17b1
        try clear c18
        try clear c21
        try clear c24
        try clear p24
        try clear q24
        try clear hx24
        try clear hcz11_0
        try clear hcz11_1
        try clear hcz12_0
        try clear hcz12_1
        try clear hcz19_0
        try clear hcz19_1
        try clear hcz20_0
        try clear hcz20_1
        try clear hcz22_0
        try clear hcz22_1
        try clear hcz23_0
        try clear hcz23_1
        try clear hcz25_0
        try clear hcz25_1
        try clear hcz8_0
        try clear hcz8_1
        try clear hcz9_0
        try clear hcz9_1
        try clear hfz11_0
        try clear hfz11_1
        try clear hfz12_0
        try clear hfz12_1
        try clear hfz19_0
        try clear hfz19_1
        try clear hfz20_0
        try clear hfz20_1
        try clear hfz22_0
        try clear hfz22_1
        try clear hfz23_0
        try clear hfz23_1
        try clear hfz25_0
        try clear hfz25_1
        try clear hfz8_0
        try clear hfz8_1
        try clear hfz9_0
        try clear hfz9_1
        try clear hx241_0
        try clear hx242_0
        try clear p2
        try clear p241
        try clear p242
        try clear q241
        try clear q242
        obtain ⟨x6_3,rfl,HA,HK3,BK239,BK240,HB⟩:=hrel
        cases gk with
        | zero=>exact absurd HA.out (by simp [slipwayref04_Same.l1])
        | succ k3 =>
         have H:=HA.out
         clear HA
         simp only [slipwayref04_Same.l1] at H
         by_cases c26:x6_3 < (l0_1.length:Int)
         ·rw [if_pos c26] at H
          have c26b0:decide (x6_3 < (l0_1.length:Int))=true:=decide_eq_true c26
          clear c26
          by_cases c27:0≤x6_3
          ·rw [if_pos c27] at H
           have c27b0:decide (0≤x6_3)=true:=decide_eq_true c27
           clear c27
           by_cases c28:x6_3 < (l1_1.length:Int)
           ·rw [if_pos c28] at H
            have c28b0:decide (x6_3 < (l1_1.length:Int))=true:=decide_eq_true c28
            clear c28
            by_cases c29:(rd l0_1 x6_3)=(rd l1_1 x6_3)
            ·rw [if_pos c29] at H
             have c29b0:((rd l0_1 x6_3) == (rd l1_1 x6_3))=true:=beq_iff_eq.mpr c29
             have c29b1:((rd l0_1 x6_3) != (rd l1_1 x6_3))=false:=bne_eq_false_iff_eq.mpr c29
             clear c29
             have H':=zm H
             clear H
             have hnb30:=NB239_240.out
             have hnc30:=NB240_239.out
             have hcz31_0:wr.cell? ⟨gb239,0,none⟩=some (.slice A0_0 l0_0.length c0_0):=(blk_cell BK239.out 0).trans rfl
             have hcz31_1:wr.cell? ⟨gb239,1,none⟩=some (.slice A0_1 l0_1.length c0_1):=(blk_cell BK239.out 1).trans rfl
             have hfz31_0:=blk_frozen BK239.out 0
             have hfz31_1:=blk_frozen BK239.out 1
             have p243:0≤(x6_3:Int):=of_decide_eq_true (by first|(with_reducible assumption)|assumption)
             have q243:x6_3 < (l0_1.length:Int):=of_decide_eq_true (by first|(with_reducible assumption)|assumption)
             obtain ⟨ad243,e243,hx243_0⟩:=Kd.at_int HR0_1.out x6_3 p243 q243
             cases e243
             replace hx243_0:=(HB.out.cell (World.block_lt_of_cell? w _ hx243_0)).trans hx243_0
             replace p243:=eq_true p243
             replace q243:=eq_true q243
             have hcz32_0:wr.cell? ⟨gb240,0,none⟩=some (.slice A1_0 l1_0.length c1_0):=(blk_cell BK240.out 0).trans rfl
             have hcz32_1:wr.cell? ⟨gb240,1,none⟩=some (.slice A1_1 l1_1.length c1_1):=(blk_cell BK240.out 1).trans rfl
             have hfz32_0:=blk_frozen BK240.out 0
             have hfz32_1:=blk_frozen BK240.out 1
             have p244:0≤(x6_3:Int):=of_decide_eq_true (by first|(with_reducible assumption)|assumption)
             have q244:x6_3 < (l1_1.length:Int):=of_decide_eq_true (by first|(with_reducible assumption)|assumption)
             obtain ⟨ad244,e244,hx244_0⟩:=Kd.at_int HR1_1.out x6_3 p244 q244
             cases e244
             replace hx244_0:=(HB.out.cell (World.block_lt_of_cell? w _ hx244_0)).trans hx244_0
             replace p244:=eq_true p244
             replace q244:=eq_true q244
             go_wp2
             repeat (go_quiet (fail);try go_wp2)
             go_roundg k3
             case measure=>have:=HJ2.out;have:=HK2.out;have:=HK3.out;omega
             case rel=>exact ⟨(wrap64 (x6_3 + 1)),(by first|rfl|(simp;done)|(simp [*];done)),H',⟨by have:=HJ2.out;have:=HK2.out;have:=HK3.out;omega⟩,⟨by (with_reducible repeat (first|refine zbN ?_ _|refine zbD ?_|refine zbA ?_ _));exact BK239.out⟩,⟨by (with_reducible repeat (first|refine zbN ?_ _|refine zbD ?_|refine zbA ?_ _));exact BK240.out⟩,⟨by repeat (first|(with_reducible first|exact HB.out|apply zlA|apply zlN|apply zlD|refine zlS ?_ GE239.out|refine zlS ?_ GE240.out)|exact HB.out)⟩⟩
            ·rw [if_neg c29] at H
             have c29b0:((rd l0_1 x6_3) == (rd l1_1 x6_3))=false:=beq_eq_false_iff_ne.mpr c29
             have c29b1:((rd l0_1 x6_3) != (rd l1_1 x6_3))=true:=bne_iff_ne.mpr c29
             obtain rfl:=Option.some.inj H
             have hnb33:=NB239_240.out
             have hnc33:=NB240_239.out
             have hcz34_0:wr.cell? ⟨gb239,0,none⟩=some (.slice A0_0 l0_0.length c0_0):=(blk_cell BK239.out 0).trans rfl
             have hcz34_1:wr.cell? ⟨gb239,1,none⟩=some (.slice A0_1 l0_1.length c0_1):=(blk_cell BK239.out 1).trans rfl
             have hfz34_0:=blk_frozen BK239.out 0
             have hfz34_1:=blk_frozen BK239.out 1
             have p243:0≤(x6_3:Int):=of_decide_eq_true (by first|(with_reducible assumption)|assumption)
             have q243:x6_3 < (l0_1.length:Int):=of_decide_eq_true (by first|(with_reducible assumption)|assumption)
             obtain ⟨ad243,e243,hx243_0⟩:=Kd.at_int HR0_1.out x6_3 p243 q243
             cases e243
             replace hx243_0:=(HB.out.cell (World.block_lt_of_cell? w _ hx243_0)).trans hx243_0
             replace p243:=eq_true p243
             replace q243:=eq_true q243
             have hcz35_0:wr.cell? ⟨gb240,0,none⟩=some (.slice A1_0 l1_0.length c1_0):=(blk_cell BK240.out 0).trans rfl
             have hcz35_1:wr.cell? ⟨gb240,1,none⟩=some (.slice A1_1 l1_1.length c1_1):=(blk_cell BK240.out 1).trans rfl
             have hfz35_0:=blk_frozen BK240.out 0
             have hfz35_1:=blk_frozen BK240.out 1
             have p244:0≤(x6_3:Int):=of_decide_eq_true (by first|(with_reducible assumption)|assumption)
             have q244:x6_3 < (l1_1.length:Int):=of_decide_eq_true (by first|(with_reducible assumption)|assumption)
             obtain ⟨ad244,e244,hx244_0⟩:=Kd.at_int HR1_1.out x6_3 p244 q244
             cases e244
             replace hx244_0:=(HB.out.cell (World.block_lt_of_cell? w _ hx244_0)).trans hx244_0
             replace p244:=eq_true p244
             replace q244:=eq_true q244
             go_wp2
             repeat (go_quiet (fail);try go_wp2)
             go_ret
             exact ⟨by first|rfl|(simp [errW_none,errW_some] <;> rfl)|(simp [*,errW_none,errW_some] <;> rfl),by repeat (first|(with_reducible first|exact HB.out|apply zlA|apply zlN|apply zlD|refine zlS ?_ GE239.out|refine zlS ?_ GE240.out)|exact HB.out)⟩
           ·rw [if_neg c28] at H
            exact absurd H (by simp)
          ·rw [if_neg c27] at H
           exact absurd H (by simp)
         ·rw [if_neg c26] at H
          have c26b0:decide (x6_3 < (l0_1.length:Int))=false:=decide_eq_false c26
          clear c26
          obtain rfl:=Option.some.inj H
          have hnb36:=NB239_240.out
          have hnc36:=NB240_239.out
          have hcz37_0:wr.cell? ⟨gb239,0,none⟩=some (.slice A0_0 l0_0.length c0_0):=(blk_cell BK239.out 0).trans rfl
          have hcz37_1:wr.cell? ⟨gb239,1,none⟩=some (.slice A0_1 l0_1.length c0_1):=(blk_cell BK239.out 1).trans rfl
          have hfz37_0:=blk_frozen BK239.out 0
          have hfz37_1:=blk_frozen BK239.out 1
          go_wp2
          repeat (go_quiet (fail);try go_wp2)
          go_ret
          exact ⟨by first|rfl|(simp [errW_none,errW_some] <;> rfl)|(simp [*,errW_none,errW_some] <;> rfl),by repeat (first|(with_reducible first|exact HB.out|apply zlA|apply zlN|apply zlD|refine zlS ?_ GE239.out|refine zlS ?_ GE240.out)|exact HB.out)⟩
end Go.Proofs.Ytlegmnpngcadhaa.Print
end
section
namespace Go.Proofs.Ytlegmnpngcadhaa.Print
open Go.RowKit Go.Proofs.YtlegmnpngcadhaaW.PrintWords Go.Proofs.YtlegmnpngcadhaaW.PrintLast Go.Proofs.YtlegmnpngcadhaaW.PrintMore
attribute [local go_sem] max2_int min2_int max_two min_two max_three min_three max_four min_four   -- for this text's walks alone
attribute [local go_sem ↓] Go.Proofs.Ytlegmnpngcadhaa.Sem.isSome_setCell
attribute [local go_sem] Go.Instr.field Go.asAgg
set_option linter.unusedVariables false
set_option linter.unusedSimpArgs false
def slipwaylaw04_PoolMakes.f (k:Nat) (l0_0:List Int) (l0_1:List Int) (a1:Int) (l2:List Int) (a3_0:Int) (a3_1:Int) (a4:Int) (a5:Int) (a6:Int):Option (Bool):=(pool_New.f k a1 l2).bind fun bt247=>((slipwayref04_New.f k a1 l2).bind fun bt255=>((pool_Capacity.f k a3_0 a3_1 a4 a5 a6).bind fun bt263=>((slipwayref04_Capacity.f k a3_0 a3_1 a4 a5 a6).bind fun bt265=>((slipwaylaw04_begun.f k).bind fun t267=>(if t267=true then ((pool_Check.f k l0_0 l0_1).bind fun t268=>((slipwayref04_Check.f k l0_0 l0_1).bind fun t269=>(if t268=t269 then ((slipwayref04_Same.f k bt247.1 bt247.2.1 bt255.1 bt255.2.1).bind fun t270=>(if t270=true then (if bt247.2.2=bt255.2.2 then (if bt263.1=bt265.1 then (some (bt263.2 == bt265.2)) else (none)) else (none)) else (none))) else (none)))) else (none))))))
def slipwaylaw04_PoolMakes.T5:Bool × List (List Nat × List Nat):=(true,[([],[]),([0,0],[0]),([1],[1]),([2,1,1],[1,2]),([1],[1]),([4,3,1],[1,4]),([3,5,1],[1,3,5]),([1,6],[1,6]),([7,5],[7]),([8],[8]),([8],[8]),([9,10,8,8],[8,9,10]),([8,11],[8,11]),([12,11],[12]),([13],[13]),([13],[13]),([14,15,13],[13,14,15]),([13,16],[13,16]),([17,13],[17]),([18],[18]),([18],[18]),([19,20,18],[18,19,20]),([18,21],[18,21]),([22,18],[22]),([23],[23]),([23],[23]),([24,25,23],[23,24,25]),([23,26],[23,26]),([27,23,0,1,2,3,4,5,6,7,8,9,10,11,12,13,14,15,16,17,18,19,20,21,22,23,24,25,26,27],[27])])
def slipwaylaw04_PoolMakes.B5:List Nat:=[0,1,3,7,3,31,63,127,255,511,511,2047,4095,8191,16383,16383,65535,131071,262143,524287,524287,2097151,4194303,8388607,16777215,16777215,67108863,134217727,268435455]
theorem slipwaylaw04_PoolMakes.tab5:rtab .any (opsOf Try.f3 5)=slipwaylaw04_PoolMakes.T5:=by kernel_rfl
theorem slipwaylaw04_PoolMakes.bits5:waitsOk slipwaylaw04_PoolMakes.T5.2 slipwaylaw04_PoolMakes.B5=true:=by kernel_rfl
set_option maxHeartbeats 8000000 in
set_option maxRecDepth 100000 in
theorem slipwaylaw04_PoolMakes.calls (k:Nat) (A0_0:Option Addr) (c0_0:Nat) (l0_0:List Int) (A0_1:Option Addr) (c0_1:Nat) (l0_1:List Int) (a1:Int) (A2:Option Addr) (c2:Nat) (l2:List Int) (a3_0:Int) (a3_1:Int) (a4:Int) (a5:Int) (a6:Int) (r:Bool) (w:World) (hr0_0:Kd.C (Kd.int .i64) w A0_0 l0_0.length l0_0) (hc0_0:l0_0.length≤c0_0) (hr0_1:Kd.C (Kd.int .i64) w A0_1 l0_1.length l0_1) (hc0_1:l0_1.length≤c0_1) (hr2:Kd.C (Kd.int .i64) w A2 l2.length l2) (hc2:l2.length≤c2) (h:slipwaylaw04_PoolMakes.f k l0_0 l0_1 a1 l2 a3_0 a3_1 a4 a5 a6=some r) :
  Calls Try.prog 3 #[.agg #[.slice A0_0 l0_0.length c0_0,.slice A0_1 l0_1.length c0_1],.int .i64 a1,.slice A2 l2.length c2,.agg #[.int .i64 a3_0,.int .i64 a3_1],.int .i64 a4,.int .i64 a5,.int .i64 a6] w fun e w'=>e=.returned (.bool r)∧Below w.heap.size w w':=by
 have hu25:=Try.underlying25
 have hu27:=Try.underlying27
 have HR0_0:=zm hr0_0
 have HC0_0:=zm hc0_0
 clear hr0_0 hc0_0
 have HR0_1:=zm hr0_1
 have HC0_1:=zm hc0_1
 clear hr0_1 hc0_1
 have HR2:=zm hr2
 have HC2:=zm hc2
 clear hr2 hc2
 have HB:=zm (Below.refl w.heap.size w)
 have H:((pool_New.f k a1 l2).bind fun bt247=>((slipwayref04_New.f k a1 l2).bind fun bt255=>((pool_Capacity.f k a3_0 a3_1 a4 a5 a6).bind fun bt263=>((slipwayref04_Capacity.f k a3_0 a3_1 a4 a5 a6).bind fun bt265=>((slipwaylaw04_begun.f k).bind fun t267=>(if t267=true then ((pool_Check.f k l0_0 l0_1).bind fun t268=>((slipwayref04_Check.f k l0_0 l0_1).bind fun t269=>(if t268=t269 then ((slipwayref04_Same.f k bt247.1 bt247.2.1 bt255.1 bt255.2.1).bind fun t270=>(if t270=true then (if bt247.2.2=bt255.2.2 then (if bt263.1=bt265.1 then (some (bt263.2 == bt265.2)) else (none)) else (none)) else (none))) else (none)))) else (none)))))))=some r:=h
 clear h
 replace H:=Option.bind_eq_some_iff.mp H
 obtain ⟨⟨t247,t250,t253⟩,A80,H⟩:=H
 replace H:((slipwayref04_New.f k a1 l2).bind fun bt255=>((pool_Capacity.f k a3_0 a3_1 a4 a5 a6).bind fun bt263=>((slipwayref04_Capacity.f k a3_0 a3_1 a4 a5 a6).bind fun bt265=>((slipwaylaw04_begun.f k).bind fun t267=>(if t267=true then ((pool_Check.f k l0_0 l0_1).bind fun t268=>((slipwayref04_Check.f k l0_0 l0_1).bind fun t269=>(if t268=t269 then ((slipwayref04_Same.f k t247 t250 bt255.1 bt255.2.1).bind fun t270=>(if t270=true then (if t253=bt255.2.2 then (if bt263.1=bt265.1 then (some (bt263.2 == bt265.2)) else (none)) else (none)) else (none))) else (none)))) else (none))))))=some r:=H
 have A8:=zm A80
 clear A80
 replace H:=Option.bind_eq_some_iff.mp H
 obtain ⟨⟨t255,t258,t261⟩,A90,H⟩:=H
 replace H:((pool_Capacity.f k a3_0 a3_1 a4 a5 a6).bind fun bt263=>((slipwayref04_Capacity.f k a3_0 a3_1 a4 a5 a6).bind fun bt265=>((slipwaylaw04_begun.f k).bind fun t267=>(if t267=true then ((pool_Check.f k l0_0 l0_1).bind fun t268=>((slipwayref04_Check.f k l0_0 l0_1).bind fun t269=>(if t268=t269 then ((slipwayref04_Same.f k t247 t250 t255 t258).bind fun t270=>(if t270=true then (if t253=t261 then (if bt263.1=bt265.1 then (some (bt263.2 == bt265.2)) else (none)) else (none)) else (none))) else (none)))) else (none)))))=some r:=H
 have A9:=zm A90
 clear A90
 replace H:=Option.bind_eq_some_iff.mp H
 obtain ⟨⟨t263,t264⟩,A100,H⟩:=H
 replace H:((slipwayref04_Capacity.f k a3_0 a3_1 a4 a5 a6).bind fun bt265=>((slipwaylaw04_begun.f k).bind fun t267=>(if t267=true then ((pool_Check.f k l0_0 l0_1).bind fun t268=>((slipwayref04_Check.f k l0_0 l0_1).bind fun t269=>(if t268=t269 then ((slipwayref04_Same.f k t247 t250 t255 t258).bind fun t270=>(if t270=true then (if t253=t261 then (if t263=bt265.1 then (some (t264 == bt265.2)) else (none)) else (none)) else (none))) else (none)))) else (none))))=some r:=H
 have A10:=zm A100
 clear A100
 replace H:=Option.bind_eq_some_iff.mp H
 obtain ⟨⟨t265,t266⟩,A110,H⟩:=H
 replace H:((slipwaylaw04_begun.f k).bind fun t267=>(if t267=true then ((pool_Check.f k l0_0 l0_1).bind fun t268=>((slipwayref04_Check.f k l0_0 l0_1).bind fun t269=>(if t268=t269 then ((slipwayref04_Same.f k t247 t250 t255 t258).bind fun t270=>(if t270=true then (if t253=t261 then (if t263=t265 then (some (t264 == t266)) else (none)) else (none)) else (none))) else (none)))) else (none)))=some r:=H
 have A11:=zm A110
 clear A110
 replace H:=Option.bind_eq_some_iff.mp H
 obtain ⟨t267,A120,H⟩:=H
 replace H:(if t267=true then ((pool_Check.f k l0_0 l0_1).bind fun t268=>((slipwayref04_Check.f k l0_0 l0_1).bind fun t269=>(if t268=t269 then ((slipwayref04_Same.f k t247 t250 t255 t258).bind fun t270=>(if t270=true then (if t253=t261 then (if t263=t265 then (some (t264 == t266)) else (none)) else (none)) else (none))) else (none)))) else (none))=some r:=H
 have A12:=zm A120
 clear A120
 by_cases c13:t267=true
 ·subst c13
  have H1:((pool_Check.f k l0_0 l0_1).bind fun t268=>((slipwayref04_Check.f k l0_0 l0_1).bind fun t269=>(if t268=t269 then ((slipwayref04_Same.f k t247 t250 t255 t258).bind fun t270=>(if t270=true then (if t253=t261 then (if t263=t265 then (some (t264 == t266)) else (none)) else (none)) else (none))) else (none))))=some r:=by rw [if_pos rfl] at H;exact H
  clear H
  have H:=H1
  clear H1
  replace H:=Option.bind_eq_some_iff.mp H
  obtain ⟨t268,A140,H⟩:=H
  replace H:((slipwayref04_Check.f k l0_0 l0_1).bind fun t269=>(if t268=t269 then ((slipwayref04_Same.f k t247 t250 t255 t258).bind fun t270=>(if t270=true then (if t253=t261 then (if t263=t265 then (some (t264 == t266)) else (none)) else (none)) else (none))) else (none)))=some r:=H
  have A14:=zm A140
  clear A140
  replace H:=Option.bind_eq_some_iff.mp H
  obtain ⟨t269,A150,H⟩:=H
  replace H:(if t268=t269 then ((slipwayref04_Same.f k t247 t250 t255 t258).bind fun t270=>(if t270=true then (if t253=t261 then (if t263=t265 then (some (t264 == t266)) else (none)) else (none)) else (none))) else (none))=some r:=H
  have A15:=zm A150
  clear A150
  by_cases c16:t268=t269
  ·rw [if_pos c16] at H
   have c16b0:(t268 == t269)=true:=beq_iff_eq.mpr c16
   have c16b1:(t268 != t269)=false:=bne_eq_false_iff_eq.mpr c16
   clear c16
   replace H:=Option.bind_eq_some_iff.mp H
   obtain ⟨t270,A170,H⟩:=H
   replace H:(if t270=true then (if t253=t261 then (if t263=t265 then (some (t264 == t266)) else (none)) else (none)) else (none))=some r:=H
   have A17:=zm A170
   clear A170
   by_cases c18:t270=true
   ·subst c18
    have H1:(if t253=t261 then (if t263=t265 then (some (t264 == t266)) else (none)) else (none))=some r:=by rw [if_pos rfl] at H;exact H
    clear H
    have H:=H1
    clear H1
    by_cases c19:t253=t261
    ·rw [if_pos c19] at H
     have c19b0:(t253 == t261)=true:=beq_iff_eq.mpr c19
     have c19b1:(t253 != t261)=false:=bne_eq_false_iff_eq.mpr c19
     clear c19
     by_cases c20:t263=t265
     ·rw [if_pos c20] at H
      have c20b0:(t263 == t265)=true:=beq_iff_eq.mpr c20
      have c20b1:(t263 != t265)=false:=bne_eq_false_iff_eq.mpr c20
      clear c20
      obtain rfl:=Option.some.inj H
      go_enter Try.func3,Try.ntmps3
      try go_wp2_with (first|((with_reducible refine gate_dst (N:=7) rfl ?_);refine box_event ?hg (N:=7) ?hd (cs:=#[.slice A0_0 l0_0.length c0_0,.slice A0_1 l0_1.length c0_1]) (t:=25) ?hr ?_;(case hd=>rfl);(case hg=>rfl);(case hr=>first|(go_simp;done)|(go_simp;rfl));intro gb245 hg w21 hbox hb;have n0_:=zm (below_step (by repeat (first|(with_reducible first|exact HB.out|apply zlA|apply zlN|apply zlD)|exact HB.out)) hb);have n1_:=zm (hbox);have n2_:=zm ((by rw [hg];exact (below_size (by repeat (first|(with_reducible first|exact HB.out|apply zlA|apply zlN|apply zlD)|exact HB.out))):w.heap.size≤gb245));have n3_:=zm ((by rw [hg];exact (below_size (by repeat (first|(with_reducible first|exact HB.out|apply zlA|apply zlN|apply zlD)|exact HB.out))):w.heap.size≤gb245));clear HB;have HB:=n0_;have BK245:=n1_;have GW245:=n2_;have GE245:=n3_;clear n0_ n1_ n2_ n3_;clear hb hbox hg)|((with_reducible refine gate_dst (N:=10) rfl ?_);refine box_event ?hg (N:=10) ?hd (cs:=#[.int .i64 a3_0,.int .i64 a3_1]) (t:=27) ?hr ?_;(case hd=>rfl);(case hg=>rfl);(case hr=>first|(go_simp;done)|(go_simp;rfl));intro gb246 hg w22 hbox hb;have n0_:=zm (zbB (g:=gb245) (o:=.cells #[.slice A0_0 l0_0.length c0_0,.slice A0_1 l0_1.length c0_1] 25 (0,0)) (by (with_reducible repeat (first|refine zbN ?_ _|refine zbD ?_|refine zbA ?_ _));exact BK245.out) hb);have n1_:=zm (below_step (by repeat (first|(with_reducible first|exact HB.out|apply zlA|apply zlN|apply zlD|refine zlS ?_ GE245.out)|exact HB.out)) hb);have n2_:=zm (hbox);have n3_:=zm ((by rw [hg];exact (below_size (by repeat (first|(with_reducible first|exact HB.out|apply zlA|apply zlN|apply zlD|refine zlS ?_ GE245.out)|exact HB.out))):w.heap.size≤gb246));have n4_:=zm ((by rw [hg];exact (below_size (by repeat (first|(with_reducible first|exact HB.out|apply zlA|apply zlN|apply zlD|refine zlS ?_ GE245.out)|exact HB.out))):w.heap.size≤gb246));have n5_:=zm ((by rw [hg];exact Nat.ne_of_lt (blk_lt (g:=gb245) (o:=.cells #[.slice A0_0 l0_0.length c0_0,.slice A0_1 l0_1.length c0_1] 25 (0,0)) (by (with_reducible repeat (first|refine zbN ?_ _|refine zbD ?_|refine zbA ?_ _));exact BK245.out)):gb245≠gb246));have n6_:=zm ((by rw [hg];exact Nat.ne_of_gt (blk_lt (g:=gb245) (o:=.cells #[.slice A0_0 l0_0.length c0_0,.slice A0_1 l0_1.length c0_1] 25 (0,0)) (by (with_reducible repeat (first|refine zbN ?_ _|refine zbD ?_|refine zbA ?_ _));exact BK245.out)):gb246≠gb245));clear BK245 HB;have BK245:=n0_;have HB:=n1_;have BK246:=n2_;have GW246:=n3_;have GE246:=n4_;have NB245_246:=n5_;have NB246_245:=n6_;clear n0_ n1_ n2_ n3_ n4_ n5_ n6_;clear hb hbox hg)|((with_reducible refine gate_callee (f:=8) rfl ?_);refine goesL_ (some 26) rfl rfl Try.func8 (by kernel_rfl) rfl #[.int .i64 a1,.slice A2 l2.length c2] rfl (by (try simp only [List.map_toArray,List.map_cons,List.map_nil]);first|done|rfl|(simp only [List.length_drop,List.length_take];rfl)) ?_;(with_reducible refine (pool_New.calls k a1 _ _ l2 t247 t250 t253 _ ?side1 ?side2 A8.out).mono ?_);(case side1=>repeat (first|exact (Kd.C_below HR2.out HB.out)|(with_reducible refine Kd.C_alloc ?_ _)|(with_reducible refine Kd.C_drewN ?_ _)|(with_reducible refine Kd.C_drew ?_)));(case side2=>exact HC2.out);rintro e w23 ⟨v248,v251,rfl,ho0,ho1,hb⟩;refine ⟨_,rfl,?_⟩;have n0_:=zm (Kd.R_lower ho0 (below_size (by repeat (first|(with_reducible first|exact HB.out|apply zlA|apply zlN|apply zlD|refine zlS ?_ GE245.out|refine zlS ?_ GE246.out)|exact HB.out))));have n1_:=zm (Kd.R_lower ho1 (below_size (by repeat (first|(with_reducible first|exact HB.out|apply zlA|apply zlN|apply zlD|refine zlS ?_ GE245.out|refine zlS ?_ GE246.out)|exact HB.out))));have n2_:=zm (zbB (g:=gb245) (o:=.cells #[.slice A0_0 l0_0.length c0_0,.slice A0_1 l0_1.length c0_1] 25 (0,0)) (by (with_reducible repeat (first|refine zbN ?_ _|refine zbD ?_|refine zbA ?_ _));exact BK245.out) hb);have n3_:=zm (zbB (g:=gb246) (o:=.cells #[.int .i64 a3_0,.int .i64 a3_1] 27 (0,0)) (by (with_reducible repeat (first|refine zbN ?_ _|refine zbD ?_|refine zbA ?_ _));exact BK246.out) hb);have n4_:=zm (below_step (by repeat (first|(with_reducible first|exact HB.out|apply zlA|apply zlN|apply zlD|refine zlS ?_ GE245.out|refine zlS ?_ GE246.out)|exact HB.out)) hb);clear BK245 BK246 HB;have HO249:=n0_;have HO252:=n1_;have BK245:=n2_;have BK246:=n3_;have HB:=n4_;clear n0_ n1_ n2_ n3_ n4_;(try clear hb);(try clear hb2);(try clear hk);(try clear hi);(try clear ho0);(try clear ho1))|((with_reducible refine gate_dst (N:=15) rfl ?_);refine box_event ?hg (N:=15) ?hd (cs:=#[.slice none 0 0,.slice none 0 0]) (t:=25) ?hr ?_;(case hd=>rfl);(case hg=>rfl);(case hr=>first|(go_simp;done)|(go_simp;rfl));intro gb254 hg w24 hbox hb;have n0_:=zm (Kd.R_below (by (with_reducible repeat (first|apply zrA|apply zrN|apply zrD));exact HO249.out) hb);have n1_:=zm (Kd.R_below (by (with_reducible repeat (first|apply zrA|apply zrN|apply zrD));exact HO252.out) hb);have n2_:=zm (zbB (g:=gb245) (o:=.cells #[.slice A0_0 l0_0.length c0_0,.slice A0_1 l0_1.length c0_1] 25 (0,0)) (by (with_reducible repeat (first|refine zbN ?_ _|refine zbD ?_|refine zbA ?_ _));exact BK245.out) hb);have n3_:=zm (zbB (g:=gb246) (o:=.cells #[.int .i64 a3_0,.int .i64 a3_1] 27 (0,0)) (by (with_reducible repeat (first|refine zbN ?_ _|refine zbD ?_|refine zbA ?_ _));exact BK246.out) hb);have n4_:=zm (below_step (by repeat (first|(with_reducible first|exact HB.out|apply zlA|apply zlN|apply zlD|refine zlS ?_ GE245.out|refine zlS ?_ GE246.out)|exact HB.out)) hb);have n5_:=zm (hbox);have n6_:=zm ((by rw [hg];exact (below_size (by repeat (first|(with_reducible first|exact HB.out|apply zlA|apply zlN|apply zlD|refine zlS ?_ GE245.out|refine zlS ?_ GE246.out)|exact HB.out))):w.heap.size≤gb254));have n7_:=zm ((by rw [hg];exact (below_size (by repeat (first|(with_reducible first|exact HB.out|apply zlA|apply zlN|apply zlD|refine zlS ?_ GE245.out|refine zlS ?_ GE246.out)|exact HB.out))):w.heap.size≤gb254));have n8_:=zm ((by rw [hg];exact Nat.ne_of_lt (blk_lt (g:=gb245) (o:=.cells #[.slice A0_0 l0_0.length c0_0,.slice A0_1 l0_1.length c0_1] 25 (0,0)) (by (with_reducible repeat (first|refine zbN ?_ _|refine zbD ?_|refine zbA ?_ _));exact BK245.out)):gb245≠gb254));have n9_:=zm ((by rw [hg];exact Nat.ne_of_gt (blk_lt (g:=gb245) (o:=.cells #[.slice A0_0 l0_0.length c0_0,.slice A0_1 l0_1.length c0_1] 25 (0,0)) (by (with_reducible repeat (first|refine zbN ?_ _|refine zbD ?_|refine zbA ?_ _));exact BK245.out)):gb254≠gb245));have n10_:=zm ((by rw [hg];exact Nat.ne_of_lt (blk_lt (g:=gb246) (o:=.cells #[.int .i64 a3_0,.int .i64 a3_1] 27 (0,0)) (by (with_reducible repeat (first|refine zbN ?_ _|refine zbD ?_|refine zbA ?_ _));exact BK246.out)):gb246≠gb254));have n11_:=zm ((by rw [hg];exact Nat.ne_of_gt (blk_lt (g:=gb246) (o:=.cells #[.int .i64 a3_0,.int .i64 a3_1] 27 (0,0)) (by (with_reducible repeat (first|refine zbN ?_ _|refine zbD ?_|refine zbA ?_ _));exact BK246.out)):gb254≠gb246));clear HO249 HO252 BK245 BK246 HB;have HO249:=n0_;have HO252:=n1_;have BK245:=n2_;have BK246:=n3_;have HB:=n4_;have BK254:=n5_;have GW254:=n6_;have GE254:=n7_;have NB245_254:=n8_;have NB254_245:=n9_;have NB246_254:=n10_;have NB254_246:=n11_;clear n0_ n1_ n2_ n3_ n4_ n5_ n6_ n7_ n8_ n9_ n10_ n11_;clear hb hbox hg;obtain ⟨Ao25,co25,eo25⟩:=Kd.R_slice HO249.out;subst eo25;have hnb26:=NB254_245.out;have hnc26:=NB245_254.out;have hnb27:=NB254_246.out;have hnc27:=NB246_254.out;have hcz28_0:w24.cell? ⟨gb254,0,none⟩=some (.slice none 0 0):=(blk_cell BK254.out 0).trans rfl;have hcz28_1:w24.cell? ⟨gb254,1,none⟩=some (.slice none 0 0):=(blk_cell BK254.out 1).trans rfl;have hfz28_0:=blk_frozen BK254.out 0;have hfz28_1:=blk_frozen BK254.out 1;obtain ⟨Ao29,co29,eo29⟩:=Kd.R_slice HO252.out;subst eo29)|((with_reducible refine gate_callee (f:=9) rfl ?_);refine goesL_ (some 32) rfl rfl Try.func9 (by kernel_rfl) rfl #[.int .i64 a1,.slice A2 l2.length c2] rfl (by (try simp only [List.map_toArray,List.map_cons,List.map_nil]);first|done|rfl|(simp only [List.length_drop,List.length_take];rfl)) ?_;(with_reducible refine (slipwayref04_New.calls k a1 _ _ l2 t255 t258 t261 _ ?side1 ?side2 A9.out).mono ?_);(case side1=>exact Kd.C_below HR2.out (by repeat (first|(with_reducible first|exact HB.out|apply zlA|apply zlN|apply zlD|refine zlS ?_ GE245.out|refine zlS ?_ GE246.out|refine zlS ?_ GE254.out)|exact HB.out)));(case side2=>exact HC2.out);rintro e w30 ⟨v256,v259,rfl,ho0,ho1,hb⟩;refine ⟨_,rfl,?_⟩;have n0_:=zm (Kd.R_elder' (by (with_reducible repeat (first|apply zrA|apply zrN|apply zrD));exact (Kd.R_mono (Kd.R_far (p:=⟨gb254,1,none⟩) (Kd.R_far (p:=⟨gb254,0,none⟩) (Kd.R_types HO249.out BK254.out (by decide)) (fun _ hk=>hk.2) (.slice Ao25 t247.length co25)) (fun _ hk=>hk.2) (.slice Ao29 t250.length co29)) (fun _ h_=>h_.1))) (Kd.R_base ho0) hb);have n1_:=zm (Kd.R_elder' (by (with_reducible repeat (first|apply zrA|apply zrN|apply zrD));exact (Kd.R_mono (Kd.R_far (p:=⟨gb254,1,none⟩) (Kd.R_far (p:=⟨gb254,0,none⟩) (Kd.R_types HO252.out BK254.out (by decide)) (fun _ hk=>hk.2) (.slice Ao25 t247.length co25)) (fun _ hk=>hk.2) (.slice Ao29 t250.length co29)) (fun _ h_=>h_.1))) (Kd.R_base ho1) hb);have n2_:=zm (Kd.R_lower (Kd.R_new' ho0 (Kd.R_lt (by (with_reducible repeat (first|apply zrA|apply zrN|apply zrD));exact (Kd.R_mono (Kd.R_far (p:=⟨gb254,1,none⟩) (Kd.R_far (p:=⟨gb254,0,none⟩) (Kd.R_types HO249.out BK254.out (by decide)) (fun _ hk=>hk.2) (.slice Ao25 t247.length co25)) (fun _ hk=>hk.2) (.slice Ao29 t250.length co29)) (fun _ h_=>h_.1))))) (below_size (by repeat (first|(with_reducible first|exact HB.out|apply zlA|apply zlN|apply zlD|refine zlS ?_ GE245.out|refine zlS ?_ GE246.out|refine zlS ?_ GE254.out)|exact HB.out))));have n3_:=zm (Kd.R_lower (Kd.R_new' ho1 (Kd.R_lt (by (with_reducible repeat (first|apply zrA|apply zrN|apply zrD));exact (Kd.R_mono (Kd.R_far (p:=⟨gb254,1,none⟩) (Kd.R_far (p:=⟨gb254,0,none⟩) (Kd.R_types HO252.out BK254.out (by decide)) (fun _ hk=>hk.2) (.slice Ao25 t247.length co25)) (fun _ hk=>hk.2) (.slice Ao29 t250.length co29)) (fun _ h_=>h_.1))))) (below_size (by repeat (first|(with_reducible first|exact HB.out|apply zlA|apply zlN|apply zlD|refine zlS ?_ GE245.out|refine zlS ?_ GE246.out|refine zlS ?_ GE254.out)|exact HB.out))));have n4_:=zm (zbB (g:=gb245) (o:=.cells #[.slice A0_0 l0_0.length c0_0,.slice A0_1 l0_1.length c0_1] 25 (0,0)) (by (with_reducible repeat (first|refine zbN ?_ _|refine zbD ?_|refine zbA ?_ _));refine blk_far ?_ NB245_254.out _;(with_reducible repeat (first|refine zbN ?_ _|refine zbD ?_|refine zbA ?_ _));refine blk_far ?_ NB245_254.out _;(with_reducible repeat (first|refine zbN ?_ _|refine zbD ?_|refine zbA ?_ _));exact BK245.out) hb);have n5_:=zm (zbB (g:=gb246) (o:=.cells #[.int .i64 a3_0,.int .i64 a3_1] 27 (0,0)) (by (with_reducible repeat (first|refine zbN ?_ _|refine zbD ?_|refine zbA ?_ _));refine blk_far ?_ NB246_254.out _;(with_reducible repeat (first|refine zbN ?_ _|refine zbD ?_|refine zbA ?_ _));refine blk_far ?_ NB246_254.out _;(with_reducible repeat (first|refine zbN ?_ _|refine zbD ?_|refine zbA ?_ _));exact BK246.out) hb);have n6_:=zm (zbB (g:=gb254) (o:=.cells #[.slice Ao25 t247.length co25,.slice Ao29 t250.length co29] 25 (0,0)) (by (with_reducible repeat (first|refine zbN ?_ _|refine zbD ?_|refine zbA ?_ _));refine blk_put (cs:=#[.slice Ao25 t247.length co25,.slice none 0 0]) ?_ 1 _ rfl;(with_reducible repeat (first|refine zbN ?_ _|refine zbD ?_|refine zbA ?_ _));refine blk_put (cs:=#[.slice none 0 0,.slice none 0 0]) ?_ 0 _ rfl;(with_reducible repeat (first|refine zbN ?_ _|refine zbD ?_|refine zbA ?_ _));exact BK254.out) hb);have n7_:=zm (below_step (by repeat (first|(with_reducible first|exact HB.out|apply zlA|apply zlN|apply zlD|refine zlS ?_ GE245.out|refine zlS ?_ GE246.out|refine zlS ?_ GE254.out)|exact HB.out)) hb);clear HO249 HO252 BK245 BK246 BK254 HB;have HO249:=n0_;have HO252:=n1_;have HO257:=n2_;have HO260:=n3_;have BK245:=n4_;have BK246:=n5_;have BK254:=n6_;have HB:=n7_;clear n0_ n1_ n2_ n3_ n4_ n5_ n6_ n7_;(try clear hb);(try clear hb2);(try clear hk);(try clear hi);(try clear ho0);(try clear ho1))|((with_reducible refine gate_dst (N:=17) rfl ?_);refine box_event ?hg (N:=17) ?hd (cs:=#[.slice none 0 0,.slice none 0 0]) (t:=25) ?hr ?_;(case hd=>rfl);(case hg=>rfl);(case hr=>first|(go_simp;done)|(go_simp;rfl));intro gb262 hg w31 hbox hb;have n0_:=zm (Kd.R_below (by (with_reducible repeat (first|apply zrA|apply zrN|apply zrD));exact HO249.out) hb);have n1_:=zm (Kd.R_below (by (with_reducible repeat (first|apply zrA|apply zrN|apply zrD));exact HO252.out) hb);have n2_:=zm (Kd.R_below (by (with_reducible repeat (first|apply zrA|apply zrN|apply zrD));exact HO257.out) hb);have n3_:=zm (Kd.R_below (by (with_reducible repeat (first|apply zrA|apply zrN|apply zrD));exact HO260.out) hb);have n4_:=zm (zbB (g:=gb245) (o:=.cells #[.slice A0_0 l0_0.length c0_0,.slice A0_1 l0_1.length c0_1] 25 (0,0)) (by (with_reducible repeat (first|refine zbN ?_ _|refine zbD ?_|refine zbA ?_ _));exact BK245.out) hb);have n5_:=zm (zbB (g:=gb246) (o:=.cells #[.int .i64 a3_0,.int .i64 a3_1] 27 (0,0)) (by (with_reducible repeat (first|refine zbN ?_ _|refine zbD ?_|refine zbA ?_ _));exact BK246.out) hb);have n6_:=zm (zbB (g:=gb254) (o:=.cells #[.slice Ao25 t247.length co25,.slice Ao29 t250.length co29] 25 (0,0)) (by (with_reducible repeat (first|refine zbN ?_ _|refine zbD ?_|refine zbA ?_ _));exact BK254.out) hb);have n7_:=zm (below_step (by repeat (first|(with_reducible first|exact HB.out|apply zlA|apply zlN|apply zlD|refine zlS ?_ GE245.out|refine zlS ?_ GE246.out|refine zlS ?_ GE254.out)|exact HB.out)) hb);have n8_:=zm (hbox);have n9_:=zm ((by rw [hg];exact (below_size (by repeat (first|(with_reducible first|exact HB.out|apply zlA|apply zlN|apply zlD|refine zlS ?_ GE245.out|refine zlS ?_ GE246.out|refine zlS ?_ GE254.out)|exact HB.out))):w.heap.size≤gb262));have n10_:=zm ((by rw [hg];exact (below_size (by repeat (first|(with_reducible first|exact HB.out|apply zlA|apply zlN|apply zlD|refine zlS ?_ GE245.out|refine zlS ?_ GE246.out|refine zlS ?_ GE254.out)|exact HB.out))):w.heap.size≤gb262));have n11_:=zm ((by rw [hg];exact Nat.ne_of_lt (blk_lt (g:=gb245) (o:=.cells #[.slice A0_0 l0_0.length c0_0,.slice A0_1 l0_1.length c0_1] 25 (0,0)) (by (with_reducible repeat (first|refine zbN ?_ _|refine zbD ?_|refine zbA ?_ _));exact BK245.out)):gb245≠gb262));have n12_:=zm ((by rw [hg];exact Nat.ne_of_gt (blk_lt (g:=gb245) (o:=.cells #[.slice A0_0 l0_0.length c0_0,.slice A0_1 l0_1.length c0_1] 25 (0,0)) (by (with_reducible repeat (first|refine zbN ?_ _|refine zbD ?_|refine zbA ?_ _));exact BK245.out)):gb262≠gb245));have n13_:=zm ((by rw [hg];exact Nat.ne_of_lt (blk_lt (g:=gb246) (o:=.cells #[.int .i64 a3_0,.int .i64 a3_1] 27 (0,0)) (by (with_reducible repeat (first|refine zbN ?_ _|refine zbD ?_|refine zbA ?_ _));exact BK246.out)):gb246≠gb262));have n14_:=zm ((by rw [hg];exact Nat.ne_of_gt (blk_lt (g:=gb246) (o:=.cells #[.int .i64 a3_0,.int .i64 a3_1] 27 (0,0)) (by (with_reducible repeat (first|refine zbN ?_ _|refine zbD ?_|refine zbA ?_ _));exact BK246.out)):gb262≠gb246));have n15_:=zm ((by rw [hg];exact Nat.ne_of_lt (blk_lt (g:=gb254) (o:=.cells #[.slice Ao25 t247.length co25,.slice Ao29 t250.length co29] 25 (0,0)) (by (with_reducible repeat (first|refine zbN ?_ _|refine zbD ?_|refine zbA ?_ _));exact BK254.out)):gb254≠gb262));have n16_:=zm ((by rw [hg];exact Nat.ne_of_gt (blk_lt (g:=gb254) (o:=.cells #[.slice Ao25 t247.length co25,.slice Ao29 t250.length co29] 25 (0,0)) (by (with_reducible repeat (first|refine zbN ?_ _|refine zbD ?_|refine zbA ?_ _));exact BK254.out)):gb262≠gb254));clear HO249 HO252 HO257 HO260 BK245 BK246 BK254 HB;have HO249:=n0_;have HO252:=n1_;have HO257:=n2_;have HO260:=n3_;have BK245:=n4_;have BK246:=n5_;have BK254:=n6_;have HB:=n7_;have BK262:=n8_;have GW262:=n9_;have GE262:=n10_;have NB245_262:=n11_;have NB262_245:=n12_;have NB246_262:=n13_;have NB262_246:=n14_;have NB254_262:=n15_;have NB262_254:=n16_;clear n0_ n1_ n2_ n3_ n4_ n5_ n6_ n7_ n8_ n9_ n10_ n11_ n12_ n13_ n14_ n15_ n16_;clear hb hbox hg;obtain ⟨Ao32,co32,eo32⟩:=Kd.R_slice HO257.out;subst eo32;have hnb33:=NB262_245.out;have hnc33:=NB245_262.out;have hnb34:=NB262_246.out;have hnc34:=NB246_262.out;have hnb35:=NB262_254.out;have hnc35:=NB254_262.out;have hcz36_0:w31.cell? ⟨gb262,0,none⟩=some (.slice none 0 0):=(blk_cell BK262.out 0).trans rfl;have hcz36_1:w31.cell? ⟨gb262,1,none⟩=some (.slice none 0 0):=(blk_cell BK262.out 1).trans rfl;have hfz36_0:=blk_frozen BK262.out 0;have hfz36_1:=blk_frozen BK262.out 1;obtain ⟨Ao37,co37,eo37⟩:=Kd.R_slice HO260.out;subst eo37;have hnb38:=NB246_245.out;have hnc38:=NB245_246.out;have hcz39_0:w31.cell? ⟨gb246,0,none⟩=some (.int .i64 a3_0):=(blk_cell BK246.out 0).trans rfl;have hcz39_1:w31.cell? ⟨gb246,1,none⟩=some (.int .i64 a3_1):=(blk_cell BK246.out 1).trans rfl;have hfz39_0:=blk_frozen BK246.out 0;have hfz39_1:=blk_frozen BK246.out 1)|((with_reducible refine gate_callee (f:=10) rfl ?_);refine goesL_ (some 40) rfl rfl Try.func10 (by kernel_rfl) rfl #[.agg #[.int .i64 a3_0,.int .i64 a3_1],.int .i64 a4,.int .i64 a5,.int .i64 a6] rfl (by (try simp only [List.map_toArray,List.map_cons,List.map_nil]);first|done|rfl|(simp only [List.length_drop,List.length_take];rfl)) ?_;(with_reducible refine (pool_Capacity.calls k a3_0 a3_1 a4 a5 a6 t263 t264 _ A10.out).mono ?_);rintro e w40 ⟨rfl,hb⟩;refine ⟨_,rfl,?_⟩;have n0_:=zm (Kd.R_below (by (with_reducible repeat (first|apply zrA|apply zrN|apply zrD));exact (Kd.R_mono (Kd.R_far (p:=⟨gb262,1,none⟩) (Kd.R_far (p:=⟨gb262,0,none⟩) (Kd.R_types HO249.out BK262.out (by decide)) (fun _ hk=>hk.2) (.slice Ao32 t255.length co32)) (fun _ hk=>hk.2) (.slice Ao37 t258.length co37)) (fun _ h_=>h_.1))) hb);have n1_:=zm (Kd.R_below (by (with_reducible repeat (first|apply zrA|apply zrN|apply zrD));exact (Kd.R_mono (Kd.R_far (p:=⟨gb262,1,none⟩) (Kd.R_far (p:=⟨gb262,0,none⟩) (Kd.R_types HO252.out BK262.out (by decide)) (fun _ hk=>hk.2) (.slice Ao32 t255.length co32)) (fun _ hk=>hk.2) (.slice Ao37 t258.length co37)) (fun _ h_=>h_.1))) hb);have n2_:=zm (Kd.R_below (by (with_reducible repeat (first|apply zrA|apply zrN|apply zrD));exact (Kd.R_mono (Kd.R_far (p:=⟨gb262,1,none⟩) (Kd.R_far (p:=⟨gb262,0,none⟩) (Kd.R_types HO257.out BK262.out (by decide)) (fun _ hk=>hk.2) (.slice Ao32 t255.length co32)) (fun _ hk=>hk.2) (.slice Ao37 t258.length co37)) (fun _ h_=>h_.1))) hb);have n3_:=zm (Kd.R_below (by (with_reducible repeat (first|apply zrA|apply zrN|apply zrD));exact (Kd.R_mono (Kd.R_far (p:=⟨gb262,1,none⟩) (Kd.R_far (p:=⟨gb262,0,none⟩) (Kd.R_types HO260.out BK262.out (by decide)) (fun _ hk=>hk.2) (.slice Ao32 t255.length co32)) (fun _ hk=>hk.2) (.slice Ao37 t258.length co37)) (fun _ h_=>h_.1))) hb);have n4_:=zm (zbB (g:=gb245) (o:=.cells #[.slice A0_0 l0_0.length c0_0,.slice A0_1 l0_1.length c0_1] 25 (0,0)) (by (with_reducible repeat (first|refine zbN ?_ _|refine zbD ?_|refine zbA ?_ _));refine blk_far ?_ NB245_262.out _;(with_reducible repeat (first|refine zbN ?_ _|refine zbD ?_|refine zbA ?_ _));refine blk_far ?_ NB245_262.out _;(with_reducible repeat (first|refine zbN ?_ _|refine zbD ?_|refine zbA ?_ _));exact BK245.out) hb);have n5_:=zm (zbB (g:=gb246) (o:=.cells #[.int .i64 a3_0,.int .i64 a3_1] 27 (0,0)) (by (with_reducible repeat (first|refine zbN ?_ _|refine zbD ?_|refine zbA ?_ _));refine blk_far ?_ NB246_262.out _;(with_reducible repeat (first|refine zbN ?_ _|refine zbD ?_|refine zbA ?_ _));refine blk_far ?_ NB246_262.out _;(with_reducible repeat (first|refine zbN ?_ _|refine zbD ?_|refine zbA ?_ _));exact BK246.out) hb);have n6_:=zm (zbB (g:=gb254) (o:=.cells #[.slice Ao25 t247.length co25,.slice Ao29 t250.length co29] 25 (0,0)) (by (with_reducible repeat (first|refine zbN ?_ _|refine zbD ?_|refine zbA ?_ _));refine blk_far ?_ NB254_262.out _;(with_reducible repeat (first|refine zbN ?_ _|refine zbD ?_|refine zbA ?_ _));refine blk_far ?_ NB254_262.out _;(with_reducible repeat (first|refine zbN ?_ _|refine zbD ?_|refine zbA ?_ _));exact BK254.out) hb);have n7_:=zm (zbB (g:=gb262) (o:=.cells #[.slice Ao32 t255.length co32,.slice Ao37 t258.length co37] 25 (0,0)) (by (with_reducible repeat (first|refine zbN ?_ _|refine zbD ?_|refine zbA ?_ _));refine blk_put (cs:=#[.slice Ao32 t255.length co32,.slice none 0 0]) ?_ 1 _ rfl;(with_reducible repeat (first|refine zbN ?_ _|refine zbD ?_|refine zbA ?_ _));refine blk_put (cs:=#[.slice none 0 0,.slice none 0 0]) ?_ 0 _ rfl;(with_reducible repeat (first|refine zbN ?_ _|refine zbD ?_|refine zbA ?_ _));exact BK262.out) hb);have n8_:=zm (below_step (by repeat (first|(with_reducible first|exact HB.out|apply zlA|apply zlN|apply zlD|refine zlS ?_ GE245.out|refine zlS ?_ GE246.out|refine zlS ?_ GE254.out|refine zlS ?_ GE262.out)|exact HB.out)) hb);clear HO249 HO252 HO257 HO260 BK245 BK246 BK254 BK262 HB;have HO249:=n0_;have HO252:=n1_;have HO257:=n2_;have HO260:=n3_;have BK245:=n4_;have BK246:=n5_;have BK254:=n6_;have BK262:=n7_;have HB:=n8_;clear n0_ n1_ n2_ n3_ n4_ n5_ n6_ n7_ n8_;(try clear hb);(try clear hb2);(try clear hk);(try clear hi);have hcz41_0:w40.cell? ⟨gb246,0,none⟩=some (.int .i64 a3_0):=(blk_cell BK246.out 0).trans rfl;have hcz41_1:w40.cell? ⟨gb246,1,none⟩=some (.int .i64 a3_1):=(blk_cell BK246.out 1).trans rfl;have hfz41_0:=blk_frozen BK246.out 0;have hfz41_1:=blk_frozen BK246.out 1)|((with_reducible refine gate_callee (f:=11) rfl ?_);refine goesL_ (some 48) rfl rfl Try.func11 (by kernel_rfl) rfl #[.agg #[.int .i64 a3_0,.int .i64 a3_1],.int .i64 a4,.int .i64 a5,.int .i64 a6] rfl (by (try simp only [List.map_toArray,List.map_cons,List.map_nil]);first|done|rfl|(simp only [List.length_drop,List.length_take];rfl)) ?_;(with_reducible refine (slipwayref04_Capacity.calls k a3_0 a3_1 a4 a5 a6 t265 t266 _ A11.out).mono ?_);rintro e w42 ⟨rfl,hb⟩;refine ⟨_,rfl,?_⟩;have n0_:=zm (Kd.R_below (by (with_reducible repeat (first|apply zrA|apply zrN|apply zrD));exact HO249.out) hb);have n1_:=zm (Kd.R_below (by (with_reducible repeat (first|apply zrA|apply zrN|apply zrD));exact HO252.out) hb);have n2_:=zm (Kd.R_below (by (with_reducible repeat (first|apply zrA|apply zrN|apply zrD));exact HO257.out) hb);have n3_:=zm (Kd.R_below (by (with_reducible repeat (first|apply zrA|apply zrN|apply zrD));exact HO260.out) hb);have n4_:=zm (zbB (g:=gb245) (o:=.cells #[.slice A0_0 l0_0.length c0_0,.slice A0_1 l0_1.length c0_1] 25 (0,0)) (by (with_reducible repeat (first|refine zbN ?_ _|refine zbD ?_|refine zbA ?_ _));exact BK245.out) hb);have n5_:=zm (zbB (g:=gb246) (o:=.cells #[.int .i64 a3_0,.int .i64 a3_1] 27 (0,0)) (by (with_reducible repeat (first|refine zbN ?_ _|refine zbD ?_|refine zbA ?_ _));exact BK246.out) hb);have n6_:=zm (zbB (g:=gb254) (o:=.cells #[.slice Ao25 t247.length co25,.slice Ao29 t250.length co29] 25 (0,0)) (by (with_reducible repeat (first|refine zbN ?_ _|refine zbD ?_|refine zbA ?_ _));exact BK254.out) hb);have n7_:=zm (zbB (g:=gb262) (o:=.cells #[.slice Ao32 t255.length co32,.slice Ao37 t258.length co37] 25 (0,0)) (by (with_reducible repeat (first|refine zbN ?_ _|refine zbD ?_|refine zbA ?_ _));exact BK262.out) hb);have n8_:=zm (below_step (by repeat (first|(with_reducible first|exact HB.out|apply zlA|apply zlN|apply zlD|refine zlS ?_ GE245.out|refine zlS ?_ GE246.out|refine zlS ?_ GE254.out|refine zlS ?_ GE262.out)|exact HB.out)) hb);clear HO249 HO252 HO257 HO260 BK245 BK246 BK254 BK262 HB;have HO249:=n0_;have HO252:=n1_;have HO257:=n2_;have HO260:=n3_;have BK245:=n4_;have BK246:=n5_;have BK254:=n6_;have BK262:=n7_;have HB:=n8_;clear n0_ n1_ n2_ n3_ n4_ n5_ n6_ n7_ n8_;(try clear hb);(try clear hb2);(try clear hk);(try clear hi)))
      have n0_:=zm (zrD HO249.out)
      have n1_:=zm (zrD HO252.out)
      have n2_:=zm (zrD HO257.out)
      have n3_:=zm (zrD HO260.out)
      have n4_:=zm (zbD BK245.out)
      have n5_:=zm (zbD BK246.out)
      have n6_:=zm (zbD BK254.out)
      have n7_:=zm (zbD BK262.out)
      have n8_:=zm (zlD HB.out)
      clear HO249 HO252 HO257 HO260 BK245 BK246 BK254 BK262 HB
      have HO249:=n0_
      have HO252:=n1_
      have HO257:=n2_
      have HO260:=n3_
      have BK245:=n4_
      have BK246:=n5_
      have BK254:=n6_
      have BK262:=n7_
      have HB:=n8_
      clear n0_ n1_ n2_ n3_ n4_ n5_ n6_ n7_ n8_
      refine start_ (n:=29) (S:=fun w'=>w'.cell? ⟨gb245,0,none⟩=some (.slice A0_0 l0_0.length c0_0)∧w'.cell? ⟨gb245,1,none⟩=some (.slice A0_1 l0_1.length c0_1)∧w'.cell? ⟨gb254,0,none⟩=some (.slice Ao25 t247.length co25)∧w'.cell? ⟨gb254,1,none⟩=some (.slice Ao29 t250.length co29)∧w'.cell? ⟨gb262,0,none⟩=some (.slice Ao32 t255.length co32)∧w'.cell? ⟨gb262,1,none⟩=some (.slice Ao37 t258.length co37)) (ds:=[]) #[false,false,false,false,false,false,false,false,false,false,false,false,false,false,false,false,false,false,false,false,false,false,false,false,false,false,false,false,false] (by kernel_rfl) rfl rfl ⟨(blk_cell BK245.out 0).trans rfl,(blk_cell BK245.out 1).trans rfl,(blk_cell BK254.out 0).trans rfl,(blk_cell BK254.out 1).trans rfl,(blk_cell BK262.out 0).trans rfl,(blk_cell BK262.out 1).trans rfl⟩ (fun hHeld=>?_);refine with_tabW slipwaylaw04_PoolMakes.tab5 slipwaylaw04_PoolMakes.bits5 (fun HT_ HW_=>?_)
      generalize w42.drew=w43 at HO249 HO252 HO257 HO260 BK245 BK246 BK254 BK262 HB hHeld ⊢
      refine one_ (i:=0) (N:=some 51) #[true,false,false,false,false,false,false,false,false,false,false,false,false,false,false,false,false,false,false,false,false,false,false,false,false,false,false,false,false] rfl rfl (one_of HT_.out (by kernel_rfl)) (by decide) (fun K hK=>?_)
      refine goes_ Try.func12 (by kernel_rfl) rfl #[] (by rfl) rfl rfl (by (try simp only [List.map_toArray,List.map_cons,List.map_nil]);first|done|rfl|(simp only [List.length_drop,List.length_take];rfl)) ?_
      with_reducible refine (slipwaylaw04_begun.calls k  true _ A12.out).mono ?_
      rintro e w44 ⟨rfl,hb⟩
      refine ⟨_,rfl,?_⟩
      have n0_:=zm (Kd.R_below (by (with_reducible repeat (first|apply zrA|apply zrN|apply zrD));exact HO249.out) hb)
      have n1_:=zm (Kd.R_below (by (with_reducible repeat (first|apply zrA|apply zrN|apply zrD));exact HO252.out) hb)
      have n2_:=zm (Kd.R_below (by (with_reducible repeat (first|apply zrA|apply zrN|apply zrD));exact HO257.out) hb)
      have n3_:=zm (Kd.R_below (by (with_reducible repeat (first|apply zrA|apply zrN|apply zrD));exact HO260.out) hb)
      have n4_:=zm (zbB (g:=gb245) (o:=.cells #[.slice A0_0 l0_0.length c0_0,.slice A0_1 l0_1.length c0_1] 25 (0,0)) (by (with_reducible repeat (first|refine zbN ?_ _|refine zbD ?_|refine zbA ?_ _));exact BK245.out) hb)
      have n5_:=zm (zbB (g:=gb246) (o:=.cells #[.int .i64 a3_0,.int .i64 a3_1] 27 (0,0)) (by (with_reducible repeat (first|refine zbN ?_ _|refine zbD ?_|refine zbA ?_ _));exact BK246.out) hb)
      have n6_:=zm (zbB (g:=gb254) (o:=.cells #[.slice Ao25 t247.length co25,.slice Ao29 t250.length co29] 25 (0,0)) (by (with_reducible repeat (first|refine zbN ?_ _|refine zbD ?_|refine zbA ?_ _));exact BK254.out) hb)
      have n7_:=zm (zbB (g:=gb262) (o:=.cells #[.slice Ao32 t255.length co32,.slice Ao37 t258.length co37] 25 (0,0)) (by (with_reducible repeat (first|refine zbN ?_ _|refine zbD ?_|refine zbA ?_ _));exact BK262.out) hb)
      have n8_:=zm (below_step (by repeat (first|(with_reducible first|exact HB.out|apply zlA|apply zlN|apply zlD|refine zlS ?_ GE245.out|refine zlS ?_ GE246.out|refine zlS ?_ GE254.out|refine zlS ?_ GE262.out)|exact HB.out)) hb)
      clear HO249 HO252 HO257 HO260 BK245 BK246 BK254 BK262 HB
      have HO249:=n0_
      have HO252:=n1_
      have HO257:=n2_
      have HO260:=n3_
      have BK245:=n4_
      have BK246:=n5_
      have BK254:=n6_
      have BK262:=n7_
      have HB:=n8_
      clear n0_ n1_ n2_ n3_ n4_ n5_ n6_ n7_ n8_
      (try clear hb)
      (try clear hb2)
      (try clear hk)
      (try clear hi)
      refine hK.out _ _ ⟨(blk_cell BK245.out 0).trans rfl,(blk_cell BK245.out 1).trans rfl,(blk_cell BK254.out 0).trans rfl,(blk_cell BK254.out 1).trans rfl,(blk_cell BK262.out 0).trans rfl,(blk_cell BK262.out 1).trans rfl⟩ (fun hHeld=>?_)
      clear hK K
      refine norm_ (a':=?_) ?_ ?_
      rotate_left
      ·show Act.put _ (some 51) _=_
       simp only [Act.put,List.setIfInBounds_toArray,List.set_cons_zero,List.set_cons_succ,i64_w,i32_w]
       rfl
      refine pure_ (i:=1) (N:=some 52) (v:=?_) (a':=?_) #[true,true,false,false,false,false,false,false,false,false,false,false,false,false,false,false,false,false,false,false,false,false,false,false,false,false,false,false,false] rfl rfl (any_of HT_.out (by kernel_rfl)) (fun _ _ _ h=>h) (Or.inl ⟨by rfl,?_⟩) ?_ ?_
      rotate_left
      ·intro w'
       go_simp
       with_reducible rfl
      rotate_left
      ·simp only [Act.put,List.setIfInBounds_toArray,List.set_cons_zero,List.set_cons_succ,i64_w,i32_w]
       rfl
      refine take_ (i:=2) (N:=some 53) (v:=?_) (a':=?_) #[true,true,true,false,false,false,false,false,false,false,false,false,false,false,false,false,false,false,false,false,false,false,false,false,false,false,false,false,false] rfl rfl (take_ofW HT_.out HW_.out (by kernel_rfl)) (fun _ _ _ h=>h) (Or.inl ⟨by rfl,?_⟩) hHeld ?_ ?_
      rotate_left
      ·rintro w' ⟨s0,s1,s2,s3,s4,s5⟩
       go_simp
       with_reducible rfl
      rotate_left
      ·simp only [Act.put,List.setIfInBounds_toArray,List.set_cons_zero,List.set_cons_succ,i64_w,i32_w]
       rfl
      refine take_ (i:=4) (N:=some 55) (v:=?_) (a':=?_) #[true,true,true,false,true,false,false,false,false,false,false,false,false,false,false,false,false,false,false,false,false,false,false,false,false,false,false,false,false] rfl rfl (take_ofW HT_.out HW_.out (by kernel_rfl)) (fun _ _ _ h=>h) (Or.inl ⟨by rfl,?_⟩) hHeld ?_ ?_
      rotate_left
      ·rintro w' ⟨s0,s1,s2,s3,s4,s5⟩
       go_simp
       with_reducible rfl
      rotate_left
      ·simp only [Act.put,List.setIfInBounds_toArray,List.set_cons_zero,List.set_cons_succ,i64_w,i32_w]
       rfl
      refine one_ (i:=3) (N:=some 54) #[true,true,true,true,true,false,false,false,false,false,false,false,false,false,false,false,false,false,false,false,false,false,false,false,false,false,false,false,false] rfl rfl (one_of HT_.out (by kernel_rfl)) (by decide) (fun K hK=>?_)
      refine goes_ Try.func13 (by kernel_rfl) rfl #[.agg #[.slice A0_0 l0_0.length c0_0,.slice A0_1 l0_1.length c0_1]] (by rfl) rfl rfl (by (try simp only [List.map_toArray,List.map_cons,List.map_nil]);first|done|rfl|(simp only [List.length_drop,List.length_take];rfl)) ?_
      with_reducible refine (pool_Check.calls k _ _ l0_0 _ _ l0_1 t268 _ ?side1 ?side2 ?side3 ?side4 A14.out).mono ?_
      (case side1=>repeat (first|exact (Kd.C_below HR0_0.out HB.out)|(with_reducible refine Kd.C_alloc ?_ _)|(with_reducible refine Kd.C_drewN ?_ _)|(with_reducible refine Kd.C_drew ?_)))
      (case side2=>exact HC0_0.out)
      (case side3=>repeat (first|exact (Kd.C_below HR0_1.out HB.out)|(with_reducible refine Kd.C_alloc ?_ _)|(with_reducible refine Kd.C_drewN ?_ _)|(with_reducible refine Kd.C_drew ?_)))
      (case side4=>exact HC0_1.out)
      rintro e w45 ⟨rfl,hb⟩
      refine ⟨_,rfl,?_⟩
      have n0_:=zm (Kd.R_below (by (with_reducible repeat (first|apply zrA|apply zrN|apply zrD));exact HO249.out) hb)
      have n1_:=zm (Kd.R_below (by (with_reducible repeat (first|apply zrA|apply zrN|apply zrD));exact HO252.out) hb)
      have n2_:=zm (Kd.R_below (by (with_reducible repeat (first|apply zrA|apply zrN|apply zrD));exact HO257.out) hb)
      have n3_:=zm (Kd.R_below (by (with_reducible repeat (first|apply zrA|apply zrN|apply zrD));exact HO260.out) hb)
      have n4_:=zm (zbB (g:=gb245) (o:=.cells #[.slice A0_0 l0_0.length c0_0,.slice A0_1 l0_1.length c0_1] 25 (0,0)) (by (with_reducible repeat (first|refine zbN ?_ _|refine zbD ?_|refine zbA ?_ _));exact BK245.out) hb)
      have n5_:=zm (zbB (g:=gb246) (o:=.cells #[.int .i64 a3_0,.int .i64 a3_1] 27 (0,0)) (by (with_reducible repeat (first|refine zbN ?_ _|refine zbD ?_|refine zbA ?_ _));exact BK246.out) hb)
      have n6_:=zm (zbB (g:=gb254) (o:=.cells #[.slice Ao25 t247.length co25,.slice Ao29 t250.length co29] 25 (0,0)) (by (with_reducible repeat (first|refine zbN ?_ _|refine zbD ?_|refine zbA ?_ _));exact BK254.out) hb)
      have n7_:=zm (zbB (g:=gb262) (o:=.cells #[.slice Ao32 t255.length co32,.slice Ao37 t258.length co37] 25 (0,0)) (by (with_reducible repeat (first|refine zbN ?_ _|refine zbD ?_|refine zbA ?_ _));exact BK262.out) hb)
      have n8_:=zm (below_step (by repeat (first|(with_reducible first|exact HB.out|apply zlA|apply zlN|apply zlD|refine zlS ?_ GE245.out|refine zlS ?_ GE246.out|refine zlS ?_ GE254.out|refine zlS ?_ GE262.out)|exact HB.out)) hb)
      clear HO249 HO252 HO257 HO260 BK245 BK246 BK254 BK262 HB
      have HO249:=n0_
      have HO252:=n1_
      have HO257:=n2_
      have HO260:=n3_
      have BK245:=n4_
      have BK246:=n5_
      have BK254:=n6_
      have BK262:=n7_
      have HB:=n8_
      clear n0_ n1_ n2_ n3_ n4_ n5_ n6_ n7_ n8_
      (try clear hb)
      (try clear hb2)
      (try clear hk)
      (try clear hi)
      refine hK.out _ _ ⟨(blk_cell BK245.out 0).trans rfl,(blk_cell BK245.out 1).trans rfl,(blk_cell BK254.out 0).trans rfl,(blk_cell BK254.out 1).trans rfl,(blk_cell BK262.out 0).trans rfl,(blk_cell BK262.out 1).trans rfl⟩ (fun hHeld=>?_)
      clear hK K
      refine norm_ (a':=?_) ?_ ?_
      rotate_left
      ·show Act.put _ (some 54) _=_
       simp only [Act.put,List.setIfInBounds_toArray,List.set_cons_zero,List.set_cons_succ,i64_w,i32_w]
       rfl
      refine one_ (i:=5) (N:=some 56) #[true,true,true,true,true,true,false,false,false,false,false,false,false,false,false,false,false,false,false,false,false,false,false,false,false,false,false,false,false] rfl rfl (one_of HT_.out (by kernel_rfl)) (by decide) (fun K hK=>?_)
      refine goes_ Try.func14 (by kernel_rfl) rfl #[.agg #[.slice A0_0 l0_0.length c0_0,.slice A0_1 l0_1.length c0_1]] (by rfl) rfl rfl (by (try simp only [List.map_toArray,List.map_cons,List.map_nil]);first|done|rfl|(simp only [List.length_drop,List.length_take];rfl)) ?_
      with_reducible refine (slipwayref04_Check.calls k _ _ l0_0 _ _ l0_1 t269 _ ?side1 ?side2 ?side3 ?side4 A15.out).mono ?_
      (case side1=>repeat (first|exact (Kd.C_below HR0_0.out HB.out)|(with_reducible refine Kd.C_alloc ?_ _)|(with_reducible refine Kd.C_drewN ?_ _)|(with_reducible refine Kd.C_drew ?_)))
      (case side2=>exact HC0_0.out)
      (case side3=>repeat (first|exact (Kd.C_below HR0_1.out HB.out)|(with_reducible refine Kd.C_alloc ?_ _)|(with_reducible refine Kd.C_drewN ?_ _)|(with_reducible refine Kd.C_drew ?_)))
      (case side4=>exact HC0_1.out)
      rintro e w46 ⟨rfl,hb⟩
      refine ⟨_,rfl,?_⟩
      have n0_:=zm (Kd.R_below (by (with_reducible repeat (first|apply zrA|apply zrN|apply zrD));exact HO249.out) hb)
      have n1_:=zm (Kd.R_below (by (with_reducible repeat (first|apply zrA|apply zrN|apply zrD));exact HO252.out) hb)
      have n2_:=zm (Kd.R_below (by (with_reducible repeat (first|apply zrA|apply zrN|apply zrD));exact HO257.out) hb)
      have n3_:=zm (Kd.R_below (by (with_reducible repeat (first|apply zrA|apply zrN|apply zrD));exact HO260.out) hb)
      have n4_:=zm (zbB (g:=gb245) (o:=.cells #[.slice A0_0 l0_0.length c0_0,.slice A0_1 l0_1.length c0_1] 25 (0,0)) (by (with_reducible repeat (first|refine zbN ?_ _|refine zbD ?_|refine zbA ?_ _));exact BK245.out) hb)
      have n5_:=zm (zbB (g:=gb246) (o:=.cells #[.int .i64 a3_0,.int .i64 a3_1] 27 (0,0)) (by (with_reducible repeat (first|refine zbN ?_ _|refine zbD ?_|refine zbA ?_ _));exact BK246.out) hb)
      have n6_:=zm (zbB (g:=gb254) (o:=.cells #[.slice Ao25 t247.length co25,.slice Ao29 t250.length co29] 25 (0,0)) (by (with_reducible repeat (first|refine zbN ?_ _|refine zbD ?_|refine zbA ?_ _));exact BK254.out) hb)
      have n7_:=zm (zbB (g:=gb262) (o:=.cells #[.slice Ao32 t255.length co32,.slice Ao37 t258.length co37] 25 (0,0)) (by (with_reducible repeat (first|refine zbN ?_ _|refine zbD ?_|refine zbA ?_ _));exact BK262.out) hb)
      have n8_:=zm (below_step (by repeat (first|(with_reducible first|exact HB.out|apply zlA|apply zlN|apply zlD|refine zlS ?_ GE245.out|refine zlS ?_ GE246.out|refine zlS ?_ GE254.out|refine zlS ?_ GE262.out)|exact HB.out)) hb)
      clear HO249 HO252 HO257 HO260 BK245 BK246 BK254 BK262 HB
      have HO249:=n0_
      have HO252:=n1_
      have HO257:=n2_
      have HO260:=n3_
      have BK245:=n4_
      have BK246:=n5_
      have BK254:=n6_
      have BK262:=n7_
      have HB:=n8_
      clear n0_ n1_ n2_ n3_ n4_ n5_ n6_ n7_ n8_
      (try clear hb)
      (try clear hb2)
      (try clear hk)
      (try clear hi)
      refine hK.out _ _ ⟨(blk_cell BK245.out 0).trans rfl,(blk_cell BK245.out 1).trans rfl,(blk_cell BK254.out 0).trans rfl,(blk_cell BK254.out 1).trans rfl,(blk_cell BK262.out 0).trans rfl,(blk_cell BK262.out 1).trans rfl⟩ (fun hHeld=>?_)
      clear hK K
      refine norm_ (a':=?_) ?_ ?_
      rotate_left
      ·show Act.put _ (some 56) _=_
       simp only [Act.put,List.setIfInBounds_toArray,List.set_cons_zero,List.set_cons_succ,i64_w,i32_w]
       rfl
      refine pure_ (i:=6) (N:=some 57) (v:=?_) (a':=?_) #[true,true,true,true,true,true,true,false,false,false,false,false,false,false,false,false,false,false,false,false,false,false,false,false,false,false,false,false,false] rfl rfl (any_of HT_.out (by kernel_rfl)) (fun _ _ _ h=>h) (Or.inl ⟨by rfl,?_⟩) ?_ ?_
      rotate_left
      ·intro w'
       go_simp
       with_reducible rfl
      rotate_left
      ·simp only [Act.put,List.setIfInBounds_toArray,List.set_cons_zero,List.set_cons_succ,i64_w,i32_w]
       rfl
      refine pure_ (i:=7) (N:=some 58) (v:=?_) (a':=?_) #[true,true,true,true,true,true,true,true,false,false,false,false,false,false,false,false,false,false,false,false,false,false,false,false,false,false,false,false,false] rfl rfl (any_of HT_.out (by kernel_rfl)) (fun _ _ _ h=>h) (Or.inl ⟨by rfl,?_⟩) ?_ ?_
      rotate_left
      ·intro w'
       go_simp
       with_reducible rfl
      rotate_left
      ·simp only [Act.put,List.setIfInBounds_toArray,List.set_cons_zero,List.set_cons_succ,i64_w,i32_w]
       rfl
      refine pure_ (i:=8) (N:=some 59) (v:=?_) (a':=?_) #[true,true,true,true,true,true,true,true,true,false,false,false,false,false,false,false,false,false,false,false,false,false,false,false,false,false,false,false,false] rfl rfl (any_of HT_.out (by kernel_rfl)) (fun _ _ _ h=>h) (Or.inl ⟨by rfl,?_⟩) ?_ ?_
      rotate_left
      ·intro w'
       go_simp
       with_reducible rfl
      rotate_left
      ·simp only [Act.put,List.setIfInBounds_toArray,List.set_cons_zero,List.set_cons_succ,i64_w,i32_w]
       rfl
      refine take_ (i:=9) (N:=some 60) (v:=?_) (a':=?_) #[true,true,true,true,true,true,true,true,true,true,false,false,false,false,false,false,false,false,false,false,false,false,false,false,false,false,false,false,false] rfl rfl (take_ofW HT_.out HW_.out (by kernel_rfl)) (fun _ _ _ h=>h) (Or.inl ⟨by rfl,?_⟩) hHeld ?_ ?_
      rotate_left
      ·rintro w' ⟨s0,s1,s2,s3,s4,s5⟩
       go_simp
       with_reducible rfl
      rotate_left
      ·simp only [Act.put,List.setIfInBounds_toArray,List.set_cons_zero,List.set_cons_succ,i64_w,i32_w]
       rfl
      refine take_ (i:=10) (N:=some 61) (v:=?_) (a':=?_) #[true,true,true,true,true,true,true,true,true,true,true,false,false,false,false,false,false,false,false,false,false,false,false,false,false,false,false,false,false] rfl rfl (take_ofW HT_.out HW_.out (by kernel_rfl)) (fun _ _ _ h=>h) (Or.inl ⟨by rfl,?_⟩) hHeld ?_ ?_
      rotate_left
      ·rintro w' ⟨s0,s1,s2,s3,s4,s5⟩
       go_simp
       with_reducible rfl
      rotate_left
      ·simp only [Act.put,List.setIfInBounds_toArray,List.set_cons_zero,List.set_cons_succ,i64_w,i32_w]
       rfl
      refine one_ (i:=11) (N:=some 62) #[true,true,true,true,true,true,true,true,true,true,true,true,false,false,false,false,false,false,false,false,false,false,false,false,false,false,false,false,false] rfl rfl (one_of HT_.out (by kernel_rfl)) (by decide) (fun K hK=>?_)
      refine goes_ Try.func15 (by kernel_rfl) rfl #[.agg #[.slice Ao25 t247.length co25,.slice Ao29 t250.length co29],.agg #[.slice Ao32 t255.length co32,.slice Ao37 t258.length co37]] (by rfl) rfl rfl (by (try simp only [List.map_toArray,List.map_cons,List.map_nil]);first|done|rfl|(simp only [List.length_drop,List.length_take];rfl)) ?_
      with_reducible refine (slipwayref04_Same.calls k _ _ t247 _ _ t250 _ _ t255 _ _ t258 true _ ?side1 ?side2 ?side3 ?side4 ?side5 ?side6 ?side7 ?side8 A17.out).mono ?_
      (case side1=>repeat (first|exact (Kd.R_reads' HO249.out).2.2|(with_reducible refine Kd.C_alloc ?_ _)|(with_reducible refine Kd.C_drewN ?_ _)|(with_reducible refine Kd.C_drew ?_)))
      (case side2=>exact (Kd.R_reads' HO249.out).2.1)
      (case side3=>repeat (first|exact (Kd.R_reads' HO252.out).2.2|(with_reducible refine Kd.C_alloc ?_ _)|(with_reducible refine Kd.C_drewN ?_ _)|(with_reducible refine Kd.C_drew ?_)))
      (case side4=>exact (Kd.R_reads' HO252.out).2.1)
      (case side5=>repeat (first|exact (Kd.R_reads' HO257.out).2.2|(with_reducible refine Kd.C_alloc ?_ _)|(with_reducible refine Kd.C_drewN ?_ _)|(with_reducible refine Kd.C_drew ?_)))
      (case side6=>exact (Kd.R_reads' HO257.out).2.1)
      (case side7=>repeat (first|exact (Kd.R_reads' HO260.out).2.2|(with_reducible refine Kd.C_alloc ?_ _)|(with_reducible refine Kd.C_drewN ?_ _)|(with_reducible refine Kd.C_drew ?_)))
      (case side8=>exact (Kd.R_reads' HO260.out).2.1)
      rintro e w47 ⟨rfl,hb⟩
      refine ⟨_,rfl,?_⟩
      have n0_:=zm (Kd.R_below (by (with_reducible repeat (first|apply zrA|apply zrN|apply zrD));exact HO249.out) hb)
      have n1_:=zm (Kd.R_below (by (with_reducible repeat (first|apply zrA|apply zrN|apply zrD));exact HO252.out) hb)
      have n2_:=zm (Kd.R_below (by (with_reducible repeat (first|apply zrA|apply zrN|apply zrD));exact HO257.out) hb)
      have n3_:=zm (Kd.R_below (by (with_reducible repeat (first|apply zrA|apply zrN|apply zrD));exact HO260.out) hb)
      have n4_:=zm (zbB (g:=gb245) (o:=.cells #[.slice A0_0 l0_0.length c0_0,.slice A0_1 l0_1.length c0_1] 25 (0,0)) (by (with_reducible repeat (first|refine zbN ?_ _|refine zbD ?_|refine zbA ?_ _));exact BK245.out) hb)
      have n5_:=zm (zbB (g:=gb246) (o:=.cells #[.int .i64 a3_0,.int .i64 a3_1] 27 (0,0)) (by (with_reducible repeat (first|refine zbN ?_ _|refine zbD ?_|refine zbA ?_ _));exact BK246.out) hb)
      have n6_:=zm (zbB (g:=gb254) (o:=.cells #[.slice Ao25 t247.length co25,.slice Ao29 t250.length co29] 25 (0,0)) (by (with_reducible repeat (first|refine zbN ?_ _|refine zbD ?_|refine zbA ?_ _));exact BK254.out) hb)
      have n7_:=zm (zbB (g:=gb262) (o:=.cells #[.slice Ao32 t255.length co32,.slice Ao37 t258.length co37] 25 (0,0)) (by (with_reducible repeat (first|refine zbN ?_ _|refine zbD ?_|refine zbA ?_ _));exact BK262.out) hb)
      have n8_:=zm (below_step (by repeat (first|(with_reducible first|exact HB.out|apply zlA|apply zlN|apply zlD|refine zlS ?_ GE245.out|refine zlS ?_ GE246.out|refine zlS ?_ GE254.out|refine zlS ?_ GE262.out)|exact HB.out)) hb)
      clear HO249 HO252 HO257 HO260 BK245 BK246 BK254 BK262 HB
      have HO249:=n0_
      have HO252:=n1_
      have HO257:=n2_
      have HO260:=n3_
      have BK245:=n4_
      have BK246:=n5_
      have BK254:=n6_
      have BK262:=n7_
      have HB:=n8_
      clear n0_ n1_ n2_ n3_ n4_ n5_ n6_ n7_ n8_
      (try clear hb)
      (try clear hb2)
      (try clear hk)
      (try clear hi)
      refine hK.out _ _ ⟨(blk_cell BK245.out 0).trans rfl,(blk_cell BK245.out 1).trans rfl,(blk_cell BK254.out 0).trans rfl,(blk_cell BK254.out 1).trans rfl,(blk_cell BK262.out 0).trans rfl,(blk_cell BK262.out 1).trans rfl⟩ (fun hHeld=>?_)
      clear hK K
      refine norm_ (a':=?_) ?_ ?_
      rotate_left
      ·show Act.put _ (some 62) _=_
       simp only [Act.put,List.setIfInBounds_toArray,List.set_cons_zero,List.set_cons_succ,i64_w,i32_w]
       rfl
      refine pure_ (i:=12) (N:=some 63) (v:=?_) (a':=?_) #[true,true,true,true,true,true,true,true,true,true,true,true,true,false,false,false,false,false,false,false,false,false,false,false,false,false,false,false,false] rfl rfl (any_of HT_.out (by kernel_rfl)) (fun _ _ _ h=>h) (Or.inl ⟨by rfl,?_⟩) ?_ ?_
      rotate_left
      ·intro w'
       go_simp
       with_reducible rfl
      rotate_left
      ·simp only [Act.put,List.setIfInBounds_toArray,List.set_cons_zero,List.set_cons_succ,i64_w,i32_w]
       rfl
      refine pure_ (i:=13) (N:=some 64) (v:=?_) (a':=?_) #[true,true,true,true,true,true,true,true,true,true,true,true,true,true,false,false,false,false,false,false,false,false,false,false,false,false,false,false,false] rfl rfl (any_of HT_.out (by kernel_rfl)) (fun _ _ _ h=>h) (Or.inl ⟨by rfl,?_⟩) ?_ ?_
      rotate_left
      ·intro w'
       go_simp
       with_reducible rfl
      rotate_left
      ·simp only [Act.put,List.setIfInBounds_toArray,List.set_cons_zero,List.set_cons_succ,i64_w,i32_w]
       rfl
      refine pure_ (i:=14) (N:=some 65) (v:=?_) (a':=?_) #[true,true,true,true,true,true,true,true,true,true,true,true,true,true,true,false,false,false,false,false,false,false,false,false,false,false,false,false,false] rfl rfl (any_of HT_.out (by kernel_rfl)) (fun _ _ _ h=>h) (Or.inl ⟨by rfl,?_⟩) ?_ ?_
      rotate_left
      ·intro w'
       go_simp
       with_reducible rfl
      rotate_left
      ·simp only [Act.put,List.setIfInBounds_toArray,List.set_cons_zero,List.set_cons_succ,i64_w,i32_w]
       rfl
      refine pure_ (i:=15) (N:=some 66) (v:=?_) (a':=?_) #[true,true,true,true,true,true,true,true,true,true,true,true,true,true,true,true,false,false,false,false,false,false,false,false,false,false,false,false,false] rfl rfl (any_of HT_.out (by kernel_rfl)) (fun _ _ _ h=>h) (Or.inl ⟨by rfl,?_⟩) ?_ ?_
      rotate_left
      ·intro w'
       go_simp
       with_reducible rfl
      rotate_left
      ·simp only [Act.put,List.setIfInBounds_toArray,List.set_cons_zero,List.set_cons_succ,i64_w,i32_w]
       rfl
      refine pure_ (i:=16) (N:=some 67) (v:=?_) (a':=?_) #[true,true,true,true,true,true,true,true,true,true,true,true,true,true,true,true,true,false,false,false,false,false,false,false,false,false,false,false,false] rfl rfl (any_of HT_.out (by kernel_rfl)) (fun _ _ _ h=>h) (Or.inl ⟨by rfl,?_⟩) ?_ ?_
      rotate_left
      ·intro w'
       go_simp
       with_reducible rfl
      rotate_left
      ·simp only [Act.put,List.setIfInBounds_toArray,List.set_cons_zero,List.set_cons_succ,i64_w,i32_w]
       rfl
      refine pure_ (i:=17) (N:=some 68) (v:=?_) (a':=?_) #[true,true,true,true,true,true,true,true,true,true,true,true,true,true,true,true,true,true,false,false,false,false,false,false,false,false,false,false,false] rfl rfl (any_of HT_.out (by kernel_rfl)) (fun _ _ _ h=>h) (Or.inl ⟨by rfl,?_⟩) ?_ ?_
      rotate_left
      ·intro w'
       go_simp
       with_reducible rfl
      rotate_left
      ·simp only [Act.put,List.setIfInBounds_toArray,List.set_cons_zero,List.set_cons_succ,i64_w,i32_w]
       rfl
      refine pure_ (i:=18) (N:=some 69) (v:=?_) (a':=?_) #[true,true,true,true,true,true,true,true,true,true,true,true,true,true,true,true,true,true,true,false,false,false,false,false,false,false,false,false,false] rfl rfl (any_of HT_.out (by kernel_rfl)) (fun _ _ _ h=>h) (Or.inl ⟨by rfl,?_⟩) ?_ ?_
      rotate_left
      ·intro w'
       go_simp
       with_reducible rfl
      rotate_left
      ·simp only [Act.put,List.setIfInBounds_toArray,List.set_cons_zero,List.set_cons_succ,i64_w,i32_w]
       rfl
      refine pure_ (i:=19) (N:=some 70) (v:=?_) (a':=?_) #[true,true,true,true,true,true,true,true,true,true,true,true,true,true,true,true,true,true,true,true,false,false,false,false,false,false,false,false,false] rfl rfl (any_of HT_.out (by kernel_rfl)) (fun _ _ _ h=>h) (Or.inl ⟨by rfl,?_⟩) ?_ ?_
      rotate_left
      ·intro w'
       go_simp
       with_reducible rfl
      rotate_left
      ·simp only [Act.put,List.setIfInBounds_toArray,List.set_cons_zero,List.set_cons_succ,i64_w,i32_w]
       rfl
      refine pure_ (i:=20) (N:=some 71) (v:=?_) (a':=?_) #[true,true,true,true,true,true,true,true,true,true,true,true,true,true,true,true,true,true,true,true,true,false,false,false,false,false,false,false,false] rfl rfl (any_of HT_.out (by kernel_rfl)) (fun _ _ _ h=>h) (Or.inl ⟨by rfl,?_⟩) ?_ ?_
      rotate_left
      ·intro w'
       go_simp
       with_reducible rfl
      rotate_left
      ·simp only [Act.put,List.setIfInBounds_toArray,List.set_cons_zero,List.set_cons_succ,i64_w,i32_w]
       rfl
      refine pure_ (i:=21) (N:=some 72) (v:=?_) (a':=?_) #[true,true,true,true,true,true,true,true,true,true,true,true,true,true,true,true,true,true,true,true,true,true,false,false,false,false,false,false,false] rfl rfl (any_of HT_.out (by kernel_rfl)) (fun _ _ _ h=>h) (Or.inl ⟨by rfl,?_⟩) ?_ ?_
      rotate_left
      ·intro w'
       go_simp
       with_reducible rfl
      rotate_left
      ·simp only [Act.put,List.setIfInBounds_toArray,List.set_cons_zero,List.set_cons_succ,i64_w,i32_w]
       rfl
      refine pure_ (i:=22) (N:=some 73) (v:=?_) (a':=?_) #[true,true,true,true,true,true,true,true,true,true,true,true,true,true,true,true,true,true,true,true,true,true,true,false,false,false,false,false,false] rfl rfl (any_of HT_.out (by kernel_rfl)) (fun _ _ _ h=>h) (Or.inl ⟨by rfl,?_⟩) ?_ ?_
      rotate_left
      ·intro w'
       go_simp
       with_reducible rfl
      rotate_left
      ·simp only [Act.put,List.setIfInBounds_toArray,List.set_cons_zero,List.set_cons_succ,i64_w,i32_w]
       rfl
      refine pure_ (i:=23) (N:=some 74) (v:=?_) (a':=?_) #[true,true,true,true,true,true,true,true,true,true,true,true,true,true,true,true,true,true,true,true,true,true,true,true,false,false,false,false,false] rfl rfl (any_of HT_.out (by kernel_rfl)) (fun _ _ _ h=>h) (Or.inl ⟨by rfl,?_⟩) ?_ ?_
      rotate_left
      ·intro w'
       go_simp
       with_reducible rfl
      rotate_left
      ·simp only [Act.put,List.setIfInBounds_toArray,List.set_cons_zero,List.set_cons_succ,i64_w,i32_w]
       rfl
      refine pure_ (i:=24) (N:=some 75) (v:=?_) (a':=?_) #[true,true,true,true,true,true,true,true,true,true,true,true,true,true,true,true,true,true,true,true,true,true,true,true,true,false,false,false,false] rfl rfl (any_of HT_.out (by kernel_rfl)) (fun _ _ _ h=>h) (Or.inl ⟨by rfl,?_⟩) ?_ ?_
      rotate_left
      ·intro w'
       go_simp
       with_reducible rfl
      rotate_left
      ·simp only [Act.put,List.setIfInBounds_toArray,List.set_cons_zero,List.set_cons_succ,i64_w,i32_w]
       rfl
      refine pure_ (i:=25) (N:=some 76) (v:=?_) (a':=?_) #[true,true,true,true,true,true,true,true,true,true,true,true,true,true,true,true,true,true,true,true,true,true,true,true,true,true,false,false,false] rfl rfl (any_of HT_.out (by kernel_rfl)) (fun _ _ _ h=>h) (Or.inl ⟨by rfl,?_⟩) ?_ ?_
      rotate_left
      ·intro w'
       go_simp
       with_reducible rfl
      rotate_left
      ·simp only [Act.put,List.setIfInBounds_toArray,List.set_cons_zero,List.set_cons_succ,i64_w,i32_w]
       rfl
      refine pure_ (i:=26) (N:=some 77) (v:=?_) (a':=?_) #[true,true,true,true,true,true,true,true,true,true,true,true,true,true,true,true,true,true,true,true,true,true,true,true,true,true,true,false,false] rfl rfl (any_of HT_.out (by kernel_rfl)) (fun _ _ _ h=>h) (Or.inl ⟨by rfl,?_⟩) ?_ ?_
      rotate_left
      ·intro w'
       go_simp
       with_reducible rfl
      rotate_left
      ·simp only [Act.put,List.setIfInBounds_toArray,List.set_cons_zero,List.set_cons_succ,i64_w,i32_w]
       rfl
      refine pure_ (i:=27) (N:=some 78) (v:=?_) (a':=?_) #[true,true,true,true,true,true,true,true,true,true,true,true,true,true,true,true,true,true,true,true,true,true,true,true,true,true,true,true,false] rfl rfl (any_of HT_.out (by kernel_rfl)) (fun _ _ _ h=>h) (Or.inl ⟨by rfl,?_⟩) ?_ ?_
      rotate_left
      ·intro w'
       go_simp
       with_reducible rfl
      rotate_left
      ·simp only [Act.put,List.setIfInBounds_toArray,List.set_cons_zero,List.set_cons_succ,i64_w,i32_w]
       rfl
      refine pure_ (i:=28) (N:=some 14) (v:=?_) (a':=?_) #[true,true,true,true,true,true,true,true,true,true,true,true,true,true,true,true,true,true,true,true,true,true,true,true,true,true,true,true,true] rfl rfl (any_of HT_.out (by kernel_rfl)) (fun _ _ _ h=>h) (Or.inl ⟨by rfl,?_⟩) ?_ ?_
      rotate_left
      ·intro w'
       go_simp
       with_reducible rfl
      rotate_left
      ·simp only [Act.put,List.setIfInBounds_toArray,List.set_cons_zero,List.set_cons_succ,i64_w,i32_w]
       rfl
      refine done_ (done_of HT_.out (by kernel_rfl)) ?_
      try go_wp2
      go_ret
      exact ⟨by first|rfl|(simp [errW_none,errW_some] <;> rfl)|(simp [*,errW_none,errW_some] <;> rfl),by repeat (first|(with_reducible first|exact HB.out|apply zlA|apply zlN|apply zlD|refine zlS ?_ GE245.out|refine zlS ?_ GE246.out|refine zlS ?_ GE254.out|refine zlS ?_ GE262.out)|exact HB.out)⟩
     ·rw [if_neg c20] at H
      have c20b0:(t263 == t265)=false:=beq_eq_false_iff_ne.mpr c20
      have c20b1:(t263 != t265)=true:=bne_iff_ne.mpr c20
      exact absurd H (by simp)
    ·rw [if_neg c19] at H
     have c19b0:(t253 == t261)=false:=beq_eq_false_iff_ne.mpr c19
     have c19b1:(t253 != t261)=true:=bne_iff_ne.mpr c19
     exact absurd H (by simp)
   ·replace c18:=Bool.eq_false_iff.mpr c18
    subst c18
    have H1:(none)=some r:=by rw [if_neg (show ¬ (false=true) by decide)] at H;exact H
    clear H
    have H:=H1
    clear H1
    exact absurd H (by simp)
  ·rw [if_neg c16] at H
   have c16b0:(t268 == t269)=false:=beq_eq_false_iff_ne.mpr c16
   have c16b1:(t268 != t269)=true:=bne_iff_ne.mpr c16
   exact absurd H (by simp)
 ·replace c13:=Bool.eq_false_iff.mpr c13
  subst c13
  have H1:(none)=some r:=by rw [if_neg (show ¬ (false=true) by decide)] at H;exact H
  clear H
  have H:=H1
  clear H1
  exact absurd H (by simp)
def slipwaylaw04_PoolMakes.Pure:Prop:=∀ (l0_0:List Int) (l0_1:List Int) (a1:Int) (l2:List Int) (a3_0:Int) (a3_1:Int) (a4:Int) (a5:Int) (a6:Int),(l0_0.length≤maxLen∧l0_0.length * 8≤140737488351232∧∀ x ∈ l0_0,(Lit.int .i64 x).wf=true) → (l0_1.length≤maxLen∧l0_1.length * 8≤140737488351232∧∀ x ∈ l0_1,(Lit.int .i64 x).wf=true) → (Lit.int .i64 a1).wf=true → (l2.length≤maxLen∧l2.length * 8≤140737488351232∧∀ x ∈ l2,(Lit.int .i64 x).wf=true) → (Lit.int .i64 a3_0).wf=true → (Lit.int .i64 a3_1).wf=true → (Lit.int .i64 a4).wf=true → (Lit.int .i64 a5).wf=true → (Lit.int .i64 a6).wf=true → ∃ k,slipwaylaw04_PoolMakes.f k l0_0 l0_1 a1 l2 a3_0 a3_1 a4 a5 a6=some true
theorem slipwaylaw04_PoolMakes.walk (P:slipwaylaw04_PoolMakes.Pure) (A0_0:Option Addr) (c0_0:Nat) (l0_0:List Int) (A0_1:Option Addr) (c0_1:Nat) (l0_1:List Int) (a1:Int) (A2:Option Addr) (c2:Nat) (l2:List Int) (a3_0:Int) (a3_1:Int) (a4:Int) (a5:Int) (a6:Int) (w:World) (hr0_0:Kd.C (Kd.int .i64) w A0_0 l0_0.length l0_0) (hc0_0:l0_0.length≤c0_0) (hr0_1:Kd.C (Kd.int .i64) w A0_1 l0_1.length l0_1) (hc0_1:l0_1.length≤c0_1) (hr2:Kd.C (Kd.int .i64) w A2 l2.length l2) (hc2:l2.length≤c2) (w0_0:(l0_0.length≤maxLen∧l0_0.length * 8≤140737488351232∧∀ x ∈ l0_0,(Lit.int .i64 x).wf=true)) (w0_1:(l0_1.length≤maxLen∧l0_1.length * 8≤140737488351232∧∀ x ∈ l0_1,(Lit.int .i64 x).wf=true)) (w1:(Lit.int .i64 a1).wf=true) (w2:(l2.length≤maxLen∧l2.length * 8≤140737488351232∧∀ x ∈ l2,(Lit.int .i64 x).wf=true)) (w3_0:(Lit.int .i64 a3_0).wf=true) (w3_1:(Lit.int .i64 a3_1).wf=true) (w4:(Lit.int .i64 a4).wf=true) (w5:(Lit.int .i64 a5).wf=true) (w6:(Lit.int .i64 a6).wf=true) :
  Calls Try.prog 3 #[.agg #[.slice A0_0 l0_0.length c0_0,.slice A0_1 l0_1.length c0_1],.int .i64 a1,.slice A2 l2.length c2,.agg #[.int .i64 a3_0,.int .i64 a3_1],.int .i64 a4,.int .i64 a5,.int .i64 a6] w fun e w'=>e=.returned (.bool true)∧Below w.heap.size w w':=by
 obtain ⟨k,h⟩:=P l0_0 l0_1 a1 l2 a3_0 a3_1 a4 a5 a6 w0_0 w0_1 w1 w2 w3_0 w3_1 w4 w5 w6
 refine (slipwaylaw04_PoolMakes.calls k A0_0 c0_0 l0_0 A0_1 c0_1 l0_1 a1 A2 c2 l2 a3_0 a3_1 a4 a5 a6 true w hr0_0 hc0_0 hr0_1 hc0_1 hr2 hc2 h).mono ?_
 rintro e w' ⟨rfl,hd⟩
 exact ⟨rfl,hd⟩
end Go.Proofs.Ytlegmnpngcadhaa.Print
end
