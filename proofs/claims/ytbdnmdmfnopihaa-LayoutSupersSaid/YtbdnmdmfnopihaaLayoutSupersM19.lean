/- Texts of the proof of LayoutSupers, part 19. -/
import Derived.Test.YtbdnmdmfnopihaaLayoutSupersM17
import Derived.Test.YtbdnmdmfnopihaaLayoutSupersM18
section
namespace Go.Proofs.Ytbdnmdmfnopihaa.Print
open Go.RowKit Go.Proofs.YtbdnmdmfnopihaaW.PrintWords Go.Proofs.YtbdnmdmfnopihaaW.PrintLast Go.Proofs.YtbdnmdmfnopihaaW.PrintMore
attribute [local go_sem] max2_int min2_int max_two min_two max_three min_three max_four min_four   -- for this text's walks alone
attribute [local go_sem ↓] Go.Proofs.Ytbdnmdmfnopihaa.Sem.isSome_setCell
attribute [local go_sem] Go.Instr.field Go.asAgg
set_option linter.unusedVariables false
set_option linter.unusedSimpArgs false
mutual
def layout_EncodeSuper.j0:Nat → Bool → Int → Int → Int → Bool → Int → Option (List Int × Int)
 | 0,_,_,_,_,_,_=>none
 | k + 1,x34,x459000,x459001,x459002,x459003,x459004=>if x34=true then (some (([]:List Int),1)) else (if x459003=true then (layout_EncodeSuper.j1 k 1 x459000 x459001 x459002 x459003 x459004) else (layout_EncodeSuper.j1 k 0 x459000 x459001 x459002 x459003 x459004))
def layout_EncodeSuper.j1:Nat → Int → Int → Int → Int → Bool → Int → Option (List Int × Int)
 | 0,_,_,_,_,_,_=>none
 | k + 1,x5,x459000,x459001,x459002,x459003,x459004=>(layout_superWidths.f).bind fun t461=>((seal_Pack.f k t461 (([1397508432,IntKind.u64.wrap (x459000),IntKind.u64.wrap (x459001),x5,IntKind.u64.wrap (x459002),IntKind.u64.wrap (x459004)]:List Int))).bind fun bt467=>(if bt467.2=0 then (if 0≤(wrap64 (252 - (bt467.1.length:Int))) then (if bt467.1.length + (wrap64 (252 - (bt467.1.length:Int)):Int).toNat < 140737488355328 then ((seal_Seal.f k (bt467.1 ++ List.replicate (wrap64 (252 - (bt467.1.length:Int)):Int).toNat 0)).bind fun bt474=>(some (bt474.1,bt474.2))) else (none)) else (none)) else (some (([]:List Int),bt467.2))))
end
def layout_EncodeSuper.f (k:Nat) (a0_0:Int) (a0_1:Int) (a0_2:Int) (a0_3:Bool) (a0_4:Int):Option (List Int × Int):=(layout_Check.f k a0_0 a0_1).bind fun t459=>(if t459=0 then (if a0_2 < 0 then (layout_EncodeSuper.j0 k true a0_0 a0_1 a0_2 a0_3 a0_4) else ((layout_Inodes.f k a0_0 a0_1).bind fun t460=>(if a0_2 > t460 then (layout_EncodeSuper.j0 k true a0_0 a0_1 a0_2 a0_3 a0_4) else (if a0_4 < 0 then (layout_EncodeSuper.j0 k true a0_0 a0_1 a0_2 a0_3 a0_4) else (layout_EncodeSuper.j0 k (decide (a0_4 > 1152921504606846976)) a0_0 a0_1 a0_2 a0_3 a0_4))))) else (some (([]:List Int),t459)))
def layout_EncodeSuper.T4:Bool × List (List Nat × List Nat):=(true,[([],[]),([0],[0]),([1],[1]),([2],[2]),([3],[3]),([4,3],[3,4]),([3],[3]),([6,3],[3,6]),([7,3,3],[3,7]),([5,8,3],[3,5,8]),([3,9],[3,9]),([10,8],[10]),([11],[11]),([12,11],[11,12]),([13,11],[11,13]),([11,14],[11,14]),([15,11],[15]),([16],[16]),([17,16],[16,17]),([18,16],[16,18]),([16,19],[16,19])])
def layout_EncodeSuper.B4:List Nat:=[0,1,3,7,15,31,15,79,207,511,1023,2047,4095,8191,16383,32767,65535,131071,262143,524287,1048575]
theorem layout_EncodeSuper.tab4:rtab .any (opsOf Try.f40 4)=layout_EncodeSuper.T4:=by kernel_rfl
theorem layout_EncodeSuper.bits4:waitsOk layout_EncodeSuper.T4.2 layout_EncodeSuper.B4=true:=by kernel_rfl
def layout_EncodeSuper.T9:Bool × List (List Nat × List Nat):=(true,[([],[]),([],[]),([1],[1]),([2],[2]),([3],[3]),([],[]),([5],[5]),([6],[6]),([7],[7]),([],[]),([],[]),([10],[10]),([11],[11]),([],[]),([13],[13]),([14],[14]),([4,8,9,12,15],[4,8,9,12,15]),([0,16,0],[0,16]),([17],[17]),([18],[18]),([18],[18]),([19,17,0,1,2,3,4,5,6,7,8,9,10,11,12,13,14,15,16,17,18,19],[19]),([20,21,0,1,2,3,4,5,6,7,8,9,10,11,12,13,14,15,16,17,18,19,20,21],[20])])
def layout_EncodeSuper.B9:List Nat:=[0,0,2,6,14,0,32,96,224,0,0,1024,3072,0,8192,24576,65534,131071,262143,524287,524287,1048575,4194303]
theorem layout_EncodeSuper.tab9:rtab .any (opsOf Try.f40 9)=layout_EncodeSuper.T9:=by kernel_rfl
theorem layout_EncodeSuper.bits9:waitsOk layout_EncodeSuper.T9.2 layout_EncodeSuper.B9=true:=by kernel_rfl
set_option maxHeartbeats 8000000 in
set_option maxRecDepth 100000 in
theorem layout_EncodeSuper.calls (k:Nat) (a0_0:Int) (a0_1:Int) (a0_2:Int) (a0_3:Bool) (a0_4:Int) (r1:List Int) (r2:Int) (w:World) (h:layout_EncodeSuper.f k a0_0 a0_1 a0_2 a0_3 a0_4=some (r1,r2)) :
  Calls Try.prog 40 #[.agg #[.int .i64 a0_0,.int .i64 a0_1,.int .i64 a0_2,.bool a0_3,.int .i64 a0_4]] w fun e w'=>∃ v0_:Value,e=.returned (.tuple #[v0_,.int .i64 r2])∧Kd.R (Kd.int .u8) 5 w' w.heap.size (fun _=>True) v0_ r1∧Below w.heap.size w w':=by
 have hu63:=Try.underlying63
 have hu24:=Try.underlying24
 have HB:=Aside0.mk (Below.refl w.heap.size w)
 have H:((layout_Check.f k a0_0 a0_1).bind fun t459=>(if t459=0 then (if a0_2 < 0 then (layout_EncodeSuper.j0 k true a0_0 a0_1 a0_2 a0_3 a0_4) else ((layout_Inodes.f k a0_0 a0_1).bind fun t460=>(if a0_2 > t460 then (layout_EncodeSuper.j0 k true a0_0 a0_1 a0_2 a0_3 a0_4) else (if a0_4 < 0 then (layout_EncodeSuper.j0 k true a0_0 a0_1 a0_2 a0_3 a0_4) else (layout_EncodeSuper.j0 k (decide (a0_4 > 1152921504606846976)) a0_0 a0_1 a0_2 a0_3 a0_4))))) else (some (([]:List Int),t459))))=some (r1,r2):=h
 clear h
 replace H:=Option.bind_eq_some_iff.mp H
 obtain ⟨t459,A20,H⟩:=H
 replace H:(if t459=0 then (if a0_2 < 0 then (layout_EncodeSuper.j0 k true a0_0 a0_1 a0_2 a0_3 a0_4) else ((layout_Inodes.f k a0_0 a0_1).bind fun t460=>(if a0_2 > t460 then (layout_EncodeSuper.j0 k true a0_0 a0_1 a0_2 a0_3 a0_4) else (if a0_4 < 0 then (layout_EncodeSuper.j0 k true a0_0 a0_1 a0_2 a0_3 a0_4) else (layout_EncodeSuper.j0 k (decide (a0_4 > 1152921504606846976)) a0_0 a0_1 a0_2 a0_3 a0_4))))) else (some (([]:List Int),t459)))=some (r1,r2):=H
 have A2:=Aside0.mk A20
 clear A20
 by_cases c3:t459=0
 ·rw [if_pos c3] at H
  have c3b0:(t459 == 0)=true:=beq_iff_eq.mpr c3
  have c3b1:(t459 != 0)=false:=bne_eq_false_iff_eq.mpr c3
  clear c3
  have HC4:=Aside0.mk H
  clear H
  go_enter Try.func40,Try.ntmps40
  go_upto_region 4 with (first|((with_reducible refine gate_dst (N:=1) rfl ?_);refine box_event ?hg (N:=1) ?hd (cs:=#[.int .i64 a0_0,.int .i64 a0_1,.int .i64 a0_2,.bool a0_3,.int .i64 a0_4]) (t:=63) ?hr ?_;(case hd=>rfl);(case hg=>rfl);(case hr=>first|(go_simp;done)|(go_simp;rfl));intro gb458 hg w5 hbox hb;have n0_:=Aside0.mk (below_step (by repeat (first|(with_reducible first|exact HB.out|apply below_alloc|apply pw_below_drewN|apply below_drew1)|exact HB.out)) hb);have n1_:=Aside0.mk (hbox);have n2_:=Aside0.mk ((by rw [hg];exact (below_size (by repeat (first|(with_reducible first|exact HB.out|apply below_alloc|apply pw_below_drewN|apply below_drew1)|exact HB.out))):w.heap.size≤gb458));have n3_:=Aside0.mk ((by rw [hg];exact (below_size (by repeat (first|(with_reducible first|exact HB.out|apply below_alloc|apply pw_below_drewN|apply below_drew1)|exact HB.out))):w.heap.size≤gb458));clear HB;have HB:=n0_;have BK458:=n1_;have GW458:=n2_;have GE458:=n3_;clear n0_ n1_ n2_ n3_;clear hb hbox hg;have hcz6_0:w5.cell? ⟨gb458,0,none⟩=some (.int .i64 a0_0):=(blk_cell BK458.out 0).trans rfl;have hcz6_1:w5.cell? ⟨gb458,1,none⟩=some (.int .i64 a0_1):=(blk_cell BK458.out 1).trans rfl;have hcz6_2:w5.cell? ⟨gb458,2,none⟩=some (.int .i64 a0_2):=(blk_cell BK458.out 2).trans rfl;have hcz6_3:w5.cell? ⟨gb458,3,none⟩=some (.bool a0_3):=(blk_cell BK458.out 3).trans rfl;have hcz6_4:w5.cell? ⟨gb458,4,none⟩=some (.int .i64 a0_4):=(blk_cell BK458.out 4).trans rfl;have hfz6_0:=blk_frozen BK458.out 0;have hfz6_1:=blk_frozen BK458.out 1;have hfz6_2:=blk_frozen BK458.out 2;have hfz6_3:=blk_frozen BK458.out 3;have hfz6_4:=blk_frozen BK458.out 4)|((with_reducible refine gate_callee (f:=15) rfl ?_);refine goesL_ (some 10) rfl rfl Try.func15 (by kernel_rfl) rfl #[.agg #[.int .i64 a0_0,.int .i64 a0_1]] rfl (by (try simp only [List.map_toArray,List.map_cons,List.map_nil]);first|done|rfl|(simp only [List.length_drop,List.length_take];rfl)) ?_;(with_reducible refine (layout_Check.calls k a0_0 a0_1 t459 _ A2.out).mono ?_);rintro e w7 ⟨rfl,hb⟩;refine ⟨_,rfl,?_⟩;have n0_:=Aside0.mk (blk_below (g:=gb458) (o:=.cells #[.int .i64 a0_0,.int .i64 a0_1,.int .i64 a0_2,.bool a0_3,.int .i64 a0_4] 63 (0,0)) (by (with_reducible repeat (first|refine blk_drewN ?_ _|refine blk_drew ?_|refine blk_alloc ?_ _));exact BK458.out) hb);have n1_:=Aside0.mk (below_step (by repeat (first|(with_reducible first|exact HB.out|apply below_alloc|apply pw_below_drewN|apply below_drew1|refine below_set ?_ GE458.out)|exact HB.out)) hb);clear BK458 HB;have BK458:=n0_;have HB:=n1_;clear n0_ n1_;(try clear hb);(try clear hb2);(try clear hk);(try clear hi)))
  (try simp only [Act.put,List.setIfInBounds_toArray,List.set_cons_zero,List.set_cons_succ])
  go_cut [34] (fun v34 wc=>∃ (kq:Nat) (x34_3:Bool),v34=.bool x34_3∧Aside0 (layout_EncodeSuper.j0 kq x34_3 a0_0 a0_1 a0_2 a0_3 a0_4=some (r1,r2))∧Aside0 (kq≤k)∧Aside0 (wc.heap[gb458]?=some (.cells #[.int .i64 a0_0,.int .i64 a0_1,.int .i64 a0_2,.bool a0_3,.int .i64 a0_4] 63 (0,0)))∧Aside0 (Below w.heap.size w wc))
  case first =>
   have H:=HC4.out
   clear HC4
   by_cases c8:a0_2 < 0
   ·rw [if_pos c8] at H
    have c8b0:decide (a0_2 < 0)=true:=decide_eq_true c8
    clear c8
    (first|rw [c8b0]|(simp only [i64_w,i32_w];rw [c8b0])|skip)
    have H':=Aside0.mk H
    clear H
    try go_wp2
    have n0_:=Aside0.mk (blk_drew BK458.out)
    have n1_:=Aside0.mk (below_drew1 HB.out)
    clear BK458 HB
    have BK458:=n0_
    have HB:=n1_
    clear n0_ n1_
    refine start_ (n:=21) (S:=fun w'=>w'.cell? ⟨gb458,0,none⟩=some (.int .i64 a0_0)∧w'.cell? ⟨gb458,1,none⟩=some (.int .i64 a0_1)∧w'.cell? ⟨gb458,2,none⟩=some (.int .i64 a0_2)∧w'.cell? ⟨gb458,3,none⟩=some (.bool a0_3)∧w'.cell? ⟨gb458,4,none⟩=some (.int .i64 a0_4)) (ds:=[]) #[false,false,false,false,false,false,false,false,false,false,false,false,false,false,false,false,false,false,false,false,false] (by kernel_rfl) rfl rfl ⟨(blk_cell BK458.out 0).trans rfl,(blk_cell BK458.out 1).trans rfl,(blk_cell BK458.out 2).trans rfl,(blk_cell BK458.out 3).trans rfl,(blk_cell BK458.out 4).trans rfl⟩ (fun hHeld=>?_);refine with_tabW layout_EncodeSuper.tab4 layout_EncodeSuper.bits4 (fun HT_ HW_=>?_)
    generalize w7.drew=w9 at BK458 HB hHeld ⊢
    refine pure_ (i:=0) (N:=some 14) (v:=?_) (a':=?_) #[true,false,false,false,false,false,false,false,false,false,false,false,false,false,false,false,false,false,false,false,false] rfl rfl (any_of HT_.out (by kernel_rfl)) (fun _ _ _ h=>h) (Or.inl ⟨by rfl,?_⟩) ?_ ?_
    rotate_left
    ·intro w'
     go_simp
     with_reducible rfl
    rotate_left
    ·simp only [Act.put,List.setIfInBounds_toArray,List.set_cons_zero,List.set_cons_succ,i64_w,i32_w]
     rfl
    refine take_ (i:=1) (N:=some 15) (v:=?_) (a':=?_) #[true,true,false,false,false,false,false,false,false,false,false,false,false,false,false,false,false,false,false,false,false] rfl rfl (take_ofW HT_.out HW_.out (by kernel_rfl)) (fun _ _ _ h=>h) (Or.inl ⟨by rfl,?_⟩) hHeld ?_ ?_
    rotate_left
    ·rintro w' ⟨s0,s1,s2,s3,s4⟩
     go_simp
     with_reducible rfl
    rotate_left
    ·simp only [Act.put,List.setIfInBounds_toArray,List.set_cons_zero,List.set_cons_succ,i64_w,i32_w]
     rfl
    refine pure_ (i:=2) (N:=some 16) (v:=?_) (a':=?_) #[true,true,true,false,false,false,false,false,false,false,false,false,false,false,false,false,false,false,false,false,false] rfl rfl (any_of HT_.out (by kernel_rfl)) (fun _ _ _ h=>h) (Or.inl ⟨by rfl,?_⟩) ?_ ?_
    rotate_left
    ·intro w'
     go_simp
     with_reducible rfl
    rotate_left
    ·simp only [Act.put,List.setIfInBounds_toArray,List.set_cons_zero,List.set_cons_succ,i64_w,i32_w]
     rfl
    refine pure_ (i:=3) (N:=some 17) (v:=?_) (a':=?_) #[true,true,true,true,false,false,false,false,false,false,false,false,false,false,false,false,false,false,false,false,false] rfl rfl (any_of HT_.out (by kernel_rfl)) (fun _ _ _ h=>h) (Or.inl ⟨by rfl,?_⟩) ?_ ?_
    rotate_left
    ·intro w'
     go_simp
     with_reducible rfl
    rotate_left
    ·simp only [Act.put,List.setIfInBounds_toArray,List.set_cons_zero,List.set_cons_succ,i64_w,i32_w]
     rfl
    refine pure_ (i:=4) (N:=some 18) (v:=undef) (a':=?_) #[true,true,true,true,true,false,false,false,false,false,false,false,false,false,false,false,false,false,false,false,false] rfl rfl (any_of HT_.out (by kernel_rfl)) (fun _ _ _ h=>h) (Or.inr ⟨by rfl,rfl⟩) ?_ ?_
    rotate_left
    ·simp only [Act.put,List.setIfInBounds_toArray,List.set_cons_zero,List.set_cons_succ,i64_w,i32_w]
     rfl
    refine pure_ (i:=5) (N:=some 19) (v:=undef) (a':=?_) #[true,true,true,true,true,true,false,false,false,false,false,false,false,false,false,false,false,false,false,false,false] rfl rfl (any_of HT_.out (by kernel_rfl)) (fun _ _ _ h=>h) (Or.inr ⟨by rfl,rfl⟩) ?_ ?_
    rotate_left
    ·simp only [Act.put,List.setIfInBounds_toArray,List.set_cons_zero,List.set_cons_succ,i64_w,i32_w]
     rfl
    refine pure_ (i:=6) (N:=some 20) (v:=undef) (a':=?_) #[true,true,true,true,true,true,true,false,false,false,false,false,false,false,false,false,false,false,false,false,false] rfl rfl (any_of HT_.out (by kernel_rfl)) (fun _ _ _ h=>h) (Or.inr ⟨by rfl,rfl⟩) ?_ ?_
    rotate_left
    ·simp only [Act.put,List.setIfInBounds_toArray,List.set_cons_zero,List.set_cons_succ,i64_w,i32_w]
     rfl
    refine pure_ (i:=7) (N:=some 21) (v:=undef) (a':=?_) #[true,true,true,true,true,true,true,true,false,false,false,false,false,false,false,false,false,false,false,false,false] rfl rfl (any_of HT_.out (by kernel_rfl)) (fun _ _ _ h=>h) (Or.inr ⟨by rfl,rfl⟩) ?_ ?_
    rotate_left
    ·simp only [Act.put,List.setIfInBounds_toArray,List.set_cons_zero,List.set_cons_succ,i64_w,i32_w]
     rfl
    refine pure_ (i:=8) (N:=some 22) (v:=undef) (a':=?_) #[true,true,true,true,true,true,true,true,true,false,false,false,false,false,false,false,false,false,false,false,false] rfl rfl (any_of HT_.out (by kernel_rfl)) (fun _ _ _ h=>h) (Or.inr ⟨by rfl,rfl⟩) ?_ ?_
    rotate_left
    ·simp only [Act.put,List.setIfInBounds_toArray,List.set_cons_zero,List.set_cons_succ,i64_w,i32_w]
     rfl
    refine pure_ (i:=9) (N:=some 23) (v:=undef) (a':=?_) #[true,true,true,true,true,true,true,true,true,true,false,false,false,false,false,false,false,false,false,false,false] rfl rfl (any_of HT_.out (by kernel_rfl)) (fun _ _ _ h=>h) (Or.inr ⟨by rfl,rfl⟩) ?_ ?_
    rotate_left
    ·simp only [Act.put,List.setIfInBounds_toArray,List.set_cons_zero,List.set_cons_succ,i64_w,i32_w]
     rfl
    refine pure_ (i:=10) (N:=some 24) (v:=?_) (a':=?_) #[true,true,true,true,true,true,true,true,true,true,true,false,false,false,false,false,false,false,false,false,false] rfl rfl (any_of HT_.out (by kernel_rfl)) (fun _ _ _ h=>h) (Or.inl ⟨by rfl,?_⟩) ?_ ?_
    rotate_left
    ·intro w'
     go_simp
     with_reducible rfl
    rotate_left
    ·simp only [Act.put,List.setIfInBounds_toArray,List.set_cons_zero,List.set_cons_succ,i64_w,i32_w]
     rfl
    refine pure_ (i:=11) (N:=some 25) (v:=?_) (a':=?_) #[true,true,true,true,true,true,true,true,true,true,true,true,false,false,false,false,false,false,false,false,false] rfl rfl (any_of HT_.out (by kernel_rfl)) (fun _ _ _ h=>h) (Or.inl ⟨by rfl,?_⟩) ?_ ?_
    rotate_left
    ·intro w'
     go_simp
     with_reducible rfl
    rotate_left
    ·simp only [Act.put,List.setIfInBounds_toArray,List.set_cons_zero,List.set_cons_succ,i64_w,i32_w]
     rfl
    refine pure_ (i:=12) (N:=some 26) (v:=undef) (a':=?_) #[true,true,true,true,true,true,true,true,true,true,true,true,true,false,false,false,false,false,false,false,false] rfl rfl (any_of HT_.out (by kernel_rfl)) (fun _ _ _ h=>h) (Or.inr ⟨by rfl,rfl⟩) ?_ ?_
    rotate_left
    ·simp only [Act.put,List.setIfInBounds_toArray,List.set_cons_zero,List.set_cons_succ,i64_w,i32_w]
     rfl
    refine pure_ (i:=13) (N:=some 27) (v:=undef) (a':=?_) #[true,true,true,true,true,true,true,true,true,true,true,true,true,true,false,false,false,false,false,false,false] rfl rfl (any_of HT_.out (by kernel_rfl)) (fun _ _ _ h=>h) (Or.inr ⟨by rfl,rfl⟩) ?_ ?_
    rotate_left
    ·simp only [Act.put,List.setIfInBounds_toArray,List.set_cons_zero,List.set_cons_succ,i64_w,i32_w]
     rfl
    refine pure_ (i:=14) (N:=some 28) (v:=undef) (a':=?_) #[true,true,true,true,true,true,true,true,true,true,true,true,true,true,true,false,false,false,false,false,false] rfl rfl (any_of HT_.out (by kernel_rfl)) (fun _ _ _ h=>h) (Or.inr ⟨by rfl,rfl⟩) ?_ ?_
    rotate_left
    ·simp only [Act.put,List.setIfInBounds_toArray,List.set_cons_zero,List.set_cons_succ,i64_w,i32_w]
     rfl
    refine pure_ (i:=15) (N:=some 29) (v:=?_) (a':=?_) #[true,true,true,true,true,true,true,true,true,true,true,true,true,true,true,true,false,false,false,false,false] rfl rfl (any_of HT_.out (by kernel_rfl)) (fun _ _ _ h=>h) (Or.inl ⟨by rfl,?_⟩) ?_ ?_
    rotate_left
    ·intro w'
     go_simp
     with_reducible rfl
    rotate_left
    ·simp only [Act.put,List.setIfInBounds_toArray,List.set_cons_zero,List.set_cons_succ,i64_w,i32_w]
     rfl
    refine pure_ (i:=16) (N:=some 30) (v:=?_) (a':=?_) #[true,true,true,true,true,true,true,true,true,true,true,true,true,true,true,true,true,false,false,false,false] rfl rfl (any_of HT_.out (by kernel_rfl)) (fun _ _ _ h=>h) (Or.inl ⟨by rfl,?_⟩) ?_ ?_
    rotate_left
    ·intro w'
     go_simp
     with_reducible rfl
    rotate_left
    ·simp only [Act.put,List.setIfInBounds_toArray,List.set_cons_zero,List.set_cons_succ,i64_w,i32_w]
     rfl
    refine pure_ (i:=17) (N:=some 31) (v:=undef) (a':=?_) #[true,true,true,true,true,true,true,true,true,true,true,true,true,true,true,true,true,true,false,false,false] rfl rfl (any_of HT_.out (by kernel_rfl)) (fun _ _ _ h=>h) (Or.inr ⟨by rfl,rfl⟩) ?_ ?_
    rotate_left
    ·simp only [Act.put,List.setIfInBounds_toArray,List.set_cons_zero,List.set_cons_succ,i64_w,i32_w]
     rfl
    refine pure_ (i:=18) (N:=some 32) (v:=undef) (a':=?_) #[true,true,true,true,true,true,true,true,true,true,true,true,true,true,true,true,true,true,true,false,false] rfl rfl (any_of HT_.out (by kernel_rfl)) (fun _ _ _ h=>h) (Or.inr ⟨by rfl,rfl⟩) ?_ ?_
    rotate_left
    ·simp only [Act.put,List.setIfInBounds_toArray,List.set_cons_zero,List.set_cons_succ,i64_w,i32_w]
     rfl
    refine pure_ (i:=19) (N:=some 33) (v:=undef) (a':=?_) #[true,true,true,true,true,true,true,true,true,true,true,true,true,true,true,true,true,true,true,true,false] rfl rfl (any_of HT_.out (by kernel_rfl)) (fun _ _ _ h=>h) (Or.inr ⟨by rfl,rfl⟩) ?_ ?_
    rotate_left
    ·simp only [Act.put,List.setIfInBounds_toArray,List.set_cons_zero,List.set_cons_succ,i64_w,i32_w]
     rfl
    refine pure_ (i:=20) (N:=some 34) (v:=?_) (a':=?_) #[true,true,true,true,true,true,true,true,true,true,true,true,true,true,true,true,true,true,true,true,true] rfl rfl (any_of HT_.out (by kernel_rfl)) (fun _ _ _ h=>h) (Or.inl ⟨by rfl,?_⟩) ?_ ?_
    rotate_left
    ·intro w'
     go_simp
     with_reducible rfl
    rotate_left
    ·simp only [Act.put,List.setIfInBounds_toArray,List.set_cons_zero,List.set_cons_succ,i64_w,i32_w]
     rfl
    refine done_ (done_of HT_.out (by kernel_rfl)) ?_
    try go_wp2
    go_meet
    case rel=>exact ⟨_,(true),(by first|rfl|(simp;done)|(simp [*];done)),H',⟨by first|omega|exact Nat.le_refl _⟩,⟨by (with_reducible repeat (first|refine blk_drewN ?_ _|refine blk_drew ?_|refine blk_alloc ?_ _));exact BK458.out⟩,⟨by repeat (first|(with_reducible first|exact HB.out|apply below_alloc|apply pw_below_drewN|apply below_drew1|refine below_set ?_ GE458.out)|exact HB.out)⟩⟩
   ·rw [if_neg c8] at H
    have c8b0:decide (a0_2 < 0)=false:=decide_eq_false c8
    clear c8
    (first|rw [c8b0]|(simp only [i64_w,i32_w];rw [c8b0])|skip)
    replace H:=Option.bind_eq_some_iff.mp H
    obtain ⟨t460,A100,H⟩:=H
    replace H:(if a0_2 > t460 then (layout_EncodeSuper.j0 k true a0_0 a0_1 a0_2 a0_3 a0_4) else (if a0_4 < 0 then (layout_EncodeSuper.j0 k true a0_0 a0_1 a0_2 a0_3 a0_4) else (layout_EncodeSuper.j0 k (decide (a0_4 > 1152921504606846976)) a0_0 a0_1 a0_2 a0_3 a0_4)))=some (r1,r2):=H
    have A10:=Aside0.mk A100
    clear A100
    by_cases c11:a0_2 > t460
    ·rw [if_pos c11] at H
     have c11b0:decide (t460 < a0_2)=true:=decide_eq_true c11
     clear c11
     have H':=Aside0.mk H
     clear H
     try go_wp2
     have n0_:=Aside0.mk (blk_drew BK458.out)
     have n1_:=Aside0.mk (below_drew1 HB.out)
     clear BK458 HB
     have BK458:=n0_
     have HB:=n1_
     clear n0_ n1_
     refine start_ (n:=21) (S:=fun w'=>w'.cell? ⟨gb458,0,none⟩=some (.int .i64 a0_0)∧w'.cell? ⟨gb458,1,none⟩=some (.int .i64 a0_1)∧w'.cell? ⟨gb458,2,none⟩=some (.int .i64 a0_2)∧w'.cell? ⟨gb458,3,none⟩=some (.bool a0_3)∧w'.cell? ⟨gb458,4,none⟩=some (.int .i64 a0_4)) (ds:=[]) #[false,false,false,false,false,false,false,false,false,false,false,false,false,false,false,false,false,false,false,false,false] (by kernel_rfl) rfl rfl ⟨(blk_cell BK458.out 0).trans rfl,(blk_cell BK458.out 1).trans rfl,(blk_cell BK458.out 2).trans rfl,(blk_cell BK458.out 3).trans rfl,(blk_cell BK458.out 4).trans rfl⟩ (fun hHeld=>?_);refine with_tabW layout_EncodeSuper.tab4 layout_EncodeSuper.bits4 (fun HT_ HW_=>?_)
     generalize w7.drew=w12 at BK458 HB hHeld ⊢
     refine pure_ (i:=0) (N:=some 14) (v:=?_) (a':=?_) #[true,false,false,false,false,false,false,false,false,false,false,false,false,false,false,false,false,false,false,false,false] rfl rfl (any_of HT_.out (by kernel_rfl)) (fun _ _ _ h=>h) (Or.inl ⟨by rfl,?_⟩) ?_ ?_
     rotate_left
     ·intro w'
      go_simp
      with_reducible rfl
     rotate_left
     ·simp only [Act.put,List.setIfInBounds_toArray,List.set_cons_zero,List.set_cons_succ,i64_w,i32_w]
      rfl
     refine take_ (i:=1) (N:=some 15) (v:=?_) (a':=?_) #[true,true,false,false,false,false,false,false,false,false,false,false,false,false,false,false,false,false,false,false,false] rfl rfl (take_ofW HT_.out HW_.out (by kernel_rfl)) (fun _ _ _ h=>h) (Or.inl ⟨by rfl,?_⟩) hHeld ?_ ?_
     rotate_left
     ·rintro w' ⟨s0,s1,s2,s3,s4⟩
      go_simp
      with_reducible rfl
     rotate_left
     ·simp only [Act.put,List.setIfInBounds_toArray,List.set_cons_zero,List.set_cons_succ,i64_w,i32_w]
      rfl
     refine pure_ (i:=2) (N:=some 16) (v:=?_) (a':=?_) #[true,true,true,false,false,false,false,false,false,false,false,false,false,false,false,false,false,false,false,false,false] rfl rfl (any_of HT_.out (by kernel_rfl)) (fun _ _ _ h=>h) (Or.inl ⟨by rfl,?_⟩) ?_ ?_
     rotate_left
     ·intro w'
      go_simp
      with_reducible rfl
     rotate_left
     ·simp only [Act.put,List.setIfInBounds_toArray,List.set_cons_zero,List.set_cons_succ,i64_w,i32_w]
      rfl
     refine pure_ (i:=3) (N:=some 17) (v:=?_) (a':=?_) #[true,true,true,true,false,false,false,false,false,false,false,false,false,false,false,false,false,false,false,false,false] rfl rfl (any_of HT_.out (by kernel_rfl)) (fun _ _ _ h=>h) (Or.inl ⟨by rfl,?_⟩) ?_ ?_
     rotate_left
     ·intro w'
      go_simp
      with_reducible rfl
     rotate_left
     ·simp only [Act.put,List.setIfInBounds_toArray,List.set_cons_zero,List.set_cons_succ,i64_w,i32_w]
      rfl
     refine pure_ (i:=4) (N:=some 18) (v:=?_) (a':=?_) #[true,true,true,true,true,false,false,false,false,false,false,false,false,false,false,false,false,false,false,false,false] rfl rfl (any_of HT_.out (by kernel_rfl)) (fun _ _ _ h=>h) (Or.inl ⟨by rfl,?_⟩) ?_ ?_
     rotate_left
     ·intro w'
      go_simp
      with_reducible rfl
     rotate_left
     ·simp only [Act.put,List.setIfInBounds_toArray,List.set_cons_zero,List.set_cons_succ,i64_w,i32_w]
      rfl
     refine pure_ (i:=6) (N:=some 20) (v:=?_) (a':=?_) #[true,true,true,true,true,false,true,false,false,false,false,false,false,false,false,false,false,false,false,false,false] rfl rfl (any_of HT_.out (by kernel_rfl)) (fun _ _ _ h=>h) (Or.inl ⟨by rfl,?_⟩) ?_ ?_
     rotate_left
     ·intro w'
      go_simp
      with_reducible rfl
     rotate_left
     ·simp only [Act.put,List.setIfInBounds_toArray,List.set_cons_zero,List.set_cons_succ,i64_w,i32_w]
      rfl
     refine take_ (i:=5) (N:=some 19) (v:=?_) (a':=?_) #[true,true,true,true,true,true,true,false,false,false,false,false,false,false,false,false,false,false,false,false,false] rfl rfl (take_ofW HT_.out HW_.out (by kernel_rfl)) (fun _ _ _ h=>h) (Or.inl ⟨by rfl,?_⟩) hHeld ?_ ?_
     rotate_left
     ·rintro w' ⟨s0,s1,s2,s3,s4⟩
      go_simp
      with_reducible rfl
     rotate_left
     ·simp only [Act.put,List.setIfInBounds_toArray,List.set_cons_zero,List.set_cons_succ,i64_w,i32_w]
      rfl
     refine take_ (i:=7) (N:=some 21) (v:=?_) (a':=?_) #[true,true,true,true,true,true,true,true,false,false,false,false,false,false,false,false,false,false,false,false,false] rfl rfl (take_ofW HT_.out HW_.out (by kernel_rfl)) (fun _ _ _ h=>h) (Or.inl ⟨by rfl,?_⟩) hHeld ?_ ?_
     rotate_left
     ·rintro w' ⟨s0,s1,s2,s3,s4⟩
      go_simp
      with_reducible rfl
     rotate_left
     ·simp only [Act.put,List.setIfInBounds_toArray,List.set_cons_zero,List.set_cons_succ,i64_w,i32_w]
      rfl
     refine one_ (i:=8) (N:=some 22) #[true,true,true,true,true,true,true,true,true,false,false,false,false,false,false,false,false,false,false,false,false] rfl rfl (one_of HT_.out (by kernel_rfl)) (by decide) (fun K hK=>?_)
     refine goes_ Try.func23 (by kernel_rfl) rfl #[.agg #[.int .i64 a0_0,.int .i64 a0_1]] (by rfl) rfl rfl (by (try simp only [List.map_toArray,List.map_cons,List.map_nil]);first|done|rfl|(simp only [List.length_drop,List.length_take];rfl)) ?_
     with_reducible refine (layout_Inodes.calls k a0_0 a0_1 t460 _ A10.out).mono ?_
     rintro e w13 ⟨rfl,hb⟩
     refine ⟨_,rfl,?_⟩
     have n0_:=Aside0.mk (blk_below (g:=gb458) (o:=.cells #[.int .i64 a0_0,.int .i64 a0_1,.int .i64 a0_2,.bool a0_3,.int .i64 a0_4] 63 (0,0)) (by (with_reducible repeat (first|refine blk_drewN ?_ _|refine blk_drew ?_|refine blk_alloc ?_ _));exact BK458.out) hb)
     have n1_:=Aside0.mk (below_step (by repeat (first|(with_reducible first|exact HB.out|apply below_alloc|apply pw_below_drewN|apply below_drew1|refine below_set ?_ GE458.out)|exact HB.out)) hb)
     clear BK458 HB
     have BK458:=n0_
     have HB:=n1_
     clear n0_ n1_
     (try clear hb)
     (try clear hb2)
     (try clear hk)
     (try clear hi)
     refine hK.out _ _ ⟨(blk_cell BK458.out 0).trans rfl,(blk_cell BK458.out 1).trans rfl,(blk_cell BK458.out 2).trans rfl,(blk_cell BK458.out 3).trans rfl,(blk_cell BK458.out 4).trans rfl⟩ (fun hHeld=>?_)
     clear hK K
     refine norm_ (a':=?_) ?_ ?_
     rotate_left
     ·show Act.put _ (some 22) _=_
      simp only [Act.put,List.setIfInBounds_toArray,List.set_cons_zero,List.set_cons_succ,i64_w,i32_w]
      rfl
     refine pure_ (i:=9) (N:=some 23) (v:=?_) (a':=?_) #[true,true,true,true,true,true,true,true,true,true,false,false,false,false,false,false,false,false,false,false,false] rfl rfl (any_of HT_.out (by kernel_rfl)) (fun _ _ _ h=>h) (Or.inl ⟨by rfl,?_⟩) ?_ ?_
     rotate_left
     ·intro w'
      go_simp
      with_reducible rfl
     rotate_left
     ·simp only [Act.put,List.setIfInBounds_toArray,List.set_cons_zero,List.set_cons_succ,i64_w,i32_w]
      rfl
     refine pure_ (i:=10) (N:=some 24) (v:=?_) (a':=?_) #[true,true,true,true,true,true,true,true,true,true,true,false,false,false,false,false,false,false,false,false,false] rfl rfl (any_of HT_.out (by kernel_rfl)) (fun _ _ _ h=>h) (Or.inl ⟨by rfl,?_⟩) ?_ ?_
     rotate_left
     ·intro w'
      go_simp
      with_reducible rfl
     rotate_left
     ·simp only [Act.put,List.setIfInBounds_toArray,List.set_cons_zero,List.set_cons_succ,i64_w,i32_w]
      rfl
     refine pure_ (i:=11) (N:=some 25) (v:=?_) (a':=?_) #[true,true,true,true,true,true,true,true,true,true,true,true,false,false,false,false,false,false,false,false,false] rfl rfl (any_of HT_.out (by kernel_rfl)) (fun _ _ _ h=>h) (Or.inl ⟨by rfl,?_⟩) ?_ ?_
     rotate_left
     ·intro w'
      go_simp
      with_reducible rfl
     rotate_left
     ·simp only [Act.put,List.setIfInBounds_toArray,List.set_cons_zero,List.set_cons_succ,i64_w,i32_w]
      rfl
     refine pure_ (i:=12) (N:=some 26) (v:=undef) (a':=?_) #[true,true,true,true,true,true,true,true,true,true,true,true,true,false,false,false,false,false,false,false,false] rfl rfl (any_of HT_.out (by kernel_rfl)) (fun _ _ _ h=>h) (Or.inr ⟨by rfl,rfl⟩) ?_ ?_
     rotate_left
     ·simp only [Act.put,List.setIfInBounds_toArray,List.set_cons_zero,List.set_cons_succ,i64_w,i32_w]
      rfl
     refine pure_ (i:=13) (N:=some 27) (v:=undef) (a':=?_) #[true,true,true,true,true,true,true,true,true,true,true,true,true,true,false,false,false,false,false,false,false] rfl rfl (any_of HT_.out (by kernel_rfl)) (fun _ _ _ h=>h) (Or.inr ⟨by rfl,rfl⟩) ?_ ?_
     rotate_left
     ·simp only [Act.put,List.setIfInBounds_toArray,List.set_cons_zero,List.set_cons_succ,i64_w,i32_w]
      rfl
     refine pure_ (i:=14) (N:=some 28) (v:=undef) (a':=?_) #[true,true,true,true,true,true,true,true,true,true,true,true,true,true,true,false,false,false,false,false,false] rfl rfl (any_of HT_.out (by kernel_rfl)) (fun _ _ _ h=>h) (Or.inr ⟨by rfl,rfl⟩) ?_ ?_
     rotate_left
     ·simp only [Act.put,List.setIfInBounds_toArray,List.set_cons_zero,List.set_cons_succ,i64_w,i32_w]
      rfl
     refine pure_ (i:=15) (N:=some 29) (v:=?_) (a':=?_) #[true,true,true,true,true,true,true,true,true,true,true,true,true,true,true,true,false,false,false,false,false] rfl rfl (any_of HT_.out (by kernel_rfl)) (fun _ _ _ h=>h) (Or.inl ⟨by rfl,?_⟩) ?_ ?_
     rotate_left
     ·intro w'
      go_simp
      with_reducible rfl
     rotate_left
     ·simp only [Act.put,List.setIfInBounds_toArray,List.set_cons_zero,List.set_cons_succ,i64_w,i32_w]
      rfl
     refine pure_ (i:=16) (N:=some 30) (v:=?_) (a':=?_) #[true,true,true,true,true,true,true,true,true,true,true,true,true,true,true,true,true,false,false,false,false] rfl rfl (any_of HT_.out (by kernel_rfl)) (fun _ _ _ h=>h) (Or.inl ⟨by rfl,?_⟩) ?_ ?_
     rotate_left
     ·intro w'
      go_simp
      with_reducible rfl
     rotate_left
     ·simp only [Act.put,List.setIfInBounds_toArray,List.set_cons_zero,List.set_cons_succ,i64_w,i32_w]
      rfl
     refine pure_ (i:=17) (N:=some 31) (v:=undef) (a':=?_) #[true,true,true,true,true,true,true,true,true,true,true,true,true,true,true,true,true,true,false,false,false] rfl rfl (any_of HT_.out (by kernel_rfl)) (fun _ _ _ h=>h) (Or.inr ⟨by rfl,rfl⟩) ?_ ?_
     rotate_left
     ·simp only [Act.put,List.setIfInBounds_toArray,List.set_cons_zero,List.set_cons_succ,i64_w,i32_w]
      rfl
     refine pure_ (i:=18) (N:=some 32) (v:=undef) (a':=?_) #[true,true,true,true,true,true,true,true,true,true,true,true,true,true,true,true,true,true,true,false,false] rfl rfl (any_of HT_.out (by kernel_rfl)) (fun _ _ _ h=>h) (Or.inr ⟨by rfl,rfl⟩) ?_ ?_
     rotate_left
     ·simp only [Act.put,List.setIfInBounds_toArray,List.set_cons_zero,List.set_cons_succ,i64_w,i32_w]
      rfl
     refine pure_ (i:=19) (N:=some 33) (v:=undef) (a':=?_) #[true,true,true,true,true,true,true,true,true,true,true,true,true,true,true,true,true,true,true,true,false] rfl rfl (any_of HT_.out (by kernel_rfl)) (fun _ _ _ h=>h) (Or.inr ⟨by rfl,rfl⟩) ?_ ?_
     rotate_left
     ·simp only [Act.put,List.setIfInBounds_toArray,List.set_cons_zero,List.set_cons_succ,i64_w,i32_w]
      rfl
     refine pure_ (i:=20) (N:=some 34) (v:=?_) (a':=?_) #[true,true,true,true,true,true,true,true,true,true,true,true,true,true,true,true,true,true,true,true,true] rfl rfl (any_of HT_.out (by kernel_rfl)) (fun _ _ _ h=>h) (Or.inl ⟨by rfl,?_⟩) ?_ ?_
     rotate_left
     ·intro w'
      go_simp
      with_reducible rfl
     rotate_left
     ·simp only [Act.put,List.setIfInBounds_toArray,List.set_cons_zero,List.set_cons_succ,i64_w,i32_w]
      rfl
     refine done_ (done_of HT_.out (by kernel_rfl)) ?_
     try go_wp2
     go_meet
     case rel=>exact ⟨_,(true),(by first|rfl|(simp;done)|(simp [*];done)),H',⟨by first|omega|exact Nat.le_refl _⟩,⟨by (with_reducible repeat (first|refine blk_drewN ?_ _|refine blk_drew ?_|refine blk_alloc ?_ _));exact BK458.out⟩,⟨by repeat (first|(with_reducible first|exact HB.out|apply below_alloc|apply pw_below_drewN|apply below_drew1|refine below_set ?_ GE458.out)|exact HB.out)⟩⟩
    ·rw [if_neg c11] at H
     have c11b0:decide (t460 < a0_2)=false:=decide_eq_false c11
     clear c11
     by_cases c14:a0_4 < 0
     ·rw [if_pos c14] at H
      have c14b0:decide (a0_4 < 0)=true:=decide_eq_true c14
      clear c14
      have H':=Aside0.mk H
      clear H
      try go_wp2
      have n0_:=Aside0.mk (blk_drew BK458.out)
      have n1_:=Aside0.mk (below_drew1 HB.out)
      clear BK458 HB
      have BK458:=n0_
      have HB:=n1_
      clear n0_ n1_
      refine start_ (n:=21) (S:=fun w'=>w'.cell? ⟨gb458,0,none⟩=some (.int .i64 a0_0)∧w'.cell? ⟨gb458,1,none⟩=some (.int .i64 a0_1)∧w'.cell? ⟨gb458,2,none⟩=some (.int .i64 a0_2)∧w'.cell? ⟨gb458,3,none⟩=some (.bool a0_3)∧w'.cell? ⟨gb458,4,none⟩=some (.int .i64 a0_4)) (ds:=[]) #[false,false,false,false,false,false,false,false,false,false,false,false,false,false,false,false,false,false,false,false,false] (by kernel_rfl) rfl rfl ⟨(blk_cell BK458.out 0).trans rfl,(blk_cell BK458.out 1).trans rfl,(blk_cell BK458.out 2).trans rfl,(blk_cell BK458.out 3).trans rfl,(blk_cell BK458.out 4).trans rfl⟩ (fun hHeld=>?_);refine with_tabW layout_EncodeSuper.tab4 layout_EncodeSuper.bits4 (fun HT_ HW_=>?_)
      generalize w7.drew=w15 at BK458 HB hHeld ⊢
      refine pure_ (i:=0) (N:=some 14) (v:=?_) (a':=?_) #[true,false,false,false,false,false,false,false,false,false,false,false,false,false,false,false,false,false,false,false,false] rfl rfl (any_of HT_.out (by kernel_rfl)) (fun _ _ _ h=>h) (Or.inl ⟨by rfl,?_⟩) ?_ ?_
      rotate_left
      ·intro w'
       go_simp
       with_reducible rfl
      rotate_left
      ·simp only [Act.put,List.setIfInBounds_toArray,List.set_cons_zero,List.set_cons_succ,i64_w,i32_w]
       rfl
      refine take_ (i:=1) (N:=some 15) (v:=?_) (a':=?_) #[true,true,false,false,false,false,false,false,false,false,false,false,false,false,false,false,false,false,false,false,false] rfl rfl (take_ofW HT_.out HW_.out (by kernel_rfl)) (fun _ _ _ h=>h) (Or.inl ⟨by rfl,?_⟩) hHeld ?_ ?_
      rotate_left
      ·rintro w' ⟨s0,s1,s2,s3,s4⟩
       go_simp
       with_reducible rfl
      rotate_left
      ·simp only [Act.put,List.setIfInBounds_toArray,List.set_cons_zero,List.set_cons_succ,i64_w,i32_w]
       rfl
      refine pure_ (i:=2) (N:=some 16) (v:=?_) (a':=?_) #[true,true,true,false,false,false,false,false,false,false,false,false,false,false,false,false,false,false,false,false,false] rfl rfl (any_of HT_.out (by kernel_rfl)) (fun _ _ _ h=>h) (Or.inl ⟨by rfl,?_⟩) ?_ ?_
      rotate_left
      ·intro w'
       go_simp
       with_reducible rfl
      rotate_left
      ·simp only [Act.put,List.setIfInBounds_toArray,List.set_cons_zero,List.set_cons_succ,i64_w,i32_w]
       rfl
      refine pure_ (i:=3) (N:=some 17) (v:=?_) (a':=?_) #[true,true,true,true,false,false,false,false,false,false,false,false,false,false,false,false,false,false,false,false,false] rfl rfl (any_of HT_.out (by kernel_rfl)) (fun _ _ _ h=>h) (Or.inl ⟨by rfl,?_⟩) ?_ ?_
      rotate_left
      ·intro w'
       go_simp
       with_reducible rfl
      rotate_left
      ·simp only [Act.put,List.setIfInBounds_toArray,List.set_cons_zero,List.set_cons_succ,i64_w,i32_w]
       rfl
      refine pure_ (i:=4) (N:=some 18) (v:=?_) (a':=?_) #[true,true,true,true,true,false,false,false,false,false,false,false,false,false,false,false,false,false,false,false,false] rfl rfl (any_of HT_.out (by kernel_rfl)) (fun _ _ _ h=>h) (Or.inl ⟨by rfl,?_⟩) ?_ ?_
      rotate_left
      ·intro w'
       go_simp
       with_reducible rfl
      rotate_left
      ·simp only [Act.put,List.setIfInBounds_toArray,List.set_cons_zero,List.set_cons_succ,i64_w,i32_w]
       rfl
      refine pure_ (i:=6) (N:=some 20) (v:=?_) (a':=?_) #[true,true,true,true,true,false,true,false,false,false,false,false,false,false,false,false,false,false,false,false,false] rfl rfl (any_of HT_.out (by kernel_rfl)) (fun _ _ _ h=>h) (Or.inl ⟨by rfl,?_⟩) ?_ ?_
      rotate_left
      ·intro w'
       go_simp
       with_reducible rfl
      rotate_left
      ·simp only [Act.put,List.setIfInBounds_toArray,List.set_cons_zero,List.set_cons_succ,i64_w,i32_w]
       rfl
      refine take_ (i:=5) (N:=some 19) (v:=?_) (a':=?_) #[true,true,true,true,true,true,true,false,false,false,false,false,false,false,false,false,false,false,false,false,false] rfl rfl (take_ofW HT_.out HW_.out (by kernel_rfl)) (fun _ _ _ h=>h) (Or.inl ⟨by rfl,?_⟩) hHeld ?_ ?_
      rotate_left
      ·rintro w' ⟨s0,s1,s2,s3,s4⟩
       go_simp
       with_reducible rfl
      rotate_left
      ·simp only [Act.put,List.setIfInBounds_toArray,List.set_cons_zero,List.set_cons_succ,i64_w,i32_w]
       rfl
      refine take_ (i:=7) (N:=some 21) (v:=?_) (a':=?_) #[true,true,true,true,true,true,true,true,false,false,false,false,false,false,false,false,false,false,false,false,false] rfl rfl (take_ofW HT_.out HW_.out (by kernel_rfl)) (fun _ _ _ h=>h) (Or.inl ⟨by rfl,?_⟩) hHeld ?_ ?_
      rotate_left
      ·rintro w' ⟨s0,s1,s2,s3,s4⟩
       go_simp
       with_reducible rfl
      rotate_left
      ·simp only [Act.put,List.setIfInBounds_toArray,List.set_cons_zero,List.set_cons_succ,i64_w,i32_w]
       rfl
      refine one_ (i:=8) (N:=some 22) #[true,true,true,true,true,true,true,true,true,false,false,false,false,false,false,false,false,false,false,false,false] rfl rfl (one_of HT_.out (by kernel_rfl)) (by decide) (fun K hK=>?_)
      refine goes_ Try.func23 (by kernel_rfl) rfl #[.agg #[.int .i64 a0_0,.int .i64 a0_1]] (by rfl) rfl rfl (by (try simp only [List.map_toArray,List.map_cons,List.map_nil]);first|done|rfl|(simp only [List.length_drop,List.length_take];rfl)) ?_
      with_reducible refine (layout_Inodes.calls k a0_0 a0_1 t460 _ A10.out).mono ?_
      rintro e w16 ⟨rfl,hb⟩
      refine ⟨_,rfl,?_⟩
      have n0_:=Aside0.mk (blk_below (g:=gb458) (o:=.cells #[.int .i64 a0_0,.int .i64 a0_1,.int .i64 a0_2,.bool a0_3,.int .i64 a0_4] 63 (0,0)) (by (with_reducible repeat (first|refine blk_drewN ?_ _|refine blk_drew ?_|refine blk_alloc ?_ _));exact BK458.out) hb)
      have n1_:=Aside0.mk (below_step (by repeat (first|(with_reducible first|exact HB.out|apply below_alloc|apply pw_below_drewN|apply below_drew1|refine below_set ?_ GE458.out)|exact HB.out)) hb)
      clear BK458 HB
      have BK458:=n0_
      have HB:=n1_
      clear n0_ n1_
      (try clear hb)
      (try clear hb2)
      (try clear hk)
      (try clear hi)
      refine hK.out _ _ ⟨(blk_cell BK458.out 0).trans rfl,(blk_cell BK458.out 1).trans rfl,(blk_cell BK458.out 2).trans rfl,(blk_cell BK458.out 3).trans rfl,(blk_cell BK458.out 4).trans rfl⟩ (fun hHeld=>?_)
      clear hK K
      refine norm_ (a':=?_) ?_ ?_
      rotate_left
      ·show Act.put _ (some 22) _=_
       simp only [Act.put,List.setIfInBounds_toArray,List.set_cons_zero,List.set_cons_succ,i64_w,i32_w]
       rfl
      refine pure_ (i:=9) (N:=some 23) (v:=?_) (a':=?_) #[true,true,true,true,true,true,true,true,true,true,false,false,false,false,false,false,false,false,false,false,false] rfl rfl (any_of HT_.out (by kernel_rfl)) (fun _ _ _ h=>h) (Or.inl ⟨by rfl,?_⟩) ?_ ?_
      rotate_left
      ·intro w'
       go_simp
       with_reducible rfl
      rotate_left
      ·simp only [Act.put,List.setIfInBounds_toArray,List.set_cons_zero,List.set_cons_succ,i64_w,i32_w]
       rfl
      refine pure_ (i:=10) (N:=some 24) (v:=?_) (a':=?_) #[true,true,true,true,true,true,true,true,true,true,true,false,false,false,false,false,false,false,false,false,false] rfl rfl (any_of HT_.out (by kernel_rfl)) (fun _ _ _ h=>h) (Or.inl ⟨by rfl,?_⟩) ?_ ?_
      rotate_left
      ·intro w'
       go_simp
       with_reducible rfl
      rotate_left
      ·simp only [Act.put,List.setIfInBounds_toArray,List.set_cons_zero,List.set_cons_succ,i64_w,i32_w]
       rfl
      refine pure_ (i:=11) (N:=some 25) (v:=?_) (a':=?_) #[true,true,true,true,true,true,true,true,true,true,true,true,false,false,false,false,false,false,false,false,false] rfl rfl (any_of HT_.out (by kernel_rfl)) (fun _ _ _ h=>h) (Or.inl ⟨by rfl,?_⟩) ?_ ?_
      rotate_left
      ·intro w'
       go_simp
       with_reducible rfl
      rotate_left
      ·simp only [Act.put,List.setIfInBounds_toArray,List.set_cons_zero,List.set_cons_succ,i64_w,i32_w]
       rfl
      refine pure_ (i:=12) (N:=some 26) (v:=?_) (a':=?_) #[true,true,true,true,true,true,true,true,true,true,true,true,true,false,false,false,false,false,false,false,false] rfl rfl (any_of HT_.out (by kernel_rfl)) (fun _ _ _ h=>h) (Or.inl ⟨by rfl,?_⟩) ?_ ?_
      rotate_left
      ·intro w'
       go_simp
       with_reducible rfl
      rotate_left
      ·simp only [Act.put,List.setIfInBounds_toArray,List.set_cons_zero,List.set_cons_succ,i64_w,i32_w]
       rfl
      refine take_ (i:=13) (N:=some 27) (v:=?_) (a':=?_) #[true,true,true,true,true,true,true,true,true,true,true,true,true,true,false,false,false,false,false,false,false] rfl rfl (take_ofW HT_.out HW_.out (by kernel_rfl)) (fun _ _ _ h=>h) (Or.inl ⟨by rfl,?_⟩) hHeld ?_ ?_
      rotate_left
      ·rintro w' ⟨s0,s1,s2,s3,s4⟩
       go_simp
       with_reducible rfl
      rotate_left
      ·simp only [Act.put,List.setIfInBounds_toArray,List.set_cons_zero,List.set_cons_succ,i64_w,i32_w]
       rfl
      refine pure_ (i:=14) (N:=some 28) (v:=?_) (a':=?_) #[true,true,true,true,true,true,true,true,true,true,true,true,true,true,true,false,false,false,false,false,false] rfl rfl (any_of HT_.out (by kernel_rfl)) (fun _ _ _ h=>h) (Or.inl ⟨by rfl,?_⟩) ?_ ?_
      rotate_left
      ·intro w'
       go_simp
       with_reducible rfl
      rotate_left
      ·simp only [Act.put,List.setIfInBounds_toArray,List.set_cons_zero,List.set_cons_succ,i64_w,i32_w]
       rfl
      refine pure_ (i:=15) (N:=some 29) (v:=?_) (a':=?_) #[true,true,true,true,true,true,true,true,true,true,true,true,true,true,true,true,false,false,false,false,false] rfl rfl (any_of HT_.out (by kernel_rfl)) (fun _ _ _ h=>h) (Or.inl ⟨by rfl,?_⟩) ?_ ?_
      rotate_left
      ·intro w'
       go_simp
       with_reducible rfl
      rotate_left
      ·simp only [Act.put,List.setIfInBounds_toArray,List.set_cons_zero,List.set_cons_succ,i64_w,i32_w]
       rfl
      refine pure_ (i:=16) (N:=some 30) (v:=?_) (a':=?_) #[true,true,true,true,true,true,true,true,true,true,true,true,true,true,true,true,true,false,false,false,false] rfl rfl (any_of HT_.out (by kernel_rfl)) (fun _ _ _ h=>h) (Or.inl ⟨by rfl,?_⟩) ?_ ?_
      rotate_left
      ·intro w'
       go_simp
       with_reducible rfl
      rotate_left
      ·simp only [Act.put,List.setIfInBounds_toArray,List.set_cons_zero,List.set_cons_succ,i64_w,i32_w]
       rfl
      refine pure_ (i:=17) (N:=some 31) (v:=undef) (a':=?_) #[true,true,true,true,true,true,true,true,true,true,true,true,true,true,true,true,true,true,false,false,false] rfl rfl (any_of HT_.out (by kernel_rfl)) (fun _ _ _ h=>h) (Or.inr ⟨by rfl,rfl⟩) ?_ ?_
      rotate_left
      ·simp only [Act.put,List.setIfInBounds_toArray,List.set_cons_zero,List.set_cons_succ,i64_w,i32_w]
       rfl
      refine pure_ (i:=18) (N:=some 32) (v:=undef) (a':=?_) #[true,true,true,true,true,true,true,true,true,true,true,true,true,true,true,true,true,true,true,false,false] rfl rfl (any_of HT_.out (by kernel_rfl)) (fun _ _ _ h=>h) (Or.inr ⟨by rfl,rfl⟩) ?_ ?_
      rotate_left
      ·simp only [Act.put,List.setIfInBounds_toArray,List.set_cons_zero,List.set_cons_succ,i64_w,i32_w]
       rfl
      refine pure_ (i:=19) (N:=some 33) (v:=undef) (a':=?_) #[true,true,true,true,true,true,true,true,true,true,true,true,true,true,true,true,true,true,true,true,false] rfl rfl (any_of HT_.out (by kernel_rfl)) (fun _ _ _ h=>h) (Or.inr ⟨by rfl,rfl⟩) ?_ ?_
      rotate_left
      ·simp only [Act.put,List.setIfInBounds_toArray,List.set_cons_zero,List.set_cons_succ,i64_w,i32_w]
       rfl
      refine pure_ (i:=20) (N:=some 34) (v:=?_) (a':=?_) #[true,true,true,true,true,true,true,true,true,true,true,true,true,true,true,true,true,true,true,true,true] rfl rfl (any_of HT_.out (by kernel_rfl)) (fun _ _ _ h=>h) (Or.inl ⟨by rfl,?_⟩) ?_ ?_
      rotate_left
      ·intro w'
       go_simp
       with_reducible rfl
      rotate_left
      ·simp only [Act.put,List.setIfInBounds_toArray,List.set_cons_zero,List.set_cons_succ,i64_w,i32_w]
       rfl
      refine done_ (done_of HT_.out (by kernel_rfl)) ?_
      try go_wp2
      go_meet
      case rel=>exact ⟨_,(true),(by first|rfl|(simp;done)|(simp [*];done)),H',⟨by first|omega|exact Nat.le_refl _⟩,⟨by (with_reducible repeat (first|refine blk_drewN ?_ _|refine blk_drew ?_|refine blk_alloc ?_ _));exact BK458.out⟩,⟨by repeat (first|(with_reducible first|exact HB.out|apply below_alloc|apply pw_below_drewN|apply below_drew1|refine below_set ?_ GE458.out)|exact HB.out)⟩⟩
     ·rw [if_neg c14] at H
      have c14b0:decide (a0_4 < 0)=false:=decide_eq_false c14
      clear c14
      have H':=Aside0.mk H
      clear H
      try go_wp2
      have n0_:=Aside0.mk (blk_drew BK458.out)
      have n1_:=Aside0.mk (below_drew1 HB.out)
      clear BK458 HB
      have BK458:=n0_
      have HB:=n1_
      clear n0_ n1_
      refine start_ (n:=21) (S:=fun w'=>w'.cell? ⟨gb458,0,none⟩=some (.int .i64 a0_0)∧w'.cell? ⟨gb458,1,none⟩=some (.int .i64 a0_1)∧w'.cell? ⟨gb458,2,none⟩=some (.int .i64 a0_2)∧w'.cell? ⟨gb458,3,none⟩=some (.bool a0_3)∧w'.cell? ⟨gb458,4,none⟩=some (.int .i64 a0_4)) (ds:=[]) #[false,false,false,false,false,false,false,false,false,false,false,false,false,false,false,false,false,false,false,false,false] (by kernel_rfl) rfl rfl ⟨(blk_cell BK458.out 0).trans rfl,(blk_cell BK458.out 1).trans rfl,(blk_cell BK458.out 2).trans rfl,(blk_cell BK458.out 3).trans rfl,(blk_cell BK458.out 4).trans rfl⟩ (fun hHeld=>?_);refine with_tabW layout_EncodeSuper.tab4 layout_EncodeSuper.bits4 (fun HT_ HW_=>?_)
      generalize w7.drew=w17 at BK458 HB hHeld ⊢
      refine pure_ (i:=0) (N:=some 14) (v:=?_) (a':=?_) #[true,false,false,false,false,false,false,false,false,false,false,false,false,false,false,false,false,false,false,false,false] rfl rfl (any_of HT_.out (by kernel_rfl)) (fun _ _ _ h=>h) (Or.inl ⟨by rfl,?_⟩) ?_ ?_
      rotate_left
      ·intro w'
       go_simp
       with_reducible rfl
      rotate_left
      ·simp only [Act.put,List.setIfInBounds_toArray,List.set_cons_zero,List.set_cons_succ,i64_w,i32_w]
       rfl
      refine take_ (i:=1) (N:=some 15) (v:=?_) (a':=?_) #[true,true,false,false,false,false,false,false,false,false,false,false,false,false,false,false,false,false,false,false,false] rfl rfl (take_ofW HT_.out HW_.out (by kernel_rfl)) (fun _ _ _ h=>h) (Or.inl ⟨by rfl,?_⟩) hHeld ?_ ?_
      rotate_left
      ·rintro w' ⟨s0,s1,s2,s3,s4⟩
       go_simp
       with_reducible rfl
      rotate_left
      ·simp only [Act.put,List.setIfInBounds_toArray,List.set_cons_zero,List.set_cons_succ,i64_w,i32_w]
       rfl
      refine pure_ (i:=2) (N:=some 16) (v:=?_) (a':=?_) #[true,true,true,false,false,false,false,false,false,false,false,false,false,false,false,false,false,false,false,false,false] rfl rfl (any_of HT_.out (by kernel_rfl)) (fun _ _ _ h=>h) (Or.inl ⟨by rfl,?_⟩) ?_ ?_
      rotate_left
      ·intro w'
       go_simp
       with_reducible rfl
      rotate_left
      ·simp only [Act.put,List.setIfInBounds_toArray,List.set_cons_zero,List.set_cons_succ,i64_w,i32_w]
       rfl
      refine pure_ (i:=3) (N:=some 17) (v:=?_) (a':=?_) #[true,true,true,true,false,false,false,false,false,false,false,false,false,false,false,false,false,false,false,false,false] rfl rfl (any_of HT_.out (by kernel_rfl)) (fun _ _ _ h=>h) (Or.inl ⟨by rfl,?_⟩) ?_ ?_
      rotate_left
      ·intro w'
       go_simp
       with_reducible rfl
      rotate_left
      ·simp only [Act.put,List.setIfInBounds_toArray,List.set_cons_zero,List.set_cons_succ,i64_w,i32_w]
       rfl
      refine pure_ (i:=4) (N:=some 18) (v:=?_) (a':=?_) #[true,true,true,true,true,false,false,false,false,false,false,false,false,false,false,false,false,false,false,false,false] rfl rfl (any_of HT_.out (by kernel_rfl)) (fun _ _ _ h=>h) (Or.inl ⟨by rfl,?_⟩) ?_ ?_
      rotate_left
      ·intro w'
       go_simp
       with_reducible rfl
      rotate_left
      ·simp only [Act.put,List.setIfInBounds_toArray,List.set_cons_zero,List.set_cons_succ,i64_w,i32_w]
       rfl
      refine pure_ (i:=6) (N:=some 20) (v:=?_) (a':=?_) #[true,true,true,true,true,false,true,false,false,false,false,false,false,false,false,false,false,false,false,false,false] rfl rfl (any_of HT_.out (by kernel_rfl)) (fun _ _ _ h=>h) (Or.inl ⟨by rfl,?_⟩) ?_ ?_
      rotate_left
      ·intro w'
       go_simp
       with_reducible rfl
      rotate_left
      ·simp only [Act.put,List.setIfInBounds_toArray,List.set_cons_zero,List.set_cons_succ,i64_w,i32_w]
       rfl
      refine take_ (i:=5) (N:=some 19) (v:=?_) (a':=?_) #[true,true,true,true,true,true,true,false,false,false,false,false,false,false,false,false,false,false,false,false,false] rfl rfl (take_ofW HT_.out HW_.out (by kernel_rfl)) (fun _ _ _ h=>h) (Or.inl ⟨by rfl,?_⟩) hHeld ?_ ?_
      rotate_left
      ·rintro w' ⟨s0,s1,s2,s3,s4⟩
       go_simp
       with_reducible rfl
      rotate_left
      ·simp only [Act.put,List.setIfInBounds_toArray,List.set_cons_zero,List.set_cons_succ,i64_w,i32_w]
       rfl
      refine take_ (i:=7) (N:=some 21) (v:=?_) (a':=?_) #[true,true,true,true,true,true,true,true,false,false,false,false,false,false,false,false,false,false,false,false,false] rfl rfl (take_ofW HT_.out HW_.out (by kernel_rfl)) (fun _ _ _ h=>h) (Or.inl ⟨by rfl,?_⟩) hHeld ?_ ?_
      rotate_left
      ·rintro w' ⟨s0,s1,s2,s3,s4⟩
       go_simp
       with_reducible rfl
      rotate_left
      ·simp only [Act.put,List.setIfInBounds_toArray,List.set_cons_zero,List.set_cons_succ,i64_w,i32_w]
       rfl
      refine one_ (i:=8) (N:=some 22) #[true,true,true,true,true,true,true,true,true,false,false,false,false,false,false,false,false,false,false,false,false] rfl rfl (one_of HT_.out (by kernel_rfl)) (by decide) (fun K hK=>?_)
      refine goes_ Try.func23 (by kernel_rfl) rfl #[.agg #[.int .i64 a0_0,.int .i64 a0_1]] (by rfl) rfl rfl (by (try simp only [List.map_toArray,List.map_cons,List.map_nil]);first|done|rfl|(simp only [List.length_drop,List.length_take];rfl)) ?_
      with_reducible refine (layout_Inodes.calls k a0_0 a0_1 t460 _ A10.out).mono ?_
      rintro e w18 ⟨rfl,hb⟩
      refine ⟨_,rfl,?_⟩
      have n0_:=Aside0.mk (blk_below (g:=gb458) (o:=.cells #[.int .i64 a0_0,.int .i64 a0_1,.int .i64 a0_2,.bool a0_3,.int .i64 a0_4] 63 (0,0)) (by (with_reducible repeat (first|refine blk_drewN ?_ _|refine blk_drew ?_|refine blk_alloc ?_ _));exact BK458.out) hb)
      have n1_:=Aside0.mk (below_step (by repeat (first|(with_reducible first|exact HB.out|apply below_alloc|apply pw_below_drewN|apply below_drew1|refine below_set ?_ GE458.out)|exact HB.out)) hb)
      clear BK458 HB
      have BK458:=n0_
      have HB:=n1_
      clear n0_ n1_
      (try clear hb)
      (try clear hb2)
      (try clear hk)
      (try clear hi)
      refine hK.out _ _ ⟨(blk_cell BK458.out 0).trans rfl,(blk_cell BK458.out 1).trans rfl,(blk_cell BK458.out 2).trans rfl,(blk_cell BK458.out 3).trans rfl,(blk_cell BK458.out 4).trans rfl⟩ (fun hHeld=>?_)
      clear hK K
      refine norm_ (a':=?_) ?_ ?_
      rotate_left
      ·show Act.put _ (some 22) _=_
       simp only [Act.put,List.setIfInBounds_toArray,List.set_cons_zero,List.set_cons_succ,i64_w,i32_w]
       rfl
      refine pure_ (i:=9) (N:=some 23) (v:=?_) (a':=?_) #[true,true,true,true,true,true,true,true,true,true,false,false,false,false,false,false,false,false,false,false,false] rfl rfl (any_of HT_.out (by kernel_rfl)) (fun _ _ _ h=>h) (Or.inl ⟨by rfl,?_⟩) ?_ ?_
      rotate_left
      ·intro w'
       go_simp
       with_reducible rfl
      rotate_left
      ·simp only [Act.put,List.setIfInBounds_toArray,List.set_cons_zero,List.set_cons_succ,i64_w,i32_w]
       rfl
      refine pure_ (i:=10) (N:=some 24) (v:=?_) (a':=?_) #[true,true,true,true,true,true,true,true,true,true,true,false,false,false,false,false,false,false,false,false,false] rfl rfl (any_of HT_.out (by kernel_rfl)) (fun _ _ _ h=>h) (Or.inl ⟨by rfl,?_⟩) ?_ ?_
      rotate_left
      ·intro w'
       go_simp
       with_reducible rfl
      rotate_left
      ·simp only [Act.put,List.setIfInBounds_toArray,List.set_cons_zero,List.set_cons_succ,i64_w,i32_w]
       rfl
      refine pure_ (i:=11) (N:=some 25) (v:=?_) (a':=?_) #[true,true,true,true,true,true,true,true,true,true,true,true,false,false,false,false,false,false,false,false,false] rfl rfl (any_of HT_.out (by kernel_rfl)) (fun _ _ _ h=>h) (Or.inl ⟨by rfl,?_⟩) ?_ ?_
      rotate_left
      ·intro w'
       go_simp
       with_reducible rfl
      rotate_left
      ·simp only [Act.put,List.setIfInBounds_toArray,List.set_cons_zero,List.set_cons_succ,i64_w,i32_w]
       rfl
      refine pure_ (i:=12) (N:=some 26) (v:=?_) (a':=?_) #[true,true,true,true,true,true,true,true,true,true,true,true,true,false,false,false,false,false,false,false,false] rfl rfl (any_of HT_.out (by kernel_rfl)) (fun _ _ _ h=>h) (Or.inl ⟨by rfl,?_⟩) ?_ ?_
      rotate_left
      ·intro w'
       go_simp
       with_reducible rfl
      rotate_left
      ·simp only [Act.put,List.setIfInBounds_toArray,List.set_cons_zero,List.set_cons_succ,i64_w,i32_w]
       rfl
      refine take_ (i:=13) (N:=some 27) (v:=?_) (a':=?_) #[true,true,true,true,true,true,true,true,true,true,true,true,true,true,false,false,false,false,false,false,false] rfl rfl (take_ofW HT_.out HW_.out (by kernel_rfl)) (fun _ _ _ h=>h) (Or.inl ⟨by rfl,?_⟩) hHeld ?_ ?_
      rotate_left
      ·rintro w' ⟨s0,s1,s2,s3,s4⟩
       go_simp
       with_reducible rfl
      rotate_left
      ·simp only [Act.put,List.setIfInBounds_toArray,List.set_cons_zero,List.set_cons_succ,i64_w,i32_w]
       rfl
      refine pure_ (i:=14) (N:=some 28) (v:=?_) (a':=?_) #[true,true,true,true,true,true,true,true,true,true,true,true,true,true,true,false,false,false,false,false,false] rfl rfl (any_of HT_.out (by kernel_rfl)) (fun _ _ _ h=>h) (Or.inl ⟨by rfl,?_⟩) ?_ ?_
      rotate_left
      ·intro w'
       go_simp
       with_reducible rfl
      rotate_left
      ·simp only [Act.put,List.setIfInBounds_toArray,List.set_cons_zero,List.set_cons_succ,i64_w,i32_w]
       rfl
      refine pure_ (i:=15) (N:=some 29) (v:=?_) (a':=?_) #[true,true,true,true,true,true,true,true,true,true,true,true,true,true,true,true,false,false,false,false,false] rfl rfl (any_of HT_.out (by kernel_rfl)) (fun _ _ _ h=>h) (Or.inl ⟨by rfl,?_⟩) ?_ ?_
      rotate_left
      ·intro w'
       go_simp
       with_reducible rfl
      rotate_left
      ·simp only [Act.put,List.setIfInBounds_toArray,List.set_cons_zero,List.set_cons_succ,i64_w,i32_w]
       rfl
      refine pure_ (i:=16) (N:=some 30) (v:=?_) (a':=?_) #[true,true,true,true,true,true,true,true,true,true,true,true,true,true,true,true,true,false,false,false,false] rfl rfl (any_of HT_.out (by kernel_rfl)) (fun _ _ _ h=>h) (Or.inl ⟨by rfl,?_⟩) ?_ ?_
      rotate_left
      ·intro w'
       go_simp
       with_reducible rfl
      rotate_left
      ·simp only [Act.put,List.setIfInBounds_toArray,List.set_cons_zero,List.set_cons_succ,i64_w,i32_w]
       rfl
      refine pure_ (i:=17) (N:=some 31) (v:=?_) (a':=?_) #[true,true,true,true,true,true,true,true,true,true,true,true,true,true,true,true,true,true,false,false,false] rfl rfl (any_of HT_.out (by kernel_rfl)) (fun _ _ _ h=>h) (Or.inl ⟨by rfl,?_⟩) ?_ ?_
      rotate_left
      ·intro w'
       go_simp
       with_reducible rfl
      rotate_left
      ·simp only [Act.put,List.setIfInBounds_toArray,List.set_cons_zero,List.set_cons_succ,i64_w,i32_w]
       rfl
      refine take_ (i:=18) (N:=some 32) (v:=?_) (a':=?_) #[true,true,true,true,true,true,true,true,true,true,true,true,true,true,true,true,true,true,true,false,false] rfl rfl (take_ofW HT_.out HW_.out (by kernel_rfl)) (fun _ _ _ h=>h) (Or.inl ⟨by rfl,?_⟩) hHeld ?_ ?_
      rotate_left
      ·rintro w' ⟨s0,s1,s2,s3,s4⟩
       go_simp
       with_reducible rfl
      rotate_left
      ·simp only [Act.put,List.setIfInBounds_toArray,List.set_cons_zero,List.set_cons_succ,i64_w,i32_w]
       rfl
      refine pure_ (i:=19) (N:=some 33) (v:=?_) (a':=?_) #[true,true,true,true,true,true,true,true,true,true,true,true,true,true,true,true,true,true,true,true,false] rfl rfl (any_of HT_.out (by kernel_rfl)) (fun _ _ _ h=>h) (Or.inl ⟨by rfl,?_⟩) ?_ ?_
      rotate_left
      ·intro w'
       go_simp
       with_reducible rfl
      rotate_left
      ·simp only [Act.put,List.setIfInBounds_toArray,List.set_cons_zero,List.set_cons_succ,i64_w,i32_w]
       rfl
      refine pure_ (i:=20) (N:=some 34) (v:=?_) (a':=?_) #[true,true,true,true,true,true,true,true,true,true,true,true,true,true,true,true,true,true,true,true,true] rfl rfl (any_of HT_.out (by kernel_rfl)) (fun _ _ _ h=>h) (Or.inl ⟨by rfl,?_⟩) ?_ ?_
      rotate_left
      ·intro w'
       go_simp
       with_reducible rfl
      rotate_left
      ·simp only [Act.put,List.setIfInBounds_toArray,List.set_cons_zero,List.set_cons_succ,i64_w,i32_w]
       rfl
      refine done_ (done_of HT_.out (by kernel_rfl)) ?_
      try go_wp2
      go_meet
      case rel=>exact ⟨_,(decide (a0_4 > 1152921504606846976)),(by first|rfl|(simp;done)|(simp [*];done)),H',⟨by first|omega|exact Nat.le_refl _⟩,⟨by (with_reducible repeat (first|refine blk_drewN ?_ _|refine blk_drew ?_|refine blk_alloc ?_ _));exact BK458.out⟩,⟨by repeat (first|(with_reducible first|exact HB.out|apply below_alloc|apply pw_below_drewN|apply below_drew1|refine below_set ?_ GE458.out)|exact HB.out)⟩⟩
  case rest =>
   clear HC4
   try clear c1
   try clear c2
   try clear p2
   try clear c8
   try clear c8b0
   try clear c11
   try clear c11b0
   try clear c14
   try clear c14b0
   obtain ⟨kq,x34_3,rfl,HA,HJ3,BK458,HB⟩:=hcut
   cases kq with
   | zero=>exact absurd HA.out (by simp [layout_EncodeSuper.j0])
   | succ kj3 =>
    have H:=HA.out
    clear HA
    simp only [layout_EncodeSuper.j0] at H
    by_cases c19:x34_3=true
    ·subst c19
     have H1:(some (([]:List Int),1))=some (r1,r2):=by rw [if_pos rfl] at H;exact H
     clear H
     have H:=H1
     clear H1
     simp only [Option.some.injEq,Prod.mk.injEq] at H
     obtain ⟨rfl,rfl⟩:=H
     go_wp2
     go_ret2
     exact ⟨_,by first|rfl|(simp [errW_none,errW_some] <;> rfl)|(simp [*,errW_none,errW_some] <;> rfl),by first|exact Kd.R_nil _ _ _ _ _|exact Kd.N_nil _ _ _ _ _|exact Kd.V_nil _ _ _ _ _|exact Kd.Q_nil _ _ _ _ _|exact Kd.S_nil _ _ _ _ _,by repeat (first|(with_reducible first|exact HB.out|apply below_alloc|apply pw_below_drewN|apply below_drew1|refine below_set ?_ GE458.out)|exact HB.out)⟩
    ·replace c19:=Bool.eq_false_iff.mpr c19
     subst c19
     have H1:(if a0_3=true then (layout_EncodeSuper.j1 kj3 1 a0_0 a0_1 a0_2 a0_3 a0_4) else (layout_EncodeSuper.j1 kj3 0 a0_0 a0_1 a0_2 a0_3 a0_4))=some (r1,r2):=by rw [if_neg (show ¬ (false=true) by decide)] at H;exact H
     clear H
     have H:=H1
     clear H1
     have HC20:=Aside0.mk H
     clear H
     have hcz21_0:wc.cell? ⟨gb458,0,none⟩=some (.int .i64 a0_0):=(blk_cell BK458.out 0).trans rfl
     have hcz21_1:wc.cell? ⟨gb458,1,none⟩=some (.int .i64 a0_1):=(blk_cell BK458.out 1).trans rfl
     have hcz21_2:wc.cell? ⟨gb458,2,none⟩=some (.int .i64 a0_2):=(blk_cell BK458.out 2).trans rfl
     have hcz21_3:wc.cell? ⟨gb458,3,none⟩=some (.bool a0_3):=(blk_cell BK458.out 3).trans rfl
     have hcz21_4:wc.cell? ⟨gb458,4,none⟩=some (.int .i64 a0_4):=(blk_cell BK458.out 4).trans rfl
     have hfz21_0:=blk_frozen BK458.out 0
     have hfz21_1:=blk_frozen BK458.out 1
     have hfz21_2:=blk_frozen BK458.out 2
     have hfz21_3:=blk_frozen BK458.out 3
     have hfz21_4:=blk_frozen BK458.out 4
     go_upto_if 36 with (fail)
     go_cut [5] (fun v5 wc=>∃ (kq:Nat) (x5_19:Int),v5=.int .u64 x5_19∧Aside0 (layout_EncodeSuper.j1 kq x5_19 a0_0 a0_1 a0_2 a0_3 a0_4=some (r1,r2))∧Aside0 (kq≤kj3)∧Aside0 (wc.heap[gb458]?=some (.cells #[.int .i64 a0_0,.int .i64 a0_1,.int .i64 a0_2,.bool a0_3,.int .i64 a0_4] 63 (0,0)))∧Aside0 (Below w.heap.size w wc))
     case first =>
      have H:=HC20.out
      clear HC20
      by_cases c22:a0_3=true
      ·subst c22
       have H1:(layout_EncodeSuper.j1 kj3 1 a0_0 a0_1 a0_2 true a0_4)=some (r1,r2):=by rw [if_pos rfl] at H;exact H
       clear H
       have H:=H1
       clear H1
       have H':=Aside0.mk H
       clear H
       go_wp2
       go_meet
       case rel=>exact ⟨_,(1),(by first|rfl|(simp;done)|(simp [*];done)),H',⟨by have:=HJ3.out;first|omega|exact Nat.le_refl _⟩,⟨by (with_reducible repeat (first|refine blk_drewN ?_ _|refine blk_drew ?_|refine blk_alloc ?_ _));exact BK458.out⟩,⟨by repeat (first|(with_reducible first|exact HB.out|apply below_alloc|apply pw_below_drewN|apply below_drew1|refine below_set ?_ GE458.out)|exact HB.out)⟩⟩
      ·replace c22:=Bool.eq_false_iff.mpr c22
       subst c22
       have H1:(layout_EncodeSuper.j1 kj3 0 a0_0 a0_1 a0_2 false a0_4)=some (r1,r2):=by rw [if_neg (show ¬ (false=true) by decide)] at H;exact H
       clear H
       have H:=H1
       clear H1
       have H':=Aside0.mk H
       clear H
       go_wp2
       go_meet
       case rel=>exact ⟨_,(0),(by first|rfl|(simp;done)|(simp [*];done)),H',⟨by have:=HJ3.out;first|omega|exact Nat.le_refl _⟩,⟨by (with_reducible repeat (first|refine blk_drewN ?_ _|refine blk_drew ?_|refine blk_alloc ?_ _));exact BK458.out⟩,⟨by repeat (first|(with_reducible first|exact HB.out|apply below_alloc|apply pw_below_drewN|apply below_drew1|refine below_set ?_ GE458.out)|exact HB.out)⟩⟩
     case rest =>
      clear HC20
      try clear c1
      try clear c2
      try clear p2
      try clear c8
      try clear c8b0
      try clear c11
      try clear c11b0
      try clear c14
      try clear c14b0
      try clear c19
      try clear c22
      try clear hcz21_0
      try clear hcz21_1
      try clear hcz21_2
      try clear hcz21_3
      try clear hcz21_4
      try clear hfz21_0
      try clear hfz21_1
      try clear hfz21_2
      try clear hfz21_3
      try clear hfz21_4
      try clear p2
      obtain ⟨kq,x5_19,rfl,HA,HJ19,BK458,HB⟩:=hcut
      cases kq with
      | zero=>exact absurd HA.out (by simp [layout_EncodeSuper.j1])
      | succ kj19 =>
       have H:=HA.out
       clear HA
       simp only [layout_EncodeSuper.j1] at H
       replace H:=Option.bind_eq_some_iff.mp H
       obtain ⟨t461,A230,H⟩:=H
       replace H:((seal_Pack.f kj19 t461 (([1397508432,IntKind.u64.wrap (a0_0),IntKind.u64.wrap (a0_1),x5_19,IntKind.u64.wrap (a0_2),IntKind.u64.wrap (a0_4)]:List Int))).bind fun bt467=>(if bt467.2=0 then (if 0≤(wrap64 (252 - (bt467.1.length:Int))) then (if bt467.1.length + (wrap64 (252 - (bt467.1.length:Int)):Int).toNat < 140737488355328 then ((seal_Seal.f kj19 (bt467.1 ++ List.replicate (wrap64 (252 - (bt467.1.length:Int)):Int).toNat 0)).bind fun bt474=>(some (bt474.1,bt474.2))) else (none)) else (none)) else (some (([]:List Int),bt467.2))))=some (r1,r2):=H
       have A23:=Aside0.mk A230
       clear A230
       obtain ⟨y464,hy464⟩:∃ y_:List Int,y_=(([1397508432,IntKind.u64.wrap (a0_0),IntKind.u64.wrap (a0_1),x5_19,IntKind.u64.wrap (a0_2),IntKind.u64.wrap (a0_4)]:List Int)):=⟨_,rfl⟩
       replace H:((seal_Pack.f kj19 t461 y464).bind fun bt467=>(if bt467.2=0 then (if 0≤(wrap64 (252 - (bt467.1.length:Int))) then (if bt467.1.length + (wrap64 (252 - (bt467.1.length:Int)):Int).toNat < 140737488355328 then ((seal_Seal.f kj19 (bt467.1 ++ List.replicate (wrap64 (252 - (bt467.1.length:Int)):Int).toNat 0)).bind fun bt474=>(some (bt474.1,bt474.2))) else (none)) else (none)) else (some (([]:List Int),bt467.2))))=some (r1,r2):=by first|(rw [hy464];with_reducible exact H)|(have H2_:=(Option.bind_some _ _).symm.trans H;rw [hy464];with_reducible exact H2_)|(have H2_:=(Option.bind_some _ _).symm.trans H;with_reducible exact H2_)|with_reducible exact H|(rw [hy464];exact H)|exact H
       have Ny464:=Aside0.mk hy464
       clear hy464
       replace H:=Option.bind_eq_some_iff.mp H
       obtain ⟨⟨t467,t468⟩,A240,H⟩:=H
       replace H:(if t468=0 then (if 0≤(wrap64 (252 - (t467.length:Int))) then (if t467.length + (wrap64 (252 - (t467.length:Int)):Int).toNat < 140737488355328 then ((seal_Seal.f kj19 (t467 ++ List.replicate (wrap64 (252 - (t467.length:Int)):Int).toNat 0)).bind fun bt474=>(some (bt474.1,bt474.2))) else (none)) else (none)) else (some (([]:List Int),t468)))=some (r1,r2):=H
       have A24:=Aside0.mk A240
       clear A240
       by_cases c25:t468=0
       ·rw [if_pos c25] at H
        have c25b0:(t468 == 0)=true:=beq_iff_eq.mpr c25
        have c25b1:(t468 != 0)=false:=bne_eq_false_iff_eq.mpr c25
        clear c25
        obtain ⟨ji26,hji26⟩:∃ j_:Int,(wrap64 (252 - (t467.length:Int)))=j_:=⟨_,rfl⟩
        replace H:(if 0≤(ji26) then (if t467.length + (ji26:Int).toNat < 140737488355328 then ((seal_Seal.f kj19 (t467 ++ List.replicate (ji26:Int).toNat 0)).bind fun bt474=>(some (bt474.1,bt474.2))) else (none)) else (none))=some (r1,r2):=by first|(rw [hji26] at H;exact H)|(simp only [hji26] at H ⊢;exact H)
        (try rw [hji26] at A23)
        (try rw [hji26] at A24)
        have hji26w:(IntKind.i64.wrap (252 - (t467.length:Int)))=ji26:=(i64_w _).trans hji26
        by_cases c27:0≤(ji26)
        ·rw [if_pos c27] at H
         have c27b0:=eq_true c27
         have c27b1:decide (0≤(ji26))=true:=decide_eq_true c27
         clear c27
         by_cases c28:t467.length + (ji26:Int).toNat < 140737488355328
         ·rw [if_pos c28] at H
          have LMc28:=Aside0.mk c28
          clear c28
          obtain ⟨y471,hy471⟩:∃ y_:List Int,y_=(t467 ++ List.replicate (ji26:Int).toNat 0):=⟨_,rfl⟩
          replace H:((seal_Seal.f kj19 y471).bind fun bt474=>(some (bt474.1,bt474.2)))=some (r1,r2):=by first|(rw [hy471];with_reducible exact H)|(have H2_:=(Option.bind_some _ _).symm.trans H;rw [hy471];with_reducible exact H2_)|(have H2_:=(Option.bind_some _ _).symm.trans H;with_reducible exact H2_)|with_reducible exact H|(rw [hy471];exact H)|exact H
          have Ny471:=Aside0.mk hy471
          clear hy471
          replace H:=Option.bind_eq_some_iff.mp H
          obtain ⟨⟨t474,t477⟩,A290,H⟩:=H
          replace H:(some (t474,t477))=some (r1,r2):=H
          have A29:=Aside0.mk A290
          clear A290
          simp only [Option.some.injEq,Prod.mk.injEq] at H
          obtain ⟨rfl,rfl⟩:=H
          try go_wp2
          have n0_:=Aside0.mk (blk_drew BK458.out)
          have n1_:=Aside0.mk (below_drew1 HB.out)
          clear BK458 HB
          have BK458:=n0_
          have HB:=n1_
          clear n0_ n1_
          refine start_ (n:=23) (S:=fun w'=>True) (ds:=[]) #[false,false,false,false,false,false,false,false,false,false,false,false,false,false,false,false,false,false,false,false,false,false,false] (by kernel_rfl) rfl rfl trivial (fun hHeld=>?_);refine with_tabW layout_EncodeSuper.tab9 layout_EncodeSuper.bits9 (fun HT_ HW_=>?_)
          generalize wc.drew=w30 at BK458 HB hHeld ⊢
          refine pure_ (i:=1) (N:=some 39) (v:=?_) (a':=?_) #[false,true,false,false,false,false,false,false,false,false,false,false,false,false,false,false,false,false,false,false,false,false,false] rfl rfl (any_of HT_.out (by kernel_rfl)) (fun _ _ _ h=>h) (Or.inl ⟨by rfl,?_⟩) ?_ ?_
          rotate_left
          ·intro w'
           go_simp
           with_reducible rfl
          rotate_left
          ·simp only [Act.put,List.setIfInBounds_toArray,List.set_cons_zero,List.set_cons_succ,i64_w,i32_w]
           rfl
          refine pure_ (i:=2) (N:=some 40) (v:=?_) (a':=?_) #[false,true,true,false,false,false,false,false,false,false,false,false,false,false,false,false,false,false,false,false,false,false,false] rfl rfl (any_of HT_.out (by kernel_rfl)) (fun _ _ _ h=>h) (Or.inl ⟨by rfl,?_⟩) ?_ ?_
          rotate_left
          ·intro w'
           go_simp
           with_reducible rfl
          rotate_left
          ·simp only [Act.put,List.setIfInBounds_toArray,List.set_cons_zero,List.set_cons_succ,i64_w,i32_w]
           rfl
          refine pure_ (i:=5) (N:=some 43) (v:=?_) (a':=?_) #[false,true,true,false,false,true,false,false,false,false,false,false,false,false,false,false,false,false,false,false,false,false,false] rfl rfl (any_of HT_.out (by kernel_rfl)) (fun _ _ _ h=>h) (Or.inl ⟨by rfl,?_⟩) ?_ ?_
          rotate_left
          ·intro w'
           go_simp
           with_reducible rfl
          rotate_left
          ·simp only [Act.put,List.setIfInBounds_toArray,List.set_cons_zero,List.set_cons_succ,i64_w,i32_w]
           rfl
          refine pure_ (i:=6) (N:=some 44) (v:=?_) (a':=?_) #[false,true,true,false,false,true,true,false,false,false,false,false,false,false,false,false,false,false,false,false,false,false,false] rfl rfl (any_of HT_.out (by kernel_rfl)) (fun _ _ _ h=>h) (Or.inl ⟨by rfl,?_⟩) ?_ ?_
          rotate_left
          ·intro w'
           go_simp
           with_reducible rfl
          rotate_left
          ·simp only [Act.put,List.setIfInBounds_toArray,List.set_cons_zero,List.set_cons_succ,i64_w,i32_w]
           rfl
          refine pure_ (i:=9) (N:=some 47) (v:=?_) (a':=?_) #[false,true,true,false,false,true,true,false,false,true,false,false,false,false,false,false,false,false,false,false,false,false,false] rfl rfl (any_of HT_.out (by kernel_rfl)) (fun _ _ _ h=>h) (Or.inl ⟨by rfl,?_⟩) ?_ ?_
          rotate_left
          ·intro w'
           go_simp
           with_reducible rfl
          rotate_left
          ·simp only [Act.put,List.setIfInBounds_toArray,List.set_cons_zero,List.set_cons_succ,i64_w,i32_w]
           rfl
          refine pure_ (i:=10) (N:=some 48) (v:=?_) (a':=?_) #[false,true,true,false,false,true,true,false,false,true,true,false,false,false,false,false,false,false,false,false,false,false,false] rfl rfl (any_of HT_.out (by kernel_rfl)) (fun _ _ _ h=>h) (Or.inl ⟨by rfl,?_⟩) ?_ ?_
          rotate_left
          ·intro w'
           go_simp
           with_reducible rfl
          rotate_left
          ·simp only [Act.put,List.setIfInBounds_toArray,List.set_cons_zero,List.set_cons_succ,i64_w,i32_w]
           rfl
          refine pure_ (i:=13) (N:=some 51) (v:=?_) (a':=?_) #[false,true,true,false,false,true,true,false,false,true,true,false,false,true,false,false,false,false,false,false,false,false,false] rfl rfl (any_of HT_.out (by kernel_rfl)) (fun _ _ _ h=>h) (Or.inl ⟨by rfl,?_⟩) ?_ ?_
          rotate_left
          ·intro w'
           go_simp
           with_reducible rfl
          rotate_left
          ·simp only [Act.put,List.setIfInBounds_toArray,List.set_cons_zero,List.set_cons_succ,i64_w,i32_w]
           rfl
          refine inv_at [0,3,4,7,8,11,12,14,15,16,17,18,19,20,21,22] (fun a0_ b a w'=>∃ (v462:Value) (v465:Value) (v469:Value) (m17_:Value) (m18_:Value) (m19_:Value) (m21_:Value),a=putSel a0_ b [(0,38,v462),(3,41,.int .i64 a0_0),(4,42,.int .u64 (IntKind.u64.wrap (a0_0))),(7,45,.int .i64 a0_1),(8,46,.int .u64 (IntKind.u64.wrap (a0_1))),(11,49,.int .i64 a0_2),(12,50,.int .u64 (IntKind.u64.wrap (a0_2))),(14,52,.int .i64 a0_4),(15,53,.int .u64 (IntKind.u64.wrap (a0_4))),(16,54,v465),(17,55,m17_),(18,37,m18_),(19,56,m19_),(20,57,.int .i64 t468),(21,6,m21_),(22,7,.int .i64 t468)]∧(w'.heap[gb458]?=some (.cells #[.int .i64 a0_0,.int .i64 a0_1,.int .i64 a0_2,.bool a0_3,.int .i64 a0_4] 63 (0,0)))∧(Below w.heap.size w w')∧(b 0=true → Kd.R (Kd.int .i64) 3 w' w.heap.size (fun _=>True) v462 t461)∧(b 16=true → Kd.R (Kd.int .u64) 76 w' w.heap.size (fun _=>True) v465 y464)∧(b 17=true → Kd.R (Kd.int .u8) 5 w' w.heap.size (fun _=>True) v469 t467)∧(b 17=true → (m17_:Value)=.tuple #[v469,.int .i64 t468])∧(b 18=true → (m18_:Value)=.tuple #[v469,.int .i64 t468])∧(b 19=true → (m19_:Value)=v469)∧(b 21=true → (m21_:Value)=v469)) HT_.out HW_.out (by kernel_rfl) (by kernel_rfl) ?_ ?_ ?_
          ·exact ⟨.bool false,.bool false,.bool false,.bool false,.bool false,.bool false,.bool false,by simp only [putSel,Bool.false_eq_true,if_false],BK458.out,HB.out,fun h_=>absurd h_ (by decide),fun h_=>absurd h_ (by decide),fun h_=>absurd h_ (by decide),fun h_=>absurd h_ (by decide),fun h_=>absurd h_ (by decide),fun h_=>absurd h_ (by decide),fun h_=>absurd h_ (by decide)⟩
          ·skip
           clear BK458 HB
           refine steps_cons ?_ ?_
           ·rintro b a w' ⟨v462,v465,v469,m17_,m18_,m19_,m21_,ha,Q_BK458,Q_HB,Q_HO463,Q_HO466,Q_HO470,Q_X17_,Q_X18_,Q_X19_,Q_X21_⟩ hb_ hon hoff
            refine ⟨_,rfl,fun K hK=>?_⟩
            replace ha:=Aside0.mk ha
            have BK458:=Aside0.mk Q_BK458
            have HB:=Aside0.mk Q_HB
            refine goes_ Try.func54 (by kernel_rfl) rfl #[] (by rfl) rfl rfl (by first|(simp only [List.map_toArray,List.map_cons,List.map_nil,Act.eval,Array.getD_eq_getD_getElem?,Option.getD_some];done)|(simp only [List.map_toArray,List.map_cons,List.map_nil,Act.eval,Array.getD_eq_getD_getElem?,Option.getD_some];rfl)) ?_
            with_reducible refine (layout_superWidths.calls  t461 _ A23.out).mono ?_
            rintro e w31 ⟨v462,rfl,ho0,hb⟩
            refine ⟨_,rfl,?_⟩
            have n0_:=Aside0.mk (Kd.R_lower ho0 (below_size (by repeat (first|(with_reducible first|exact HB.out|apply below_alloc|apply pw_below_drewN|apply below_drew1|refine below_set ?_ GE458.out)|exact HB.out))))
            have n1_:=Aside0.mk (blk_below (g:=gb458) (o:=.cells #[.int .i64 a0_0,.int .i64 a0_1,.int .i64 a0_2,.bool a0_3,.int .i64 a0_4] 63 (0,0)) (by (with_reducible repeat (first|refine blk_drewN ?_ _|refine blk_drew ?_|refine blk_alloc ?_ _));exact BK458.out) hb)
            have n2_:=Aside0.mk (below_step (by repeat (first|(with_reducible first|exact HB.out|apply below_alloc|apply pw_below_drewN|apply below_drew1|refine below_set ?_ GE458.out)|exact HB.out)) hb)
            have z_HO466:=fun (h0_:b 16=true)=>(show Kd.R (Kd.int .u64) 76 w31 w.heap.size (fun _=>True) v465 y464 from by first|exact (Kd.R_below (by (with_reducible repeat (first|apply Kd.R_alloc|apply Kd.R_drewN|apply Kd.R_drew));exact (Q_HO466 h0_)) hb)|exact Kd.R_mono (Kd.R_below (by (with_reducible repeat (first|apply Kd.R_alloc|apply Kd.R_drewN|apply Kd.R_drew));exact (Q_HO466 h0_)) hb) (fun _ h_=>by first|trivial|exact h_|exact h_.1))
            clear BK458 HB
            have HO463:=n0_
            have BK458:=n1_
            have HB:=n2_
            clear n0_ n1_ n2_
            (try clear hb)
            (try clear hb2)
            (try clear hk)
            (try clear hi)
            (try clear ho0)
            refine hK.out _ _ ⟨v462,v465,v469,m17_,m18_,m19_,m21_,(by rw [ha.out];exact putSel_upk 0 hb_ rfl rfl rfl),(by (with_reducible repeat (first|refine blk_drewN ?_ _|refine blk_drew ?_|refine blk_alloc ?_ _));exact BK458.out),(by repeat (first|(with_reducible first|exact HB.out|apply below_alloc|apply pw_below_drewN|apply below_drew1|refine below_set ?_ GE458.out)|exact HB.out)),fun _=>(by (with_reducible repeat (first|apply Kd.R_alloc|apply Kd.R_drewN|apply Kd.R_drew));exact HO463.out),z_HO466,fun h0_=>absurd ((hoff 17 (by kernel_rfl)).symm.trans h0_) (by decide),fun h0_=>absurd ((hoff 17 (by kernel_rfl)).symm.trans h0_) (by decide),fun h0_=>absurd ((hoff 18 (by kernel_rfl)).symm.trans h0_) (by decide),fun h0_=>absurd ((hoff 19 (by kernel_rfl)).symm.trans h0_) (by decide),fun h0_=>absurd ((hoff 21 (by kernel_rfl)).symm.trans h0_) (by decide)⟩
           refine steps_cons ?_ ?_
           ·rintro b a w' ⟨v462,v465,v469,m17_,m18_,m19_,m21_,ha,Q_BK458,Q_HB,Q_HO463,Q_HO466,Q_HO470,Q_X17_,Q_X18_,Q_X19_,Q_X21_⟩ hb_ hon hoff
            refine ⟨_,rfl,fun K hK=>?_⟩
            have e40:a.tmps[40]?=some (.pointer (some ⟨gb458,0,none⟩)):=by rw [ha];exact (putSel_off rfl).trans rfl
            replace ha:=Aside0.mk ha
            have BK458:=Aside0.mk Q_BK458
            have HB:=Aside0.mk Q_HB
            have hc0_:w'.cell? ⟨gb458,0,none⟩=some (.int .i64 a0_0):=(blk_cell BK458.out 0).trans rfl
            have hc1_:w'.cell? ⟨gb458,1,none⟩=some (.int .i64 a0_1):=(blk_cell BK458.out 1).trans rfl
            have hc2_:w'.cell? ⟨gb458,2,none⟩=some (.int .i64 a0_2):=(blk_cell BK458.out 2).trans rfl
            have hc3_:w'.cell? ⟨gb458,3,none⟩=some (.bool a0_3):=(blk_cell BK458.out 3).trans rfl
            have hc4_:w'.cell? ⟨gb458,4,none⟩=some (.int .i64 a0_4):=(blk_cell BK458.out 4).trans rfl
            refine value_ (w1:=w') (v:=.int .i64 a0_0) (by rfl) rfl ?_ ?_
            ·go_simp
             (try simp only [i64_w])
             try rfl
            refine hK.out _ _ ⟨v462,v465,v469,m17_,m18_,m19_,m21_,(by rw [ha.out];exact putSel_upk 1 hb_ rfl rfl rfl),Q_BK458,Q_HB,Q_HO463,fun h0_=>absurd ((hoff 16 (by kernel_rfl)).symm.trans h0_) (by decide),fun h0_=>absurd ((hoff 17 (by kernel_rfl)).symm.trans h0_) (by decide),fun h0_=>absurd ((hoff 17 (by kernel_rfl)).symm.trans h0_) (by decide),fun h0_=>absurd ((hoff 18 (by kernel_rfl)).symm.trans h0_) (by decide),fun h0_=>absurd ((hoff 19 (by kernel_rfl)).symm.trans h0_) (by decide),fun h0_=>absurd ((hoff 21 (by kernel_rfl)).symm.trans h0_) (by decide)⟩
           refine steps_cons ?_ ?_
           ·rintro b a w' ⟨v462,v465,v469,m17_,m18_,m19_,m21_,ha,Q_BK458,Q_HB,Q_HO463,Q_HO466,Q_HO470,Q_X17_,Q_X18_,Q_X19_,Q_X21_⟩ hb_ hon hoff
            refine ⟨_,rfl,fun K hK=>?_⟩
            have e41:a.tmps[41]?=some (.int .i64 a0_0):=by rw [ha];exact putSel_on (e:=(3,41,.int .i64 a0_0)) 1 rfl rfl (hon 3 (by kernel_rfl)) rfl
            replace ha:=Aside0.mk ha
            have BK458:=Aside0.mk Q_BK458
            have HB:=Aside0.mk Q_HB
            refine value_ (w1:=w') (v:=.int .u64 (IntKind.u64.wrap (a0_0))) (by rfl) rfl ?_ ?_
            ·go_simp
             (try simp only [i64_w])
             try rfl
            refine hK.out _ _ ⟨v462,v465,v469,m17_,m18_,m19_,m21_,(by rw [ha.out];exact putSel_upk 2 hb_ rfl rfl rfl),Q_BK458,Q_HB,Q_HO463,fun h0_=>absurd ((hoff 16 (by kernel_rfl)).symm.trans h0_) (by decide),fun h0_=>absurd ((hoff 17 (by kernel_rfl)).symm.trans h0_) (by decide),fun h0_=>absurd ((hoff 17 (by kernel_rfl)).symm.trans h0_) (by decide),fun h0_=>absurd ((hoff 18 (by kernel_rfl)).symm.trans h0_) (by decide),fun h0_=>absurd ((hoff 19 (by kernel_rfl)).symm.trans h0_) (by decide),fun h0_=>absurd ((hoff 21 (by kernel_rfl)).symm.trans h0_) (by decide)⟩
           refine steps_cons ?_ ?_
           ·rintro b a w' ⟨v462,v465,v469,m17_,m18_,m19_,m21_,ha,Q_BK458,Q_HB,Q_HO463,Q_HO466,Q_HO470,Q_X17_,Q_X18_,Q_X19_,Q_X21_⟩ hb_ hon hoff
            refine ⟨_,rfl,fun K hK=>?_⟩
            have e44:a.tmps[44]?=some (.pointer (some ⟨gb458,1,none⟩)):=by rw [ha];exact (putSel_off rfl).trans rfl
            replace ha:=Aside0.mk ha
            have BK458:=Aside0.mk Q_BK458
            have HB:=Aside0.mk Q_HB
            have hc0_:w'.cell? ⟨gb458,0,none⟩=some (.int .i64 a0_0):=(blk_cell BK458.out 0).trans rfl
            have hc1_:w'.cell? ⟨gb458,1,none⟩=some (.int .i64 a0_1):=(blk_cell BK458.out 1).trans rfl
            have hc2_:w'.cell? ⟨gb458,2,none⟩=some (.int .i64 a0_2):=(blk_cell BK458.out 2).trans rfl
            have hc3_:w'.cell? ⟨gb458,3,none⟩=some (.bool a0_3):=(blk_cell BK458.out 3).trans rfl
            have hc4_:w'.cell? ⟨gb458,4,none⟩=some (.int .i64 a0_4):=(blk_cell BK458.out 4).trans rfl
            refine value_ (w1:=w') (v:=.int .i64 a0_1) (by rfl) rfl ?_ ?_
            ·go_simp
             (try simp only [i64_w])
             try rfl
            refine hK.out _ _ ⟨v462,v465,v469,m17_,m18_,m19_,m21_,(by rw [ha.out];exact putSel_upk 3 hb_ rfl rfl rfl),Q_BK458,Q_HB,Q_HO463,fun h0_=>absurd ((hoff 16 (by kernel_rfl)).symm.trans h0_) (by decide),fun h0_=>absurd ((hoff 17 (by kernel_rfl)).symm.trans h0_) (by decide),fun h0_=>absurd ((hoff 17 (by kernel_rfl)).symm.trans h0_) (by decide),fun h0_=>absurd ((hoff 18 (by kernel_rfl)).symm.trans h0_) (by decide),fun h0_=>absurd ((hoff 19 (by kernel_rfl)).symm.trans h0_) (by decide),fun h0_=>absurd ((hoff 21 (by kernel_rfl)).symm.trans h0_) (by decide)⟩
           refine steps_cons ?_ ?_
           ·rintro b a w' ⟨v462,v465,v469,m17_,m18_,m19_,m21_,ha,Q_BK458,Q_HB,Q_HO463,Q_HO466,Q_HO470,Q_X17_,Q_X18_,Q_X19_,Q_X21_⟩ hb_ hon hoff
            refine ⟨_,rfl,fun K hK=>?_⟩
            have e45:a.tmps[45]?=some (.int .i64 a0_1):=by rw [ha];exact putSel_on (e:=(7,45,.int .i64 a0_1)) 3 rfl rfl (hon 7 (by kernel_rfl)) rfl
            replace ha:=Aside0.mk ha
            have BK458:=Aside0.mk Q_BK458
            have HB:=Aside0.mk Q_HB
            refine value_ (w1:=w') (v:=.int .u64 (IntKind.u64.wrap (a0_1))) (by rfl) rfl ?_ ?_
            ·go_simp
             (try simp only [i64_w])
             try rfl
            refine hK.out _ _ ⟨v462,v465,v469,m17_,m18_,m19_,m21_,(by rw [ha.out];exact putSel_upk 4 hb_ rfl rfl rfl),Q_BK458,Q_HB,Q_HO463,fun h0_=>absurd ((hoff 16 (by kernel_rfl)).symm.trans h0_) (by decide),fun h0_=>absurd ((hoff 17 (by kernel_rfl)).symm.trans h0_) (by decide),fun h0_=>absurd ((hoff 17 (by kernel_rfl)).symm.trans h0_) (by decide),fun h0_=>absurd ((hoff 18 (by kernel_rfl)).symm.trans h0_) (by decide),fun h0_=>absurd ((hoff 19 (by kernel_rfl)).symm.trans h0_) (by decide),fun h0_=>absurd ((hoff 21 (by kernel_rfl)).symm.trans h0_) (by decide)⟩
           refine steps_cons ?_ ?_
           ·rintro b a w' ⟨v462,v465,v469,m17_,m18_,m19_,m21_,ha,Q_BK458,Q_HB,Q_HO463,Q_HO466,Q_HO470,Q_X17_,Q_X18_,Q_X19_,Q_X21_⟩ hb_ hon hoff
            refine ⟨_,rfl,fun K hK=>?_⟩
            have e48:a.tmps[48]?=some (.pointer (some ⟨gb458,2,none⟩)):=by rw [ha];exact (putSel_off rfl).trans rfl
            replace ha:=Aside0.mk ha
            have BK458:=Aside0.mk Q_BK458
            have HB:=Aside0.mk Q_HB
            have hc0_:w'.cell? ⟨gb458,0,none⟩=some (.int .i64 a0_0):=(blk_cell BK458.out 0).trans rfl
            have hc1_:w'.cell? ⟨gb458,1,none⟩=some (.int .i64 a0_1):=(blk_cell BK458.out 1).trans rfl
            have hc2_:w'.cell? ⟨gb458,2,none⟩=some (.int .i64 a0_2):=(blk_cell BK458.out 2).trans rfl
            have hc3_:w'.cell? ⟨gb458,3,none⟩=some (.bool a0_3):=(blk_cell BK458.out 3).trans rfl
            have hc4_:w'.cell? ⟨gb458,4,none⟩=some (.int .i64 a0_4):=(blk_cell BK458.out 4).trans rfl
            refine value_ (w1:=w') (v:=.int .i64 a0_2) (by rfl) rfl ?_ ?_
            ·go_simp
             (try simp only [i64_w])
             try rfl
            refine hK.out _ _ ⟨v462,v465,v469,m17_,m18_,m19_,m21_,(by rw [ha.out];exact putSel_upk 5 hb_ rfl rfl rfl),Q_BK458,Q_HB,Q_HO463,fun h0_=>absurd ((hoff 16 (by kernel_rfl)).symm.trans h0_) (by decide),fun h0_=>absurd ((hoff 17 (by kernel_rfl)).symm.trans h0_) (by decide),fun h0_=>absurd ((hoff 17 (by kernel_rfl)).symm.trans h0_) (by decide),fun h0_=>absurd ((hoff 18 (by kernel_rfl)).symm.trans h0_) (by decide),fun h0_=>absurd ((hoff 19 (by kernel_rfl)).symm.trans h0_) (by decide),fun h0_=>absurd ((hoff 21 (by kernel_rfl)).symm.trans h0_) (by decide)⟩
           refine steps_cons ?_ ?_
           ·rintro b a w' ⟨v462,v465,v469,m17_,m18_,m19_,m21_,ha,Q_BK458,Q_HB,Q_HO463,Q_HO466,Q_HO470,Q_X17_,Q_X18_,Q_X19_,Q_X21_⟩ hb_ hon hoff
            refine ⟨_,rfl,fun K hK=>?_⟩
            have e49:a.tmps[49]?=some (.int .i64 a0_2):=by rw [ha];exact putSel_on (e:=(11,49,.int .i64 a0_2)) 5 rfl rfl (hon 11 (by kernel_rfl)) rfl
            replace ha:=Aside0.mk ha
            have BK458:=Aside0.mk Q_BK458
            have HB:=Aside0.mk Q_HB
            refine value_ (w1:=w') (v:=.int .u64 (IntKind.u64.wrap (a0_2))) (by rfl) rfl ?_ ?_
            ·go_simp
             (try simp only [i64_w])
             try rfl
            refine hK.out _ _ ⟨v462,v465,v469,m17_,m18_,m19_,m21_,(by rw [ha.out];exact putSel_upk 6 hb_ rfl rfl rfl),Q_BK458,Q_HB,Q_HO463,fun h0_=>absurd ((hoff 16 (by kernel_rfl)).symm.trans h0_) (by decide),fun h0_=>absurd ((hoff 17 (by kernel_rfl)).symm.trans h0_) (by decide),fun h0_=>absurd ((hoff 17 (by kernel_rfl)).symm.trans h0_) (by decide),fun h0_=>absurd ((hoff 18 (by kernel_rfl)).symm.trans h0_) (by decide),fun h0_=>absurd ((hoff 19 (by kernel_rfl)).symm.trans h0_) (by decide),fun h0_=>absurd ((hoff 21 (by kernel_rfl)).symm.trans h0_) (by decide)⟩
           refine steps_cons ?_ ?_
           ·rintro b a w' ⟨v462,v465,v469,m17_,m18_,m19_,m21_,ha,Q_BK458,Q_HB,Q_HO463,Q_HO466,Q_HO470,Q_X17_,Q_X18_,Q_X19_,Q_X21_⟩ hb_ hon hoff
            refine ⟨_,rfl,fun K hK=>?_⟩
            have e51:a.tmps[51]?=some (.pointer (some ⟨gb458,4,none⟩)):=by rw [ha];exact (putSel_off rfl).trans rfl
            replace ha:=Aside0.mk ha
            have BK458:=Aside0.mk Q_BK458
            have HB:=Aside0.mk Q_HB
            have hc0_:w'.cell? ⟨gb458,0,none⟩=some (.int .i64 a0_0):=(blk_cell BK458.out 0).trans rfl
            have hc1_:w'.cell? ⟨gb458,1,none⟩=some (.int .i64 a0_1):=(blk_cell BK458.out 1).trans rfl
            have hc2_:w'.cell? ⟨gb458,2,none⟩=some (.int .i64 a0_2):=(blk_cell BK458.out 2).trans rfl
            have hc3_:w'.cell? ⟨gb458,3,none⟩=some (.bool a0_3):=(blk_cell BK458.out 3).trans rfl
            have hc4_:w'.cell? ⟨gb458,4,none⟩=some (.int .i64 a0_4):=(blk_cell BK458.out 4).trans rfl
            refine value_ (w1:=w') (v:=.int .i64 a0_4) (by rfl) rfl ?_ ?_
            ·go_simp
             (try simp only [i64_w])
             try rfl
            refine hK.out _ _ ⟨v462,v465,v469,m17_,m18_,m19_,m21_,(by rw [ha.out];exact putSel_upk 7 hb_ rfl rfl rfl),Q_BK458,Q_HB,Q_HO463,fun h0_=>absurd ((hoff 16 (by kernel_rfl)).symm.trans h0_) (by decide),fun h0_=>absurd ((hoff 17 (by kernel_rfl)).symm.trans h0_) (by decide),fun h0_=>absurd ((hoff 17 (by kernel_rfl)).symm.trans h0_) (by decide),fun h0_=>absurd ((hoff 18 (by kernel_rfl)).symm.trans h0_) (by decide),fun h0_=>absurd ((hoff 19 (by kernel_rfl)).symm.trans h0_) (by decide),fun h0_=>absurd ((hoff 21 (by kernel_rfl)).symm.trans h0_) (by decide)⟩
           refine steps_cons ?_ ?_
           ·rintro b a w' ⟨v462,v465,v469,m17_,m18_,m19_,m21_,ha,Q_BK458,Q_HB,Q_HO463,Q_HO466,Q_HO470,Q_X17_,Q_X18_,Q_X19_,Q_X21_⟩ hb_ hon hoff
            refine ⟨_,rfl,fun K hK=>?_⟩
            have e52:a.tmps[52]?=some (.int .i64 a0_4):=by rw [ha];exact putSel_on (e:=(14,52,.int .i64 a0_4)) 7 rfl rfl (hon 14 (by kernel_rfl)) rfl
            replace ha:=Aside0.mk ha
            have BK458:=Aside0.mk Q_BK458
            have HB:=Aside0.mk Q_HB
            refine value_ (w1:=w') (v:=.int .u64 (IntKind.u64.wrap (a0_4))) (by rfl) rfl ?_ ?_
            ·go_simp
             (try simp only [i64_w])
             try rfl
            refine hK.out _ _ ⟨v462,v465,v469,m17_,m18_,m19_,m21_,(by rw [ha.out];exact putSel_upk 8 hb_ rfl rfl rfl),Q_BK458,Q_HB,Q_HO463,fun h0_=>absurd ((hoff 16 (by kernel_rfl)).symm.trans h0_) (by decide),fun h0_=>absurd ((hoff 17 (by kernel_rfl)).symm.trans h0_) (by decide),fun h0_=>absurd ((hoff 17 (by kernel_rfl)).symm.trans h0_) (by decide),fun h0_=>absurd ((hoff 18 (by kernel_rfl)).symm.trans h0_) (by decide),fun h0_=>absurd ((hoff 19 (by kernel_rfl)).symm.trans h0_) (by decide),fun h0_=>absurd ((hoff 21 (by kernel_rfl)).symm.trans h0_) (by decide)⟩
           refine steps_cons ?_ ?_
           ·rintro b a w' ⟨v462,v465,v469,m17_,m18_,m19_,m21_,ha,Q_BK458,Q_HB,Q_HO463,Q_HO466,Q_HO470,Q_X17_,Q_X18_,Q_X19_,Q_X21_⟩ hb_ hon hoff
            refine ⟨_,rfl,fun K hK=>?_⟩
            have e42:a.tmps[42]?=some (.int .u64 (IntKind.u64.wrap (a0_0))):=by rw [ha];exact putSel_on (e:=(4,42,.int .u64 (IntKind.u64.wrap (a0_0)))) 2 rfl rfl (hon 4 (by kernel_rfl)) rfl
            have e46:a.tmps[46]?=some (.int .u64 (IntKind.u64.wrap (a0_1))):=by rw [ha];exact putSel_on (e:=(8,46,.int .u64 (IntKind.u64.wrap (a0_1)))) 4 rfl rfl (hon 8 (by kernel_rfl)) rfl
            have e47:a.tmps[47]?=some (.int .u64 x5_19):=by rw [ha];exact (putSel_off rfl).trans rfl
            have e50:a.tmps[50]?=some (.int .u64 (IntKind.u64.wrap (a0_2))):=by rw [ha];exact putSel_on (e:=(12,50,.int .u64 (IntKind.u64.wrap (a0_2)))) 6 rfl rfl (hon 12 (by kernel_rfl)) rfl
            have e53:a.tmps[53]?=some (.int .u64 (IntKind.u64.wrap (a0_4))):=by rw [ha];exact putSel_on (e:=(15,53,.int .u64 (IntKind.u64.wrap (a0_4)))) 8 rfl rfl (hon 15 (by kernel_rfl)) rfl
            replace ha:=Aside0.mk ha
            have BK458:=Aside0.mk Q_BK458
            have HB:=Aside0.mk Q_HB
            refine Kd.R_lit_step (Kd.int .u64) _ 76 ?hg (N:=54) ?hd (xs:=([1397508432,IntKind.u64.wrap (a0_0),IntKind.u64.wrap (a0_1),x5_19,IntKind.u64.wrap (a0_2),IntKind.u64.wrap (a0_4)]:List Int)) (inner:=[.int .u64 1397508432,.int .u64 (IntKind.u64.wrap (a0_0)),.int .u64 (IntKind.u64.wrap (a0_1)),.int .u64 x5_19,.int .u64 (IntKind.u64.wrap (a0_2)),.int .u64 (IntKind.u64.wrap (a0_4))]) (ok:=fun _=>True) (okp:=fun _=>True) ?hr ?hp (fun _ hk=>hk) trivial (Below.refl _ _) (Nat.le_refl _) (by simp) ?_;(case hd=>rfl);(case hg=>rfl);(case hr=>first|(go_simp;done)|(go_simp;rfl));(case hp=>exact (Reps.one (show Kd.M (Kd.int .u64) _ _ _ 1397508432 [.int .u64 1397508432] from rfl) (Reps.one (show Kd.M (Kd.int .u64) _ _ _ (IntKind.u64.wrap (a0_0)) [.int .u64 (IntKind.u64.wrap (a0_0))] from rfl) (Reps.one (show Kd.M (Kd.int .u64) _ _ _ (IntKind.u64.wrap (a0_1)) [.int .u64 (IntKind.u64.wrap (a0_1))] from rfl) (Reps.one (show Kd.M (Kd.int .u64) _ _ _ x5_19 [.int .u64 x5_19] from rfl) (Reps.one (show Kd.M (Kd.int .u64) _ _ _ (IntKind.u64.wrap (a0_2)) [.int .u64 (IntKind.u64.wrap (a0_2))] from rfl) (Reps.one (show Kd.M (Kd.int .u64) _ _ _ (IntKind.u64.wrap (a0_4)) [.int .u64 (IntKind.u64.wrap (a0_4))] from rfl) (Reps.none _ _))))))))
            intro v465 w31 ho32 hb hg_ hnew_
            clear hg_ hnew_
            (first|rw [← Ny464.out] at ho32|(simp only [Int.reduceToNat] at ho32;rw [← Ny464.out] at ho32))
            have n0_:=Aside0.mk (Kd.R_lower ho32 (below_size (by repeat (first|(with_reducible first|exact HB.out|apply below_alloc|apply pw_below_drewN|apply below_drew1|refine below_set ?_ GE458.out)|exact HB.out))))
            have n1_:=Aside0.mk (blk_below (g:=gb458) (o:=.cells #[.int .i64 a0_0,.int .i64 a0_1,.int .i64 a0_2,.bool a0_3,.int .i64 a0_4] 63 (0,0)) (by (with_reducible repeat (first|refine blk_drewN ?_ _|refine blk_drew ?_|refine blk_alloc ?_ _));exact BK458.out) hb)
            have n2_:=Aside0.mk (below_step (by repeat (first|(with_reducible first|exact HB.out|apply below_alloc|apply pw_below_drewN|apply below_drew1|refine below_set ?_ GE458.out)|exact HB.out)) hb)
            have z_HO463:=fun (h0_:b 0=true)=>(show Kd.R (Kd.int .i64) 3 w31 w.heap.size (fun _=>True) v462 t461 from by first|exact (Kd.R_below (by (with_reducible repeat (first|apply Kd.R_alloc|apply Kd.R_drewN|apply Kd.R_drew));exact (Q_HO463 h0_)) hb)|exact Kd.R_mono (Kd.R_below (by (with_reducible repeat (first|apply Kd.R_alloc|apply Kd.R_drewN|apply Kd.R_drew));exact (Q_HO463 h0_)) hb) (fun _ h_=>by first|trivial|exact h_|exact h_.1))
            clear BK458 HB
            have HO466:=n0_
            have BK458:=n1_
            have HB:=n2_
            clear n0_ n1_ n2_ hb ho32
            refine hK.out _ _ ⟨v462,v465,v469,m17_,m18_,m19_,m21_,(by rw [ha.out];exact putSel_upk 9 hb_ rfl rfl rfl),(by (with_reducible repeat (first|refine blk_drewN ?_ _|refine blk_drew ?_|refine blk_alloc ?_ _));exact BK458.out),(by repeat (first|(with_reducible first|exact HB.out|apply below_alloc|apply pw_below_drewN|apply below_drew1|refine below_set ?_ GE458.out)|exact HB.out)),z_HO463,fun _=>(by (with_reducible repeat (first|apply Kd.R_alloc|apply Kd.R_drewN|apply Kd.R_drew));exact HO466.out),fun h0_=>absurd ((hoff 17 (by kernel_rfl)).symm.trans h0_) (by decide),fun h0_=>absurd ((hoff 17 (by kernel_rfl)).symm.trans h0_) (by decide),fun h0_=>absurd ((hoff 18 (by kernel_rfl)).symm.trans h0_) (by decide),fun h0_=>absurd ((hoff 19 (by kernel_rfl)).symm.trans h0_) (by decide),fun h0_=>absurd ((hoff 21 (by kernel_rfl)).symm.trans h0_) (by decide)⟩
           refine steps_cons ?_ ?_
           ·rintro b a w' ⟨v462,v465,v469,m17_,m18_,m19_,m21_,ha,Q_BK458,Q_HB,Q_HO463,Q_HO466,Q_HO470,Q_X17_,Q_X18_,Q_X19_,Q_X21_⟩ hb_ hon hoff
            refine ⟨_,rfl,fun K hK=>?_⟩
            have e38:a.tmps[38]?=some (v462):=by rw [ha];exact putSel_on (e:=(0,38,v462)) 0 rfl rfl (hon 0 (by kernel_rfl)) rfl
            have e54:a.tmps[54]?=some (v465):=by rw [ha];exact putSel_on (e:=(16,54,v465)) 9 rfl rfl (hon 16 (by kernel_rfl)) rfl
            replace ha:=Aside0.mk ha
            have BK458:=Aside0.mk Q_BK458
            have HB:=Aside0.mk Q_HB
            have HO463:=Aside0.mk (Q_HO463 (hon 0 (by kernel_rfl)))
            have HO466:=Aside0.mk (Q_HO466 (hon 16 (by kernel_rfl)))
            obtain ⟨Ao35,co35,eo35⟩:=Kd.R_slice HO463.out
            (first|subst eo35|(injection eo35 with f1_ f2_ f3_;have f4_:=f1_.symm;have f5_:=f3_.symm;clear f1_ f2_ f3_;subst f4_;subst f5_))
            obtain ⟨Ao36,co36,eo36⟩:=Kd.R_slice HO466.out
            (first|subst eo36|(injection eo36 with f1_ f2_ f3_;have f4_:=f1_.symm;have f5_:=f3_.symm;clear f1_ f2_ f3_;subst f4_;subst f5_))
            refine goes_ Try.func53 (by kernel_rfl) rfl #[.slice Ao35 t461.length co35,.slice Ao36 y464.length co36] (by rfl) rfl rfl (by first|(simp only [List.map_toArray,List.map_cons,List.map_nil,Act.eval,Array.getD_eq_getD_getElem?,Option.getD_some,e38,e54];done)|(simp only [List.map_toArray,List.map_cons,List.map_nil,Act.eval,Array.getD_eq_getD_getElem?,Option.getD_some,e38,e54];rfl)) ?_
            with_reducible refine (seal_Pack.calls kj19 _ _ t461 _ _ y464 t467 t468 _ ?side1 ?side2 ?side3 ?side4 A24.out).mono ?_
            (case side1=>repeat (first|exact (Kd.R_reads' HO463.out).2.2|(with_reducible refine Kd.C_alloc ?_ _)|(with_reducible refine Kd.C_drewN ?_ _)|(with_reducible refine Kd.C_drew ?_)))
            (case side2=>exact (Kd.R_reads' HO463.out).2.1)
            (case side3=>repeat (first|exact (Kd.R_reads' HO466.out).2.2|(with_reducible refine Kd.C_alloc ?_ _)|(with_reducible refine Kd.C_drewN ?_ _)|(with_reducible refine Kd.C_drew ?_)))
            (case side4=>exact (Kd.R_reads' HO466.out).2.1)
            rintro e w37 ⟨v469,rfl,ho0,hb⟩
            refine ⟨_,rfl,?_⟩
            have n0_:=Aside0.mk (Kd.R_below (by (with_reducible repeat (first|apply Kd.R_alloc|apply Kd.R_drewN|apply Kd.R_drew));exact HO463.out) hb)
            have n1_:=Aside0.mk (Kd.R_below (by (with_reducible repeat (first|apply Kd.R_alloc|apply Kd.R_drewN|apply Kd.R_drew));exact HO466.out) hb)
            have n2_:=Aside0.mk (Kd.R_lower ho0 (below_size (by repeat (first|(with_reducible first|exact HB.out|apply below_alloc|apply pw_below_drewN|apply below_drew1|refine below_set ?_ GE458.out)|exact HB.out))))
            have n3_:=Aside0.mk (blk_below (g:=gb458) (o:=.cells #[.int .i64 a0_0,.int .i64 a0_1,.int .i64 a0_2,.bool a0_3,.int .i64 a0_4] 63 (0,0)) (by (with_reducible repeat (first|refine blk_drewN ?_ _|refine blk_drew ?_|refine blk_alloc ?_ _));exact BK458.out) hb)
            have n4_:=Aside0.mk (below_step (by repeat (first|(with_reducible first|exact HB.out|apply below_alloc|apply pw_below_drewN|apply below_drew1|refine below_set ?_ GE458.out)|exact HB.out)) hb)
            clear HO463 HO466 BK458 HB
            have HO463:=n0_
            have HO466:=n1_
            have HO470:=n2_
            have BK458:=n3_
            have HB:=n4_
            clear n0_ n1_ n2_ n3_ n4_
            (try clear hb)
            (try clear hb2)
            (try clear hk)
            (try clear hi)
            (try clear ho0)
            refine hK.out _ _ ⟨.slice Ao35 t461.length co35,.slice Ao36 y464.length co36,v469,(.tuple #[v469,.int .i64 t468]),m18_,m19_,m21_,(by rw [ha.out];exact putSel_upk 10 hb_ rfl rfl rfl),(by (with_reducible repeat (first|refine blk_drewN ?_ _|refine blk_drew ?_|refine blk_alloc ?_ _));exact BK458.out),(by repeat (first|(with_reducible first|exact HB.out|apply below_alloc|apply pw_below_drewN|apply below_drew1|refine below_set ?_ GE458.out)|exact HB.out)),fun _=>(by (with_reducible repeat (first|apply Kd.R_alloc|apply Kd.R_drewN|apply Kd.R_drew));exact HO463.out),fun _=>(by (with_reducible repeat (first|apply Kd.R_alloc|apply Kd.R_drewN|apply Kd.R_drew));exact HO466.out),fun _=>(by (with_reducible repeat (first|apply Kd.R_alloc|apply Kd.R_drewN|apply Kd.R_drew));exact HO470.out),fun _=>rfl,fun h0_=>absurd ((hoff 18 (by kernel_rfl)).symm.trans h0_) (by decide),fun h0_=>absurd ((hoff 19 (by kernel_rfl)).symm.trans h0_) (by decide),fun h0_=>absurd ((hoff 21 (by kernel_rfl)).symm.trans h0_) (by decide)⟩
           refine steps_cons ?_ ?_
           ·rintro b a w' ⟨v462,v465,v469,m17_,m18_,m19_,m21_,ha,Q_BK458,Q_HB,Q_HO463,Q_HO466,Q_HO470,Q_X17_,Q_X18_,Q_X19_,Q_X21_⟩ hb_ hon hoff
            refine ⟨_,rfl,fun K hK=>?_⟩
            have e55:a.tmps[55]?=some (m17_):=by rw [ha];exact putSel_on (e:=(17,55,m17_)) 10 rfl rfl (hon 17 (by kernel_rfl)) rfl
            rw [Q_X17_ (hon 17 (by kernel_rfl))] at e55
            replace ha:=Aside0.mk ha
            have BK458:=Aside0.mk Q_BK458
            have HB:=Aside0.mk Q_HB
            have HO463:=Aside0.mk (Q_HO463 (hon 0 (by kernel_rfl)))
            have HO466:=Aside0.mk (Q_HO466 (hon 16 (by kernel_rfl)))
            have HO470:=Aside0.mk (Q_HO470 (hon 17 (by kernel_rfl)))
            refine value_ (w1:=w') (v:=.tuple #[v469,.int .i64 t468]) (by rfl) rfl ?_ ?_
            ·go_simp
             (try simp only [i64_w])
             try rfl
            refine hK.out _ _ ⟨v462,v465,v469,m17_,(.tuple #[v469,.int .i64 t468]),m19_,m21_,(by rw [ha.out];exact putSel_upk 11 hb_ rfl rfl rfl),Q_BK458,Q_HB,Q_HO463,Q_HO466,Q_HO470,Q_X17_,fun _=>rfl,fun h0_=>absurd ((hoff 19 (by kernel_rfl)).symm.trans h0_) (by decide),fun h0_=>absurd ((hoff 21 (by kernel_rfl)).symm.trans h0_) (by decide)⟩
           refine steps_cons ?_ ?_
           ·rintro b a w' ⟨v462,v465,v469,m17_,m18_,m19_,m21_,ha,Q_BK458,Q_HB,Q_HO463,Q_HO466,Q_HO470,Q_X17_,Q_X18_,Q_X19_,Q_X21_⟩ hb_ hon hoff
            refine ⟨_,rfl,fun K hK=>?_⟩
            have e37:a.tmps[37]?=some (m18_):=by rw [ha];exact putSel_on (e:=(18,37,m18_)) 11 rfl rfl (hon 18 (by kernel_rfl)) rfl
            rw [Q_X18_ (hon 18 (by kernel_rfl))] at e37
            replace ha:=Aside0.mk ha
            have BK458:=Aside0.mk Q_BK458
            have HB:=Aside0.mk Q_HB
            have HO463:=Aside0.mk (Q_HO463 (hon 0 (by kernel_rfl)))
            have HO466:=Aside0.mk (Q_HO466 (hon 16 (by kernel_rfl)))
            have HO470:=Aside0.mk (Q_HO470 (hon 17 (by kernel_rfl)))
            obtain ⟨Ao19_0,co19_0,eo_⟩:=Kd.R_slice HO470.out
            subst eo_
            refine value_ (w1:=w') (v:=.slice Ao19_0 t467.length co19_0) (by rfl) rfl ?_ ?_
            ·go_simp
             (try simp only [i64_w])
             try rfl
            refine hK.out _ _ ⟨v462,v465,.slice Ao19_0 t467.length co19_0,m17_,m18_,(.slice Ao19_0 t467.length co19_0),m21_,(by rw [ha.out];exact putSel_upk 12 hb_ rfl rfl rfl),Q_BK458,Q_HB,Q_HO463,Q_HO466,Q_HO470,Q_X17_,Q_X18_,fun _=>rfl,fun h0_=>absurd ((hoff 21 (by kernel_rfl)).symm.trans h0_) (by decide)⟩
           refine steps_cons ?_ ?_
           ·rintro b a w' ⟨v462,v465,v469,m17_,m18_,m19_,m21_,ha,Q_BK458,Q_HB,Q_HO463,Q_HO466,Q_HO470,Q_X17_,Q_X18_,Q_X19_,Q_X21_⟩ hb_ hon hoff
            refine ⟨_,rfl,fun K hK=>?_⟩
            have e37:a.tmps[37]?=some (m18_):=by rw [ha];exact putSel_on (e:=(18,37,m18_)) 11 rfl rfl (hon 18 (by kernel_rfl)) rfl
            rw [Q_X18_ (hon 18 (by kernel_rfl))] at e37
            replace ha:=Aside0.mk ha
            have BK458:=Aside0.mk Q_BK458
            have HB:=Aside0.mk Q_HB
            have HO463:=Aside0.mk (Q_HO463 (hon 0 (by kernel_rfl)))
            have HO466:=Aside0.mk (Q_HO466 (hon 16 (by kernel_rfl)))
            have HO470:=Aside0.mk (Q_HO470 (hon 17 (by kernel_rfl)))
            obtain ⟨Ao20_0,co20_0,eo_⟩:=Kd.R_slice HO470.out
            subst eo_
            refine value_ (w1:=w') (v:=.int .i64 t468) (by rfl) rfl ?_ ?_
            ·go_simp
             (try simp only [i64_w])
             try rfl
            refine hK.out _ _ ⟨v462,v465,.slice Ao20_0 t467.length co20_0,m17_,m18_,m19_,m21_,(by rw [ha.out];exact putSel_upk 13 hb_ rfl rfl rfl),Q_BK458,Q_HB,Q_HO463,Q_HO466,Q_HO470,Q_X17_,Q_X18_,Q_X19_,Q_X21_⟩
           refine steps_cons ?_ ?_
           ·rintro b a w' ⟨v462,v465,v469,m17_,m18_,m19_,m21_,ha,Q_BK458,Q_HB,Q_HO463,Q_HO466,Q_HO470,Q_X17_,Q_X18_,Q_X19_,Q_X21_⟩ hb_ hon hoff
            refine ⟨_,rfl,fun K hK=>?_⟩
            have e56:a.tmps[56]?=some (m19_):=by rw [ha];exact putSel_on (e:=(19,56,m19_)) 12 rfl rfl (hon 19 (by kernel_rfl)) rfl
            rw [Q_X19_ (hon 19 (by kernel_rfl))] at e56
            replace ha:=Aside0.mk ha
            have BK458:=Aside0.mk Q_BK458
            have HB:=Aside0.mk Q_HB
            have HO463:=Aside0.mk (Q_HO463 (hon 0 (by kernel_rfl)))
            have HO466:=Aside0.mk (Q_HO466 (hon 16 (by kernel_rfl)))
            have HO470:=Aside0.mk (Q_HO470 (hon 17 (by kernel_rfl)))
            refine value_ (w1:=w') (v:=v469) (by rfl) rfl ?_ ?_
            ·go_simp
             (try simp only [i64_w])
             try rfl
            refine hK.out _ _ ⟨v462,v465,v469,m17_,m18_,m19_,(v469),(by rw [ha.out];exact putSel_upk 14 hb_ rfl rfl rfl),Q_BK458,Q_HB,Q_HO463,Q_HO466,Q_HO470,Q_X17_,Q_X18_,Q_X19_,fun _=>rfl⟩
           refine steps_cons ?_ ?_
           ·rintro b a w' ⟨v462,v465,v469,m17_,m18_,m19_,m21_,ha,Q_BK458,Q_HB,Q_HO463,Q_HO466,Q_HO470,Q_X17_,Q_X18_,Q_X19_,Q_X21_⟩ hb_ hon hoff
            refine ⟨_,rfl,fun K hK=>?_⟩
            have e57:a.tmps[57]?=some (.int .i64 t468):=by rw [ha];exact putSel_on (e:=(20,57,.int .i64 t468)) 13 rfl rfl (hon 20 (by kernel_rfl)) rfl
            replace ha:=Aside0.mk ha
            have BK458:=Aside0.mk Q_BK458
            have HB:=Aside0.mk Q_HB
            have HO463:=Aside0.mk (Q_HO463 (hon 0 (by kernel_rfl)))
            have HO466:=Aside0.mk (Q_HO466 (hon 16 (by kernel_rfl)))
            have HO470:=Aside0.mk (Q_HO470 (hon 17 (by kernel_rfl)))
            refine value_ (w1:=w') (v:=.int .i64 t468) (by rfl) rfl ?_ ?_
            ·go_simp
             (try simp only [i64_w])
             try rfl
            refine hK.out _ _ ⟨v462,v465,v469,m17_,m18_,m19_,m21_,(by rw [ha.out];exact putSel_upk 15 hb_ rfl rfl rfl),Q_BK458,Q_HB,Q_HO463,Q_HO466,Q_HO470,Q_X17_,Q_X18_,Q_X19_,Q_X21_⟩
           exact steps_nil
          rintro b a w37 hall ⟨v462,v465,v469,m17_,m18_,m19_,m21_,ha,Q_BK458,Q_HB,Q_HO463,Q_HO466,Q_HO470,Q_X17_,Q_X18_,Q_X19_,Q_X21_⟩
          clear BK458 HB
          have hb0_:=hall 0 (by kernel_rfl)
          have hb3_:=hall 3 (by kernel_rfl)
          have hb4_:=hall 4 (by kernel_rfl)
          have hb7_:=hall 7 (by kernel_rfl)
          have hb8_:=hall 8 (by kernel_rfl)
          have hb11_:=hall 11 (by kernel_rfl)
          have hb12_:=hall 12 (by kernel_rfl)
          have hb14_:=hall 14 (by kernel_rfl)
          have hb15_:=hall 15 (by kernel_rfl)
          have hb16_:=hall 16 (by kernel_rfl)
          have hb17_:=hall 17 (by kernel_rfl)
          have hb18_:=hall 18 (by kernel_rfl)
          have hb19_:=hall 19 (by kernel_rfl)
          have hb20_:=hall 20 (by kernel_rfl)
          have hb21_:=hall 21 (by kernel_rfl)
          have hb22_:=hall 22 (by kernel_rfl)
          subst ha
          obtain rfl:=Q_X17_ hb17_
          obtain rfl:=Q_X18_ hb18_
          obtain rfl:=Q_X19_ hb19_
          obtain rfl:=Q_X21_ hb21_
          simp only [putSel,hb0_,hb3_,hb4_,hb7_,hb8_,hb11_,hb12_,hb14_,hb15_,hb16_,hb17_,hb18_,hb19_,hb20_,hb21_,hb22_,if_true,Act.put,List.setIfInBounds_toArray,List.set_cons_zero,List.set_cons_succ]
          have BK458:=Aside0.mk Q_BK458
          clear Q_BK458
          have HB:=Aside0.mk Q_HB
          clear Q_HB
          have HO463:=Aside0.mk (Q_HO463 hb0_)
          clear Q_HO463
          have HO466:=Aside0.mk (Q_HO466 hb16_)
          clear Q_HO466
          have HO470:=Aside0.mk (Q_HO470 hb17_)
          clear Q_HO470 hall hb0_ hb3_ hb4_ hb7_ hb8_ hb11_ hb12_ hb14_ hb15_ hb16_ hb17_ hb18_ hb19_ hb20_ hb21_ hb22_
          obtain ⟨Ao38,co38,eo38⟩:=Kd.R_slice HO470.out
          subst eo38
          try go_wp2_with (first|(at_builtin;refine Kd.R_append_zeros (Kd.int .u8) (w0:=w) w.heap.size rfl (.tmp 61) (.tmp 64) 48 3 5 (.int .u8 0) 1 rfl Try.underlying48 Try.underlying3 info5 rfl (by decide) (by omega) (.slice Ao38 t467.length co38) t467 0 (ji26:Int) (fun _=>True) rfl rfl rfl ?aF ?aO (of_decide_eq_true (by first|(with_reducible assumption)|assumption)) ?aB ?aS ?aL ?_;(case aB=>exact (by repeat (first|(with_reducible first|exact HB.out|apply below_alloc|apply pw_below_drewN|apply below_drew1|refine below_set ?_ GE458.out)|exact HB.out)));(case aF=>exact (fun _ _=>trivial));(case aO=>exact (by (with_reducible repeat (first|apply Kd.R_alloc|apply Kd.R_drewN|apply Kd.R_drew));exact HO470.out));(case aS=>exact (below_size (by repeat (first|(with_reducible first|exact HB.out|apply below_alloc|apply pw_below_drewN|apply below_drew1|refine below_set ?_ GE458.out)|exact HB.out))));(case aL=>have:=LMc28.out;omega);intro v472 w39 ho hb hg hat;rw [← Ny471.out] at ho;have n0_:=Aside0.mk (blk_grown (g:=gb458) (o:=.cells #[.int .i64 a0_0,.int .i64 a0_1,.int .i64 a0_2,.bool a0_3,.int .i64 a0_4] 63 (0,0)) (by (with_reducible repeat (first|refine blk_drewN ?_ _|refine blk_drew ?_|refine blk_alloc ?_ _));exact BK458.out) hg (Kd.R_ne HO470.out BK458.out (by decide)));have n1_:=Aside0.mk (Kd.R_over' (by (with_reducible repeat (first|apply Kd.R_alloc|apply Kd.R_drewN|apply Kd.R_drew));exact HO463.out) (Kd.R_typed (by (with_reducible repeat (first|apply Kd.R_alloc|apply Kd.R_drewN|apply Kd.R_drew));exact HO470.out)) (by decide) hg);have n2_:=Aside0.mk (Kd.R_over' (by (with_reducible repeat (first|apply Kd.R_alloc|apply Kd.R_drewN|apply Kd.R_drew));exact HO466.out) (Kd.R_typed (by (with_reducible repeat (first|apply Kd.R_alloc|apply Kd.R_drewN|apply Kd.R_drew));exact HO470.out)) (by decide) hg);have n3_:=Aside0.mk (hb);have n4_:=Aside0.mk (ho);clear BK458 HO463 HO466 HB HO470;have BK458:=n0_;have HO463:=n1_;have HO466:=n2_;have HB:=n3_;have HO473:=n4_;clear n0_ n1_ n2_ n3_ n4_;clear ho hb hg hat;obtain ⟨Ao40,co40,eo40⟩:=Kd.R_slice HO473.out;subst eo40)|((with_reducible refine gate_callee (f:=55) rfl ?_);refine goesL_ (some 66) rfl rfl Try.func55 (by kernel_rfl) rfl #[.slice Ao40 y471.length co40] rfl (by (try simp only [List.map_toArray,List.map_cons,List.map_nil]);first|done|rfl|(simp only [List.length_drop,List.length_take];rfl)) ?_;(with_reducible refine (seal_Seal.calls kj19 (fun k_=>some k_=(.slice Ao40 y471.length co40:Value).ownBlock) _ _ y471 t474 t477 _ ?side1 A29.out).mono ?_);(case side1=>exact Kd.R_V (Kd.R_tight rfl (Kd.R_types (Kd.R_apart' (Kd.R_apart' (HO473.out) (Kd.R_typed HO463.out) (by decide)) (Kd.R_typed HO466.out) (by decide)) BK458.out (by decide))));rintro e w41 ⟨v475,rfl,ho0,hb⟩;refine ⟨_,rfl,?_⟩;have n0_:=Aside0.mk (Kd.R_below (by (with_reducible repeat (first|apply Kd.R_alloc|apply Kd.R_drewN|apply Kd.R_drew));exact HO463.out) hb);have n1_:=Aside0.mk (Kd.R_below (by (with_reducible repeat (first|apply Kd.R_alloc|apply Kd.R_drewN|apply Kd.R_drew));exact HO466.out) hb);have n2_:=Aside0.mk (Kd.R_elder' (by (with_reducible repeat (first|apply Kd.R_alloc|apply Kd.R_drewN|apply Kd.R_drew));exact HO473.out) (Kd.R_base ho0) hb);have n3_:=Aside0.mk (Kd.R_lower (Kd.R_new' (Kd.R_mono (ok':=fun k_=>True) ho0 (fun _ hk_=>trivial)) (Kd.R_lt (by (with_reducible repeat (first|apply Kd.R_alloc|apply Kd.R_drewN|apply Kd.R_drew));exact HO473.out))) (below_size (by repeat (first|(with_reducible first|exact HB.out|apply below_alloc|apply pw_below_drewN|apply below_drew1|refine below_set ?_ GE458.out)|exact HB.out))));have n4_:=Aside0.mk (blk_below (g:=gb458) (o:=.cells #[.int .i64 a0_0,.int .i64 a0_1,.int .i64 a0_2,.bool a0_3,.int .i64 a0_4] 63 (0,0)) (by (with_reducible repeat (first|refine blk_drewN ?_ _|refine blk_drew ?_|refine blk_alloc ?_ _));exact BK458.out) hb);have n5_:=Aside0.mk (below_step (by repeat (first|(with_reducible first|exact HB.out|apply below_alloc|apply pw_below_drewN|apply below_drew1|refine below_set ?_ GE458.out)|exact HB.out)) hb);clear HO463 HO466 HO473 BK458 HB;have HO463:=n0_;have HO466:=n1_;have HO473:=n2_;have HO476:=n3_;have BK458:=n4_;have HB:=n5_;clear n0_ n1_ n2_ n3_ n4_ n5_;(try clear hb);(try clear hb2);(try clear hk);(try clear hi);(try clear ho0)))
          go_ret2
          exact ⟨_,by first|rfl|(simp [errW_none,errW_some] <;> rfl)|(simp only [← hji26];first|rfl|(simp [errW_none,errW_some] <;> rfl))|(simp [*,errW_none,errW_some] <;> rfl),by (with_reducible repeat (first|apply Kd.R_alloc|apply Kd.R_drewN|apply Kd.R_drew));exact Kd.R_mono HO476.out (fun _ hk=>trivial),by repeat (first|(with_reducible first|exact HB.out|apply below_alloc|apply pw_below_drewN|apply below_drew1|refine below_set ?_ GE458.out)|exact HB.out)⟩
         ·rw [if_neg c28] at H
          exact absurd H (by simp)
        ·rw [if_neg c27] at H
         exact absurd H (by simp)
       ·rw [if_neg c25] at H
        have c25b0:(t468 == 0)=false:=beq_eq_false_iff_ne.mpr c25
        have c25b1:(t468 != 0)=true:=bne_iff_ne.mpr c25
        simp only [Option.some.injEq,Prod.mk.injEq] at H
        obtain ⟨rfl,rfl⟩:=H
        try go_wp2
        have n0_:=Aside0.mk (blk_drew BK458.out)
        have n1_:=Aside0.mk (below_drew1 HB.out)
        clear BK458 HB
        have BK458:=n0_
        have HB:=n1_
        clear n0_ n1_
        refine start_ (n:=23) (S:=fun w'=>True) (ds:=[]) #[false,false,false,false,false,false,false,false,false,false,false,false,false,false,false,false,false,false,false,false,false,false,false] (by kernel_rfl) rfl rfl trivial (fun hHeld=>?_);refine with_tabW layout_EncodeSuper.tab9 layout_EncodeSuper.bits9 (fun HT_ HW_=>?_)
        generalize wc.drew=w42 at BK458 HB hHeld ⊢
        refine pure_ (i:=1) (N:=some 39) (v:=?_) (a':=?_) #[false,true,false,false,false,false,false,false,false,false,false,false,false,false,false,false,false,false,false,false,false,false,false] rfl rfl (any_of HT_.out (by kernel_rfl)) (fun _ _ _ h=>h) (Or.inl ⟨by rfl,?_⟩) ?_ ?_
        rotate_left
        ·intro w'
         go_simp
         with_reducible rfl
        rotate_left
        ·simp only [Act.put,List.setIfInBounds_toArray,List.set_cons_zero,List.set_cons_succ,i64_w,i32_w]
         rfl
        refine pure_ (i:=2) (N:=some 40) (v:=?_) (a':=?_) #[false,true,true,false,false,false,false,false,false,false,false,false,false,false,false,false,false,false,false,false,false,false,false] rfl rfl (any_of HT_.out (by kernel_rfl)) (fun _ _ _ h=>h) (Or.inl ⟨by rfl,?_⟩) ?_ ?_
        rotate_left
        ·intro w'
         go_simp
         with_reducible rfl
        rotate_left
        ·simp only [Act.put,List.setIfInBounds_toArray,List.set_cons_zero,List.set_cons_succ,i64_w,i32_w]
         rfl
        refine pure_ (i:=5) (N:=some 43) (v:=?_) (a':=?_) #[false,true,true,false,false,true,false,false,false,false,false,false,false,false,false,false,false,false,false,false,false,false,false] rfl rfl (any_of HT_.out (by kernel_rfl)) (fun _ _ _ h=>h) (Or.inl ⟨by rfl,?_⟩) ?_ ?_
        rotate_left
        ·intro w'
         go_simp
         with_reducible rfl
        rotate_left
        ·simp only [Act.put,List.setIfInBounds_toArray,List.set_cons_zero,List.set_cons_succ,i64_w,i32_w]
         rfl
        refine pure_ (i:=6) (N:=some 44) (v:=?_) (a':=?_) #[false,true,true,false,false,true,true,false,false,false,false,false,false,false,false,false,false,false,false,false,false,false,false] rfl rfl (any_of HT_.out (by kernel_rfl)) (fun _ _ _ h=>h) (Or.inl ⟨by rfl,?_⟩) ?_ ?_
        rotate_left
        ·intro w'
         go_simp
         with_reducible rfl
        rotate_left
        ·simp only [Act.put,List.setIfInBounds_toArray,List.set_cons_zero,List.set_cons_succ,i64_w,i32_w]
         rfl
        refine pure_ (i:=9) (N:=some 47) (v:=?_) (a':=?_) #[false,true,true,false,false,true,true,false,false,true,false,false,false,false,false,false,false,false,false,false,false,false,false] rfl rfl (any_of HT_.out (by kernel_rfl)) (fun _ _ _ h=>h) (Or.inl ⟨by rfl,?_⟩) ?_ ?_
        rotate_left
        ·intro w'
         go_simp
         with_reducible rfl
        rotate_left
        ·simp only [Act.put,List.setIfInBounds_toArray,List.set_cons_zero,List.set_cons_succ,i64_w,i32_w]
         rfl
        refine pure_ (i:=10) (N:=some 48) (v:=?_) (a':=?_) #[false,true,true,false,false,true,true,false,false,true,true,false,false,false,false,false,false,false,false,false,false,false,false] rfl rfl (any_of HT_.out (by kernel_rfl)) (fun _ _ _ h=>h) (Or.inl ⟨by rfl,?_⟩) ?_ ?_
        rotate_left
        ·intro w'
         go_simp
         with_reducible rfl
        rotate_left
        ·simp only [Act.put,List.setIfInBounds_toArray,List.set_cons_zero,List.set_cons_succ,i64_w,i32_w]
         rfl
        refine pure_ (i:=13) (N:=some 51) (v:=?_) (a':=?_) #[false,true,true,false,false,true,true,false,false,true,true,false,false,true,false,false,false,false,false,false,false,false,false] rfl rfl (any_of HT_.out (by kernel_rfl)) (fun _ _ _ h=>h) (Or.inl ⟨by rfl,?_⟩) ?_ ?_
        rotate_left
        ·intro w'
         go_simp
         with_reducible rfl
        rotate_left
        ·simp only [Act.put,List.setIfInBounds_toArray,List.set_cons_zero,List.set_cons_succ,i64_w,i32_w]
         rfl
        refine inv_at [0,3,4,7,8,11,12,14,15,16,17,18,19,20,21,22] (fun a0_ b a w'=>∃ (v462:Value) (v465:Value) (v469:Value) (m17_:Value) (m18_:Value) (m19_:Value) (m21_:Value),a=putSel a0_ b [(0,38,v462),(3,41,.int .i64 a0_0),(4,42,.int .u64 (IntKind.u64.wrap (a0_0))),(7,45,.int .i64 a0_1),(8,46,.int .u64 (IntKind.u64.wrap (a0_1))),(11,49,.int .i64 a0_2),(12,50,.int .u64 (IntKind.u64.wrap (a0_2))),(14,52,.int .i64 a0_4),(15,53,.int .u64 (IntKind.u64.wrap (a0_4))),(16,54,v465),(17,55,m17_),(18,37,m18_),(19,56,m19_),(20,57,.int .i64 t468),(21,6,m21_),(22,7,.int .i64 t468)]∧(w'.heap[gb458]?=some (.cells #[.int .i64 a0_0,.int .i64 a0_1,.int .i64 a0_2,.bool a0_3,.int .i64 a0_4] 63 (0,0)))∧(Below w.heap.size w w')∧(b 0=true → Kd.R (Kd.int .i64) 3 w' w.heap.size (fun _=>True) v462 t461)∧(b 16=true → Kd.R (Kd.int .u64) 76 w' w.heap.size (fun _=>True) v465 y464)∧(b 17=true → Kd.R (Kd.int .u8) 5 w' w.heap.size (fun _=>True) v469 t467)∧(b 17=true → (m17_:Value)=.tuple #[v469,.int .i64 t468])∧(b 18=true → (m18_:Value)=.tuple #[v469,.int .i64 t468])∧(b 19=true → (m19_:Value)=v469)∧(b 21=true → (m21_:Value)=v469)) HT_.out HW_.out (by kernel_rfl) (by kernel_rfl) ?_ ?_ ?_
        ·exact ⟨.bool false,.bool false,.bool false,.bool false,.bool false,.bool false,.bool false,by simp only [putSel,Bool.false_eq_true,if_false],BK458.out,HB.out,fun h_=>absurd h_ (by decide),fun h_=>absurd h_ (by decide),fun h_=>absurd h_ (by decide),fun h_=>absurd h_ (by decide),fun h_=>absurd h_ (by decide),fun h_=>absurd h_ (by decide),fun h_=>absurd h_ (by decide)⟩
        ·skip
         clear BK458 HB
         refine steps_cons ?_ ?_
         ·rintro b a w' ⟨v462,v465,v469,m17_,m18_,m19_,m21_,ha,Q_BK458,Q_HB,Q_HO463,Q_HO466,Q_HO470,Q_X17_,Q_X18_,Q_X19_,Q_X21_⟩ hb_ hon hoff
          refine ⟨_,rfl,fun K hK=>?_⟩
          replace ha:=Aside0.mk ha
          have BK458:=Aside0.mk Q_BK458
          have HB:=Aside0.mk Q_HB
          refine goes_ Try.func54 (by kernel_rfl) rfl #[] (by rfl) rfl rfl (by first|(simp only [List.map_toArray,List.map_cons,List.map_nil,Act.eval,Array.getD_eq_getD_getElem?,Option.getD_some];done)|(simp only [List.map_toArray,List.map_cons,List.map_nil,Act.eval,Array.getD_eq_getD_getElem?,Option.getD_some];rfl)) ?_
          with_reducible refine (layout_superWidths.calls  t461 _ A23.out).mono ?_
          rintro e w43 ⟨v462,rfl,ho0,hb⟩
          refine ⟨_,rfl,?_⟩
          have n0_:=Aside0.mk (Kd.R_lower ho0 (below_size (by repeat (first|(with_reducible first|exact HB.out|apply below_alloc|apply pw_below_drewN|apply below_drew1|refine below_set ?_ GE458.out)|exact HB.out))))
          have n1_:=Aside0.mk (blk_below (g:=gb458) (o:=.cells #[.int .i64 a0_0,.int .i64 a0_1,.int .i64 a0_2,.bool a0_3,.int .i64 a0_4] 63 (0,0)) (by (with_reducible repeat (first|refine blk_drewN ?_ _|refine blk_drew ?_|refine blk_alloc ?_ _));exact BK458.out) hb)
          have n2_:=Aside0.mk (below_step (by repeat (first|(with_reducible first|exact HB.out|apply below_alloc|apply pw_below_drewN|apply below_drew1|refine below_set ?_ GE458.out)|exact HB.out)) hb)
          have z_HO466:=fun (h0_:b 16=true)=>(show Kd.R (Kd.int .u64) 76 w43 w.heap.size (fun _=>True) v465 y464 from by first|exact (Kd.R_below (by (with_reducible repeat (first|apply Kd.R_alloc|apply Kd.R_drewN|apply Kd.R_drew));exact (Q_HO466 h0_)) hb)|exact Kd.R_mono (Kd.R_below (by (with_reducible repeat (first|apply Kd.R_alloc|apply Kd.R_drewN|apply Kd.R_drew));exact (Q_HO466 h0_)) hb) (fun _ h_=>by first|trivial|exact h_|exact h_.1))
          clear BK458 HB
          have HO463:=n0_
          have BK458:=n1_
          have HB:=n2_
          clear n0_ n1_ n2_
          (try clear hb)
          (try clear hb2)
          (try clear hk)
          (try clear hi)
          (try clear ho0)
          refine hK.out _ _ ⟨v462,v465,v469,m17_,m18_,m19_,m21_,(by rw [ha.out];exact putSel_upk 0 hb_ rfl rfl rfl),(by (with_reducible repeat (first|refine blk_drewN ?_ _|refine blk_drew ?_|refine blk_alloc ?_ _));exact BK458.out),(by repeat (first|(with_reducible first|exact HB.out|apply below_alloc|apply pw_below_drewN|apply below_drew1|refine below_set ?_ GE458.out)|exact HB.out)),fun _=>(by (with_reducible repeat (first|apply Kd.R_alloc|apply Kd.R_drewN|apply Kd.R_drew));exact HO463.out),z_HO466,fun h0_=>absurd ((hoff 17 (by kernel_rfl)).symm.trans h0_) (by decide),fun h0_=>absurd ((hoff 17 (by kernel_rfl)).symm.trans h0_) (by decide),fun h0_=>absurd ((hoff 18 (by kernel_rfl)).symm.trans h0_) (by decide),fun h0_=>absurd ((hoff 19 (by kernel_rfl)).symm.trans h0_) (by decide),fun h0_=>absurd ((hoff 21 (by kernel_rfl)).symm.trans h0_) (by decide)⟩
         refine steps_cons ?_ ?_
         ·rintro b a w' ⟨v462,v465,v469,m17_,m18_,m19_,m21_,ha,Q_BK458,Q_HB,Q_HO463,Q_HO466,Q_HO470,Q_X17_,Q_X18_,Q_X19_,Q_X21_⟩ hb_ hon hoff
          refine ⟨_,rfl,fun K hK=>?_⟩
          have e40:a.tmps[40]?=some (.pointer (some ⟨gb458,0,none⟩)):=by rw [ha];exact (putSel_off rfl).trans rfl
          replace ha:=Aside0.mk ha
          have BK458:=Aside0.mk Q_BK458
          have HB:=Aside0.mk Q_HB
          have hc0_:w'.cell? ⟨gb458,0,none⟩=some (.int .i64 a0_0):=(blk_cell BK458.out 0).trans rfl
          have hc1_:w'.cell? ⟨gb458,1,none⟩=some (.int .i64 a0_1):=(blk_cell BK458.out 1).trans rfl
          have hc2_:w'.cell? ⟨gb458,2,none⟩=some (.int .i64 a0_2):=(blk_cell BK458.out 2).trans rfl
          have hc3_:w'.cell? ⟨gb458,3,none⟩=some (.bool a0_3):=(blk_cell BK458.out 3).trans rfl
          have hc4_:w'.cell? ⟨gb458,4,none⟩=some (.int .i64 a0_4):=(blk_cell BK458.out 4).trans rfl
          refine value_ (w1:=w') (v:=.int .i64 a0_0) (by rfl) rfl ?_ ?_
          ·go_simp
           (try simp only [i64_w])
           try rfl
          refine hK.out _ _ ⟨v462,v465,v469,m17_,m18_,m19_,m21_,(by rw [ha.out];exact putSel_upk 1 hb_ rfl rfl rfl),Q_BK458,Q_HB,Q_HO463,fun h0_=>absurd ((hoff 16 (by kernel_rfl)).symm.trans h0_) (by decide),fun h0_=>absurd ((hoff 17 (by kernel_rfl)).symm.trans h0_) (by decide),fun h0_=>absurd ((hoff 17 (by kernel_rfl)).symm.trans h0_) (by decide),fun h0_=>absurd ((hoff 18 (by kernel_rfl)).symm.trans h0_) (by decide),fun h0_=>absurd ((hoff 19 (by kernel_rfl)).symm.trans h0_) (by decide),fun h0_=>absurd ((hoff 21 (by kernel_rfl)).symm.trans h0_) (by decide)⟩
         refine steps_cons ?_ ?_
         ·rintro b a w' ⟨v462,v465,v469,m17_,m18_,m19_,m21_,ha,Q_BK458,Q_HB,Q_HO463,Q_HO466,Q_HO470,Q_X17_,Q_X18_,Q_X19_,Q_X21_⟩ hb_ hon hoff
          refine ⟨_,rfl,fun K hK=>?_⟩
          have e41:a.tmps[41]?=some (.int .i64 a0_0):=by rw [ha];exact putSel_on (e:=(3,41,.int .i64 a0_0)) 1 rfl rfl (hon 3 (by kernel_rfl)) rfl
          replace ha:=Aside0.mk ha
          have BK458:=Aside0.mk Q_BK458
          have HB:=Aside0.mk Q_HB
          refine value_ (w1:=w') (v:=.int .u64 (IntKind.u64.wrap (a0_0))) (by rfl) rfl ?_ ?_
          ·go_simp
           (try simp only [i64_w])
           try rfl
          refine hK.out _ _ ⟨v462,v465,v469,m17_,m18_,m19_,m21_,(by rw [ha.out];exact putSel_upk 2 hb_ rfl rfl rfl),Q_BK458,Q_HB,Q_HO463,fun h0_=>absurd ((hoff 16 (by kernel_rfl)).symm.trans h0_) (by decide),fun h0_=>absurd ((hoff 17 (by kernel_rfl)).symm.trans h0_) (by decide),fun h0_=>absurd ((hoff 17 (by kernel_rfl)).symm.trans h0_) (by decide),fun h0_=>absurd ((hoff 18 (by kernel_rfl)).symm.trans h0_) (by decide),fun h0_=>absurd ((hoff 19 (by kernel_rfl)).symm.trans h0_) (by decide),fun h0_=>absurd ((hoff 21 (by kernel_rfl)).symm.trans h0_) (by decide)⟩
         refine steps_cons ?_ ?_
         ·rintro b a w' ⟨v462,v465,v469,m17_,m18_,m19_,m21_,ha,Q_BK458,Q_HB,Q_HO463,Q_HO466,Q_HO470,Q_X17_,Q_X18_,Q_X19_,Q_X21_⟩ hb_ hon hoff
          refine ⟨_,rfl,fun K hK=>?_⟩
          have e44:a.tmps[44]?=some (.pointer (some ⟨gb458,1,none⟩)):=by rw [ha];exact (putSel_off rfl).trans rfl
          replace ha:=Aside0.mk ha
          have BK458:=Aside0.mk Q_BK458
          have HB:=Aside0.mk Q_HB
          have hc0_:w'.cell? ⟨gb458,0,none⟩=some (.int .i64 a0_0):=(blk_cell BK458.out 0).trans rfl
          have hc1_:w'.cell? ⟨gb458,1,none⟩=some (.int .i64 a0_1):=(blk_cell BK458.out 1).trans rfl
          have hc2_:w'.cell? ⟨gb458,2,none⟩=some (.int .i64 a0_2):=(blk_cell BK458.out 2).trans rfl
          have hc3_:w'.cell? ⟨gb458,3,none⟩=some (.bool a0_3):=(blk_cell BK458.out 3).trans rfl
          have hc4_:w'.cell? ⟨gb458,4,none⟩=some (.int .i64 a0_4):=(blk_cell BK458.out 4).trans rfl
          refine value_ (w1:=w') (v:=.int .i64 a0_1) (by rfl) rfl ?_ ?_
          ·go_simp
           (try simp only [i64_w])
           try rfl
          refine hK.out _ _ ⟨v462,v465,v469,m17_,m18_,m19_,m21_,(by rw [ha.out];exact putSel_upk 3 hb_ rfl rfl rfl),Q_BK458,Q_HB,Q_HO463,fun h0_=>absurd ((hoff 16 (by kernel_rfl)).symm.trans h0_) (by decide),fun h0_=>absurd ((hoff 17 (by kernel_rfl)).symm.trans h0_) (by decide),fun h0_=>absurd ((hoff 17 (by kernel_rfl)).symm.trans h0_) (by decide),fun h0_=>absurd ((hoff 18 (by kernel_rfl)).symm.trans h0_) (by decide),fun h0_=>absurd ((hoff 19 (by kernel_rfl)).symm.trans h0_) (by decide),fun h0_=>absurd ((hoff 21 (by kernel_rfl)).symm.trans h0_) (by decide)⟩
         refine steps_cons ?_ ?_
         ·rintro b a w' ⟨v462,v465,v469,m17_,m18_,m19_,m21_,ha,Q_BK458,Q_HB,Q_HO463,Q_HO466,Q_HO470,Q_X17_,Q_X18_,Q_X19_,Q_X21_⟩ hb_ hon hoff
          refine ⟨_,rfl,fun K hK=>?_⟩
          have e45:a.tmps[45]?=some (.int .i64 a0_1):=by rw [ha];exact putSel_on (e:=(7,45,.int .i64 a0_1)) 3 rfl rfl (hon 7 (by kernel_rfl)) rfl
          replace ha:=Aside0.mk ha
          have BK458:=Aside0.mk Q_BK458
          have HB:=Aside0.mk Q_HB
          refine value_ (w1:=w') (v:=.int .u64 (IntKind.u64.wrap (a0_1))) (by rfl) rfl ?_ ?_
          ·go_simp
           (try simp only [i64_w])
           try rfl
          refine hK.out _ _ ⟨v462,v465,v469,m17_,m18_,m19_,m21_,(by rw [ha.out];exact putSel_upk 4 hb_ rfl rfl rfl),Q_BK458,Q_HB,Q_HO463,fun h0_=>absurd ((hoff 16 (by kernel_rfl)).symm.trans h0_) (by decide),fun h0_=>absurd ((hoff 17 (by kernel_rfl)).symm.trans h0_) (by decide),fun h0_=>absurd ((hoff 17 (by kernel_rfl)).symm.trans h0_) (by decide),fun h0_=>absurd ((hoff 18 (by kernel_rfl)).symm.trans h0_) (by decide),fun h0_=>absurd ((hoff 19 (by kernel_rfl)).symm.trans h0_) (by decide),fun h0_=>absurd ((hoff 21 (by kernel_rfl)).symm.trans h0_) (by decide)⟩
         refine steps_cons ?_ ?_
         ·rintro b a w' ⟨v462,v465,v469,m17_,m18_,m19_,m21_,ha,Q_BK458,Q_HB,Q_HO463,Q_HO466,Q_HO470,Q_X17_,Q_X18_,Q_X19_,Q_X21_⟩ hb_ hon hoff
          refine ⟨_,rfl,fun K hK=>?_⟩
          have e48:a.tmps[48]?=some (.pointer (some ⟨gb458,2,none⟩)):=by rw [ha];exact (putSel_off rfl).trans rfl
          replace ha:=Aside0.mk ha
          have BK458:=Aside0.mk Q_BK458
          have HB:=Aside0.mk Q_HB
          have hc0_:w'.cell? ⟨gb458,0,none⟩=some (.int .i64 a0_0):=(blk_cell BK458.out 0).trans rfl
          have hc1_:w'.cell? ⟨gb458,1,none⟩=some (.int .i64 a0_1):=(blk_cell BK458.out 1).trans rfl
          have hc2_:w'.cell? ⟨gb458,2,none⟩=some (.int .i64 a0_2):=(blk_cell BK458.out 2).trans rfl
          have hc3_:w'.cell? ⟨gb458,3,none⟩=some (.bool a0_3):=(blk_cell BK458.out 3).trans rfl
          have hc4_:w'.cell? ⟨gb458,4,none⟩=some (.int .i64 a0_4):=(blk_cell BK458.out 4).trans rfl
          refine value_ (w1:=w') (v:=.int .i64 a0_2) (by rfl) rfl ?_ ?_
          ·go_simp
           (try simp only [i64_w])
           try rfl
          refine hK.out _ _ ⟨v462,v465,v469,m17_,m18_,m19_,m21_,(by rw [ha.out];exact putSel_upk 5 hb_ rfl rfl rfl),Q_BK458,Q_HB,Q_HO463,fun h0_=>absurd ((hoff 16 (by kernel_rfl)).symm.trans h0_) (by decide),fun h0_=>absurd ((hoff 17 (by kernel_rfl)).symm.trans h0_) (by decide),fun h0_=>absurd ((hoff 17 (by kernel_rfl)).symm.trans h0_) (by decide),fun h0_=>absurd ((hoff 18 (by kernel_rfl)).symm.trans h0_) (by decide),fun h0_=>absurd ((hoff 19 (by kernel_rfl)).symm.trans h0_) (by decide),fun h0_=>absurd ((hoff 21 (by kernel_rfl)).symm.trans h0_) (by decide)⟩
         refine steps_cons ?_ ?_
         ·rintro b a w' ⟨v462,v465,v469,m17_,m18_,m19_,m21_,ha,Q_BK458,Q_HB,Q_HO463,Q_HO466,Q_HO470,Q_X17_,Q_X18_,Q_X19_,Q_X21_⟩ hb_ hon hoff
          refine ⟨_,rfl,fun K hK=>?_⟩
          have e49:a.tmps[49]?=some (.int .i64 a0_2):=by rw [ha];exact putSel_on (e:=(11,49,.int .i64 a0_2)) 5 rfl rfl (hon 11 (by kernel_rfl)) rfl
          replace ha:=Aside0.mk ha
          have BK458:=Aside0.mk Q_BK458
          have HB:=Aside0.mk Q_HB
          refine value_ (w1:=w') (v:=.int .u64 (IntKind.u64.wrap (a0_2))) (by rfl) rfl ?_ ?_
          ·go_simp
           (try simp only [i64_w])
           try rfl
          refine hK.out _ _ ⟨v462,v465,v469,m17_,m18_,m19_,m21_,(by rw [ha.out];exact putSel_upk 6 hb_ rfl rfl rfl),Q_BK458,Q_HB,Q_HO463,fun h0_=>absurd ((hoff 16 (by kernel_rfl)).symm.trans h0_) (by decide),fun h0_=>absurd ((hoff 17 (by kernel_rfl)).symm.trans h0_) (by decide),fun h0_=>absurd ((hoff 17 (by kernel_rfl)).symm.trans h0_) (by decide),fun h0_=>absurd ((hoff 18 (by kernel_rfl)).symm.trans h0_) (by decide),fun h0_=>absurd ((hoff 19 (by kernel_rfl)).symm.trans h0_) (by decide),fun h0_=>absurd ((hoff 21 (by kernel_rfl)).symm.trans h0_) (by decide)⟩
         refine steps_cons ?_ ?_
         ·rintro b a w' ⟨v462,v465,v469,m17_,m18_,m19_,m21_,ha,Q_BK458,Q_HB,Q_HO463,Q_HO466,Q_HO470,Q_X17_,Q_X18_,Q_X19_,Q_X21_⟩ hb_ hon hoff
          refine ⟨_,rfl,fun K hK=>?_⟩
          have e51:a.tmps[51]?=some (.pointer (some ⟨gb458,4,none⟩)):=by rw [ha];exact (putSel_off rfl).trans rfl
          replace ha:=Aside0.mk ha
          have BK458:=Aside0.mk Q_BK458
          have HB:=Aside0.mk Q_HB
          have hc0_:w'.cell? ⟨gb458,0,none⟩=some (.int .i64 a0_0):=(blk_cell BK458.out 0).trans rfl
          have hc1_:w'.cell? ⟨gb458,1,none⟩=some (.int .i64 a0_1):=(blk_cell BK458.out 1).trans rfl
          have hc2_:w'.cell? ⟨gb458,2,none⟩=some (.int .i64 a0_2):=(blk_cell BK458.out 2).trans rfl
          have hc3_:w'.cell? ⟨gb458,3,none⟩=some (.bool a0_3):=(blk_cell BK458.out 3).trans rfl
          have hc4_:w'.cell? ⟨gb458,4,none⟩=some (.int .i64 a0_4):=(blk_cell BK458.out 4).trans rfl
          refine value_ (w1:=w') (v:=.int .i64 a0_4) (by rfl) rfl ?_ ?_
          ·go_simp
           (try simp only [i64_w])
           try rfl
          refine hK.out _ _ ⟨v462,v465,v469,m17_,m18_,m19_,m21_,(by rw [ha.out];exact putSel_upk 7 hb_ rfl rfl rfl),Q_BK458,Q_HB,Q_HO463,fun h0_=>absurd ((hoff 16 (by kernel_rfl)).symm.trans h0_) (by decide),fun h0_=>absurd ((hoff 17 (by kernel_rfl)).symm.trans h0_) (by decide),fun h0_=>absurd ((hoff 17 (by kernel_rfl)).symm.trans h0_) (by decide),fun h0_=>absurd ((hoff 18 (by kernel_rfl)).symm.trans h0_) (by decide),fun h0_=>absurd ((hoff 19 (by kernel_rfl)).symm.trans h0_) (by decide),fun h0_=>absurd ((hoff 21 (by kernel_rfl)).symm.trans h0_) (by decide)⟩
         refine steps_cons ?_ ?_
         ·rintro b a w' ⟨v462,v465,v469,m17_,m18_,m19_,m21_,ha,Q_BK458,Q_HB,Q_HO463,Q_HO466,Q_HO470,Q_X17_,Q_X18_,Q_X19_,Q_X21_⟩ hb_ hon hoff
          refine ⟨_,rfl,fun K hK=>?_⟩
          have e52:a.tmps[52]?=some (.int .i64 a0_4):=by rw [ha];exact putSel_on (e:=(14,52,.int .i64 a0_4)) 7 rfl rfl (hon 14 (by kernel_rfl)) rfl
          replace ha:=Aside0.mk ha
          have BK458:=Aside0.mk Q_BK458
          have HB:=Aside0.mk Q_HB
          refine value_ (w1:=w') (v:=.int .u64 (IntKind.u64.wrap (a0_4))) (by rfl) rfl ?_ ?_
          ·go_simp
           (try simp only [i64_w])
           try rfl
          refine hK.out _ _ ⟨v462,v465,v469,m17_,m18_,m19_,m21_,(by rw [ha.out];exact putSel_upk 8 hb_ rfl rfl rfl),Q_BK458,Q_HB,Q_HO463,fun h0_=>absurd ((hoff 16 (by kernel_rfl)).symm.trans h0_) (by decide),fun h0_=>absurd ((hoff 17 (by kernel_rfl)).symm.trans h0_) (by decide),fun h0_=>absurd ((hoff 17 (by kernel_rfl)).symm.trans h0_) (by decide),fun h0_=>absurd ((hoff 18 (by kernel_rfl)).symm.trans h0_) (by decide),fun h0_=>absurd ((hoff 19 (by kernel_rfl)).symm.trans h0_) (by decide),fun h0_=>absurd ((hoff 21 (by kernel_rfl)).symm.trans h0_) (by decide)⟩
         refine steps_cons ?_ ?_
         ·rintro b a w' ⟨v462,v465,v469,m17_,m18_,m19_,m21_,ha,Q_BK458,Q_HB,Q_HO463,Q_HO466,Q_HO470,Q_X17_,Q_X18_,Q_X19_,Q_X21_⟩ hb_ hon hoff
          refine ⟨_,rfl,fun K hK=>?_⟩
          have e42:a.tmps[42]?=some (.int .u64 (IntKind.u64.wrap (a0_0))):=by rw [ha];exact putSel_on (e:=(4,42,.int .u64 (IntKind.u64.wrap (a0_0)))) 2 rfl rfl (hon 4 (by kernel_rfl)) rfl
          have e46:a.tmps[46]?=some (.int .u64 (IntKind.u64.wrap (a0_1))):=by rw [ha];exact putSel_on (e:=(8,46,.int .u64 (IntKind.u64.wrap (a0_1)))) 4 rfl rfl (hon 8 (by kernel_rfl)) rfl
          have e47:a.tmps[47]?=some (.int .u64 x5_19):=by rw [ha];exact (putSel_off rfl).trans rfl
          have e50:a.tmps[50]?=some (.int .u64 (IntKind.u64.wrap (a0_2))):=by rw [ha];exact putSel_on (e:=(12,50,.int .u64 (IntKind.u64.wrap (a0_2)))) 6 rfl rfl (hon 12 (by kernel_rfl)) rfl
          have e53:a.tmps[53]?=some (.int .u64 (IntKind.u64.wrap (a0_4))):=by rw [ha];exact putSel_on (e:=(15,53,.int .u64 (IntKind.u64.wrap (a0_4)))) 8 rfl rfl (hon 15 (by kernel_rfl)) rfl
          replace ha:=Aside0.mk ha
          have BK458:=Aside0.mk Q_BK458
          have HB:=Aside0.mk Q_HB
          refine Kd.R_lit_step (Kd.int .u64) _ 76 ?hg (N:=54) ?hd (xs:=([1397508432,IntKind.u64.wrap (a0_0),IntKind.u64.wrap (a0_1),x5_19,IntKind.u64.wrap (a0_2),IntKind.u64.wrap (a0_4)]:List Int)) (inner:=[.int .u64 1397508432,.int .u64 (IntKind.u64.wrap (a0_0)),.int .u64 (IntKind.u64.wrap (a0_1)),.int .u64 x5_19,.int .u64 (IntKind.u64.wrap (a0_2)),.int .u64 (IntKind.u64.wrap (a0_4))]) (ok:=fun _=>True) (okp:=fun _=>True) ?hr ?hp (fun _ hk=>hk) trivial (Below.refl _ _) (Nat.le_refl _) (by simp) ?_;(case hd=>rfl);(case hg=>rfl);(case hr=>first|(go_simp;done)|(go_simp;rfl));(case hp=>exact (Reps.one (show Kd.M (Kd.int .u64) _ _ _ 1397508432 [.int .u64 1397508432] from rfl) (Reps.one (show Kd.M (Kd.int .u64) _ _ _ (IntKind.u64.wrap (a0_0)) [.int .u64 (IntKind.u64.wrap (a0_0))] from rfl) (Reps.one (show Kd.M (Kd.int .u64) _ _ _ (IntKind.u64.wrap (a0_1)) [.int .u64 (IntKind.u64.wrap (a0_1))] from rfl) (Reps.one (show Kd.M (Kd.int .u64) _ _ _ x5_19 [.int .u64 x5_19] from rfl) (Reps.one (show Kd.M (Kd.int .u64) _ _ _ (IntKind.u64.wrap (a0_2)) [.int .u64 (IntKind.u64.wrap (a0_2))] from rfl) (Reps.one (show Kd.M (Kd.int .u64) _ _ _ (IntKind.u64.wrap (a0_4)) [.int .u64 (IntKind.u64.wrap (a0_4))] from rfl) (Reps.none _ _))))))))
          intro v465 w43 ho44 hb hg_ hnew_
          clear hg_ hnew_
          (first|rw [← Ny464.out] at ho44|(simp only [Int.reduceToNat] at ho44;rw [← Ny464.out] at ho44))
          have n0_:=Aside0.mk (Kd.R_lower ho44 (below_size (by repeat (first|(with_reducible first|exact HB.out|apply below_alloc|apply pw_below_drewN|apply below_drew1|refine below_set ?_ GE458.out)|exact HB.out))))
          have n1_:=Aside0.mk (blk_below (g:=gb458) (o:=.cells #[.int .i64 a0_0,.int .i64 a0_1,.int .i64 a0_2,.bool a0_3,.int .i64 a0_4] 63 (0,0)) (by (with_reducible repeat (first|refine blk_drewN ?_ _|refine blk_drew ?_|refine blk_alloc ?_ _));exact BK458.out) hb)
          have n2_:=Aside0.mk (below_step (by repeat (first|(with_reducible first|exact HB.out|apply below_alloc|apply pw_below_drewN|apply below_drew1|refine below_set ?_ GE458.out)|exact HB.out)) hb)
          have z_HO463:=fun (h0_:b 0=true)=>(show Kd.R (Kd.int .i64) 3 w43 w.heap.size (fun _=>True) v462 t461 from by first|exact (Kd.R_below (by (with_reducible repeat (first|apply Kd.R_alloc|apply Kd.R_drewN|apply Kd.R_drew));exact (Q_HO463 h0_)) hb)|exact Kd.R_mono (Kd.R_below (by (with_reducible repeat (first|apply Kd.R_alloc|apply Kd.R_drewN|apply Kd.R_drew));exact (Q_HO463 h0_)) hb) (fun _ h_=>by first|trivial|exact h_|exact h_.1))
          clear BK458 HB
          have HO466:=n0_
          have BK458:=n1_
          have HB:=n2_
          clear n0_ n1_ n2_ hb ho44
          refine hK.out _ _ ⟨v462,v465,v469,m17_,m18_,m19_,m21_,(by rw [ha.out];exact putSel_upk 9 hb_ rfl rfl rfl),(by (with_reducible repeat (first|refine blk_drewN ?_ _|refine blk_drew ?_|refine blk_alloc ?_ _));exact BK458.out),(by repeat (first|(with_reducible first|exact HB.out|apply below_alloc|apply pw_below_drewN|apply below_drew1|refine below_set ?_ GE458.out)|exact HB.out)),z_HO463,fun _=>(by (with_reducible repeat (first|apply Kd.R_alloc|apply Kd.R_drewN|apply Kd.R_drew));exact HO466.out),fun h0_=>absurd ((hoff 17 (by kernel_rfl)).symm.trans h0_) (by decide),fun h0_=>absurd ((hoff 17 (by kernel_rfl)).symm.trans h0_) (by decide),fun h0_=>absurd ((hoff 18 (by kernel_rfl)).symm.trans h0_) (by decide),fun h0_=>absurd ((hoff 19 (by kernel_rfl)).symm.trans h0_) (by decide),fun h0_=>absurd ((hoff 21 (by kernel_rfl)).symm.trans h0_) (by decide)⟩
         refine steps_cons ?_ ?_
         ·rintro b a w' ⟨v462,v465,v469,m17_,m18_,m19_,m21_,ha,Q_BK458,Q_HB,Q_HO463,Q_HO466,Q_HO470,Q_X17_,Q_X18_,Q_X19_,Q_X21_⟩ hb_ hon hoff
          refine ⟨_,rfl,fun K hK=>?_⟩
          have e38:a.tmps[38]?=some (v462):=by rw [ha];exact putSel_on (e:=(0,38,v462)) 0 rfl rfl (hon 0 (by kernel_rfl)) rfl
          have e54:a.tmps[54]?=some (v465):=by rw [ha];exact putSel_on (e:=(16,54,v465)) 9 rfl rfl (hon 16 (by kernel_rfl)) rfl
          replace ha:=Aside0.mk ha
          have BK458:=Aside0.mk Q_BK458
          have HB:=Aside0.mk Q_HB
          have HO463:=Aside0.mk (Q_HO463 (hon 0 (by kernel_rfl)))
          have HO466:=Aside0.mk (Q_HO466 (hon 16 (by kernel_rfl)))
          obtain ⟨Ao47,co47,eo47⟩:=Kd.R_slice HO463.out
          (first|subst eo47|(injection eo47 with f1_ f2_ f3_;have f4_:=f1_.symm;have f5_:=f3_.symm;clear f1_ f2_ f3_;subst f4_;subst f5_))
          obtain ⟨Ao48,co48,eo48⟩:=Kd.R_slice HO466.out
          (first|subst eo48|(injection eo48 with f1_ f2_ f3_;have f4_:=f1_.symm;have f5_:=f3_.symm;clear f1_ f2_ f3_;subst f4_;subst f5_))
          refine goes_ Try.func53 (by kernel_rfl) rfl #[.slice Ao47 t461.length co47,.slice Ao48 y464.length co48] (by rfl) rfl rfl (by first|(simp only [List.map_toArray,List.map_cons,List.map_nil,Act.eval,Array.getD_eq_getD_getElem?,Option.getD_some,e38,e54];done)|(simp only [List.map_toArray,List.map_cons,List.map_nil,Act.eval,Array.getD_eq_getD_getElem?,Option.getD_some,e38,e54];rfl)) ?_
          with_reducible refine (seal_Pack.calls kj19 _ _ t461 _ _ y464 t467 t468 _ ?side1 ?side2 ?side3 ?side4 A24.out).mono ?_
          (case side1=>repeat (first|exact (Kd.R_reads' HO463.out).2.2|(with_reducible refine Kd.C_alloc ?_ _)|(with_reducible refine Kd.C_drewN ?_ _)|(with_reducible refine Kd.C_drew ?_)))
          (case side2=>exact (Kd.R_reads' HO463.out).2.1)
          (case side3=>repeat (first|exact (Kd.R_reads' HO466.out).2.2|(with_reducible refine Kd.C_alloc ?_ _)|(with_reducible refine Kd.C_drewN ?_ _)|(with_reducible refine Kd.C_drew ?_)))
          (case side4=>exact (Kd.R_reads' HO466.out).2.1)
          rintro e w49 ⟨v469,rfl,ho0,hb⟩
          refine ⟨_,rfl,?_⟩
          have n0_:=Aside0.mk (Kd.R_below (by (with_reducible repeat (first|apply Kd.R_alloc|apply Kd.R_drewN|apply Kd.R_drew));exact HO463.out) hb)
          have n1_:=Aside0.mk (Kd.R_below (by (with_reducible repeat (first|apply Kd.R_alloc|apply Kd.R_drewN|apply Kd.R_drew));exact HO466.out) hb)
          have n2_:=Aside0.mk (Kd.R_lower ho0 (below_size (by repeat (first|(with_reducible first|exact HB.out|apply below_alloc|apply pw_below_drewN|apply below_drew1|refine below_set ?_ GE458.out)|exact HB.out))))
          have n3_:=Aside0.mk (blk_below (g:=gb458) (o:=.cells #[.int .i64 a0_0,.int .i64 a0_1,.int .i64 a0_2,.bool a0_3,.int .i64 a0_4] 63 (0,0)) (by (with_reducible repeat (first|refine blk_drewN ?_ _|refine blk_drew ?_|refine blk_alloc ?_ _));exact BK458.out) hb)
          have n4_:=Aside0.mk (below_step (by repeat (first|(with_reducible first|exact HB.out|apply below_alloc|apply pw_below_drewN|apply below_drew1|refine below_set ?_ GE458.out)|exact HB.out)) hb)
          clear HO463 HO466 BK458 HB
          have HO463:=n0_
          have HO466:=n1_
          have HO470:=n2_
          have BK458:=n3_
          have HB:=n4_
          clear n0_ n1_ n2_ n3_ n4_
          (try clear hb)
          (try clear hb2)
          (try clear hk)
          (try clear hi)
          (try clear ho0)
          refine hK.out _ _ ⟨.slice Ao47 t461.length co47,.slice Ao48 y464.length co48,v469,(.tuple #[v469,.int .i64 t468]),m18_,m19_,m21_,(by rw [ha.out];exact putSel_upk 10 hb_ rfl rfl rfl),(by (with_reducible repeat (first|refine blk_drewN ?_ _|refine blk_drew ?_|refine blk_alloc ?_ _));exact BK458.out),(by repeat (first|(with_reducible first|exact HB.out|apply below_alloc|apply pw_below_drewN|apply below_drew1|refine below_set ?_ GE458.out)|exact HB.out)),fun _=>(by (with_reducible repeat (first|apply Kd.R_alloc|apply Kd.R_drewN|apply Kd.R_drew));exact HO463.out),fun _=>(by (with_reducible repeat (first|apply Kd.R_alloc|apply Kd.R_drewN|apply Kd.R_drew));exact HO466.out),fun _=>(by (with_reducible repeat (first|apply Kd.R_alloc|apply Kd.R_drewN|apply Kd.R_drew));exact HO470.out),fun _=>rfl,fun h0_=>absurd ((hoff 18 (by kernel_rfl)).symm.trans h0_) (by decide),fun h0_=>absurd ((hoff 19 (by kernel_rfl)).symm.trans h0_) (by decide),fun h0_=>absurd ((hoff 21 (by kernel_rfl)).symm.trans h0_) (by decide)⟩
         refine steps_cons ?_ ?_
         ·rintro b a w' ⟨v462,v465,v469,m17_,m18_,m19_,m21_,ha,Q_BK458,Q_HB,Q_HO463,Q_HO466,Q_HO470,Q_X17_,Q_X18_,Q_X19_,Q_X21_⟩ hb_ hon hoff
          refine ⟨_,rfl,fun K hK=>?_⟩
          have e55:a.tmps[55]?=some (m17_):=by rw [ha];exact putSel_on (e:=(17,55,m17_)) 10 rfl rfl (hon 17 (by kernel_rfl)) rfl
          rw [Q_X17_ (hon 17 (by kernel_rfl))] at e55
          replace ha:=Aside0.mk ha
          have BK458:=Aside0.mk Q_BK458
          have HB:=Aside0.mk Q_HB
          have HO463:=Aside0.mk (Q_HO463 (hon 0 (by kernel_rfl)))
          have HO466:=Aside0.mk (Q_HO466 (hon 16 (by kernel_rfl)))
          have HO470:=Aside0.mk (Q_HO470 (hon 17 (by kernel_rfl)))
          refine value_ (w1:=w') (v:=.tuple #[v469,.int .i64 t468]) (by rfl) rfl ?_ ?_
          ·go_simp
           (try simp only [i64_w])
           try rfl
          refine hK.out _ _ ⟨v462,v465,v469,m17_,(.tuple #[v469,.int .i64 t468]),m19_,m21_,(by rw [ha.out];exact putSel_upk 11 hb_ rfl rfl rfl),Q_BK458,Q_HB,Q_HO463,Q_HO466,Q_HO470,Q_X17_,fun _=>rfl,fun h0_=>absurd ((hoff 19 (by kernel_rfl)).symm.trans h0_) (by decide),fun h0_=>absurd ((hoff 21 (by kernel_rfl)).symm.trans h0_) (by decide)⟩
         refine steps_cons ?_ ?_
         ·rintro b a w' ⟨v462,v465,v469,m17_,m18_,m19_,m21_,ha,Q_BK458,Q_HB,Q_HO463,Q_HO466,Q_HO470,Q_X17_,Q_X18_,Q_X19_,Q_X21_⟩ hb_ hon hoff
          refine ⟨_,rfl,fun K hK=>?_⟩
          have e37:a.tmps[37]?=some (m18_):=by rw [ha];exact putSel_on (e:=(18,37,m18_)) 11 rfl rfl (hon 18 (by kernel_rfl)) rfl
          rw [Q_X18_ (hon 18 (by kernel_rfl))] at e37
          replace ha:=Aside0.mk ha
          have BK458:=Aside0.mk Q_BK458
          have HB:=Aside0.mk Q_HB
          have HO463:=Aside0.mk (Q_HO463 (hon 0 (by kernel_rfl)))
          have HO466:=Aside0.mk (Q_HO466 (hon 16 (by kernel_rfl)))
          have HO470:=Aside0.mk (Q_HO470 (hon 17 (by kernel_rfl)))
          obtain ⟨Ao19_0,co19_0,eo_⟩:=Kd.R_slice HO470.out
          subst eo_
          refine value_ (w1:=w') (v:=.slice Ao19_0 t467.length co19_0) (by rfl) rfl ?_ ?_
          ·go_simp
           (try simp only [i64_w])
           try rfl
          refine hK.out _ _ ⟨v462,v465,.slice Ao19_0 t467.length co19_0,m17_,m18_,(.slice Ao19_0 t467.length co19_0),m21_,(by rw [ha.out];exact putSel_upk 12 hb_ rfl rfl rfl),Q_BK458,Q_HB,Q_HO463,Q_HO466,Q_HO470,Q_X17_,Q_X18_,fun _=>rfl,fun h0_=>absurd ((hoff 21 (by kernel_rfl)).symm.trans h0_) (by decide)⟩
         refine steps_cons ?_ ?_
         ·rintro b a w' ⟨v462,v465,v469,m17_,m18_,m19_,m21_,ha,Q_BK458,Q_HB,Q_HO463,Q_HO466,Q_HO470,Q_X17_,Q_X18_,Q_X19_,Q_X21_⟩ hb_ hon hoff
          refine ⟨_,rfl,fun K hK=>?_⟩
          have e37:a.tmps[37]?=some (m18_):=by rw [ha];exact putSel_on (e:=(18,37,m18_)) 11 rfl rfl (hon 18 (by kernel_rfl)) rfl
          rw [Q_X18_ (hon 18 (by kernel_rfl))] at e37
          replace ha:=Aside0.mk ha
          have BK458:=Aside0.mk Q_BK458
          have HB:=Aside0.mk Q_HB
          have HO463:=Aside0.mk (Q_HO463 (hon 0 (by kernel_rfl)))
          have HO466:=Aside0.mk (Q_HO466 (hon 16 (by kernel_rfl)))
          have HO470:=Aside0.mk (Q_HO470 (hon 17 (by kernel_rfl)))
          obtain ⟨Ao20_0,co20_0,eo_⟩:=Kd.R_slice HO470.out
          subst eo_
          refine value_ (w1:=w') (v:=.int .i64 t468) (by rfl) rfl ?_ ?_
          ·go_simp
           (try simp only [i64_w])
           try rfl
          refine hK.out _ _ ⟨v462,v465,.slice Ao20_0 t467.length co20_0,m17_,m18_,m19_,m21_,(by rw [ha.out];exact putSel_upk 13 hb_ rfl rfl rfl),Q_BK458,Q_HB,Q_HO463,Q_HO466,Q_HO470,Q_X17_,Q_X18_,Q_X19_,Q_X21_⟩
         refine steps_cons ?_ ?_
         ·rintro b a w' ⟨v462,v465,v469,m17_,m18_,m19_,m21_,ha,Q_BK458,Q_HB,Q_HO463,Q_HO466,Q_HO470,Q_X17_,Q_X18_,Q_X19_,Q_X21_⟩ hb_ hon hoff
          refine ⟨_,rfl,fun K hK=>?_⟩
          have e56:a.tmps[56]?=some (m19_):=by rw [ha];exact putSel_on (e:=(19,56,m19_)) 12 rfl rfl (hon 19 (by kernel_rfl)) rfl
          rw [Q_X19_ (hon 19 (by kernel_rfl))] at e56
          replace ha:=Aside0.mk ha
          have BK458:=Aside0.mk Q_BK458
          have HB:=Aside0.mk Q_HB
          have HO463:=Aside0.mk (Q_HO463 (hon 0 (by kernel_rfl)))
          have HO466:=Aside0.mk (Q_HO466 (hon 16 (by kernel_rfl)))
          have HO470:=Aside0.mk (Q_HO470 (hon 17 (by kernel_rfl)))
          refine value_ (w1:=w') (v:=v469) (by rfl) rfl ?_ ?_
          ·go_simp
           (try simp only [i64_w])
           try rfl
          refine hK.out _ _ ⟨v462,v465,v469,m17_,m18_,m19_,(v469),(by rw [ha.out];exact putSel_upk 14 hb_ rfl rfl rfl),Q_BK458,Q_HB,Q_HO463,Q_HO466,Q_HO470,Q_X17_,Q_X18_,Q_X19_,fun _=>rfl⟩
         refine steps_cons ?_ ?_
         ·rintro b a w' ⟨v462,v465,v469,m17_,m18_,m19_,m21_,ha,Q_BK458,Q_HB,Q_HO463,Q_HO466,Q_HO470,Q_X17_,Q_X18_,Q_X19_,Q_X21_⟩ hb_ hon hoff
          refine ⟨_,rfl,fun K hK=>?_⟩
          have e57:a.tmps[57]?=some (.int .i64 t468):=by rw [ha];exact putSel_on (e:=(20,57,.int .i64 t468)) 13 rfl rfl (hon 20 (by kernel_rfl)) rfl
          replace ha:=Aside0.mk ha
          have BK458:=Aside0.mk Q_BK458
          have HB:=Aside0.mk Q_HB
          have HO463:=Aside0.mk (Q_HO463 (hon 0 (by kernel_rfl)))
          have HO466:=Aside0.mk (Q_HO466 (hon 16 (by kernel_rfl)))
          have HO470:=Aside0.mk (Q_HO470 (hon 17 (by kernel_rfl)))
          refine value_ (w1:=w') (v:=.int .i64 t468) (by rfl) rfl ?_ ?_
          ·go_simp
           (try simp only [i64_w])
           try rfl
          refine hK.out _ _ ⟨v462,v465,v469,m17_,m18_,m19_,m21_,(by rw [ha.out];exact putSel_upk 15 hb_ rfl rfl rfl),Q_BK458,Q_HB,Q_HO463,Q_HO466,Q_HO470,Q_X17_,Q_X18_,Q_X19_,Q_X21_⟩
         exact steps_nil
        rintro b a w49 hall ⟨v462,v465,v469,m17_,m18_,m19_,m21_,ha,Q_BK458,Q_HB,Q_HO463,Q_HO466,Q_HO470,Q_X17_,Q_X18_,Q_X19_,Q_X21_⟩
        clear BK458 HB
        have hb0_:=hall 0 (by kernel_rfl)
        have hb3_:=hall 3 (by kernel_rfl)
        have hb4_:=hall 4 (by kernel_rfl)
        have hb7_:=hall 7 (by kernel_rfl)
        have hb8_:=hall 8 (by kernel_rfl)
        have hb11_:=hall 11 (by kernel_rfl)
        have hb12_:=hall 12 (by kernel_rfl)
        have hb14_:=hall 14 (by kernel_rfl)
        have hb15_:=hall 15 (by kernel_rfl)
        have hb16_:=hall 16 (by kernel_rfl)
        have hb17_:=hall 17 (by kernel_rfl)
        have hb18_:=hall 18 (by kernel_rfl)
        have hb19_:=hall 19 (by kernel_rfl)
        have hb20_:=hall 20 (by kernel_rfl)
        have hb21_:=hall 21 (by kernel_rfl)
        have hb22_:=hall 22 (by kernel_rfl)
        subst ha
        obtain rfl:=Q_X17_ hb17_
        obtain rfl:=Q_X18_ hb18_
        obtain rfl:=Q_X19_ hb19_
        obtain rfl:=Q_X21_ hb21_
        simp only [putSel,hb0_,hb3_,hb4_,hb7_,hb8_,hb11_,hb12_,hb14_,hb15_,hb16_,hb17_,hb18_,hb19_,hb20_,hb21_,hb22_,if_true,Act.put,List.setIfInBounds_toArray,List.set_cons_zero,List.set_cons_succ]
        have BK458:=Aside0.mk Q_BK458
        clear Q_BK458
        have HB:=Aside0.mk Q_HB
        clear Q_HB
        have HO463:=Aside0.mk (Q_HO463 hb0_)
        clear Q_HO463
        have HO466:=Aside0.mk (Q_HO466 hb16_)
        clear Q_HO466
        have HO470:=Aside0.mk (Q_HO470 hb17_)
        clear Q_HO470 hall hb0_ hb3_ hb4_ hb7_ hb8_ hb11_ hb12_ hb14_ hb15_ hb16_ hb17_ hb18_ hb19_ hb20_ hb21_ hb22_
        try go_wp2
        go_ret2
        exact ⟨_,by first|rfl|(simp [errW_none,errW_some] <;> rfl)|(simp [*,errW_none,errW_some] <;> rfl),by first|exact Kd.R_nil _ _ _ _ _|exact Kd.N_nil _ _ _ _ _|exact Kd.V_nil _ _ _ _ _|exact Kd.Q_nil _ _ _ _ _|exact Kd.S_nil _ _ _ _ _,by repeat (first|(with_reducible first|exact HB.out|apply below_alloc|apply pw_below_drewN|apply below_drew1|refine below_set ?_ GE458.out)|exact HB.out)⟩
 ·rw [if_neg c3] at H
  have c3b0:(t459 == 0)=false:=beq_eq_false_iff_ne.mpr c3
  have c3b1:(t459 != 0)=true:=bne_iff_ne.mpr c3
  simp only [Option.some.injEq,Prod.mk.injEq] at H
  obtain ⟨rfl,rfl⟩:=H
  go_enter Try.func40,Try.ntmps40
  go_wp2_with (first|((with_reducible refine gate_dst (N:=1) rfl ?_);refine box_event ?hg (N:=1) ?hd (cs:=#[.int .i64 a0_0,.int .i64 a0_1,.int .i64 a0_2,.bool a0_3,.int .i64 a0_4]) (t:=63) ?hr ?_;(case hd=>rfl);(case hg=>rfl);(case hr=>first|(go_simp;done)|(go_simp;rfl));intro gb458 hg w50 hbox hb;have n0_:=Aside0.mk (below_step (by repeat (first|(with_reducible first|exact HB.out|apply below_alloc|apply pw_below_drewN|apply below_drew1)|exact HB.out)) hb);have n1_:=Aside0.mk (hbox);have n2_:=Aside0.mk ((by rw [hg];exact (below_size (by repeat (first|(with_reducible first|exact HB.out|apply below_alloc|apply pw_below_drewN|apply below_drew1)|exact HB.out))):w.heap.size≤gb458));have n3_:=Aside0.mk ((by rw [hg];exact (below_size (by repeat (first|(with_reducible first|exact HB.out|apply below_alloc|apply pw_below_drewN|apply below_drew1)|exact HB.out))):w.heap.size≤gb458));clear HB;have HB:=n0_;have BK458:=n1_;have GW458:=n2_;have GE458:=n3_;clear n0_ n1_ n2_ n3_;clear hb hbox hg;have hcz51_0:w50.cell? ⟨gb458,0,none⟩=some (.int .i64 a0_0):=(blk_cell BK458.out 0).trans rfl;have hcz51_1:w50.cell? ⟨gb458,1,none⟩=some (.int .i64 a0_1):=(blk_cell BK458.out 1).trans rfl;have hcz51_2:w50.cell? ⟨gb458,2,none⟩=some (.int .i64 a0_2):=(blk_cell BK458.out 2).trans rfl;have hcz51_3:w50.cell? ⟨gb458,3,none⟩=some (.bool a0_3):=(blk_cell BK458.out 3).trans rfl;have hcz51_4:w50.cell? ⟨gb458,4,none⟩=some (.int .i64 a0_4):=(blk_cell BK458.out 4).trans rfl;have hfz51_0:=blk_frozen BK458.out 0;have hfz51_1:=blk_frozen BK458.out 1;have hfz51_2:=blk_frozen BK458.out 2;have hfz51_3:=blk_frozen BK458.out 3;have hfz51_4:=blk_frozen BK458.out 4)|((with_reducible refine gate_callee (f:=15) rfl ?_);refine goesL_ (some 10) rfl rfl Try.func15 (by kernel_rfl) rfl #[.agg #[.int .i64 a0_0,.int .i64 a0_1]] rfl (by (try simp only [List.map_toArray,List.map_cons,List.map_nil]);first|done|rfl|(simp only [List.length_drop,List.length_take];rfl)) ?_;(with_reducible refine (layout_Check.calls k a0_0 a0_1 t459 _ A2.out).mono ?_);rintro e w52 ⟨rfl,hb⟩;refine ⟨_,rfl,?_⟩;have n0_:=Aside0.mk (blk_below (g:=gb458) (o:=.cells #[.int .i64 a0_0,.int .i64 a0_1,.int .i64 a0_2,.bool a0_3,.int .i64 a0_4] 63 (0,0)) (by (with_reducible repeat (first|refine blk_drewN ?_ _|refine blk_drew ?_|refine blk_alloc ?_ _));exact BK458.out) hb);have n1_:=Aside0.mk (below_step (by repeat (first|(with_reducible first|exact HB.out|apply below_alloc|apply pw_below_drewN|apply below_drew1|refine below_set ?_ GE458.out)|exact HB.out)) hb);clear BK458 HB;have BK458:=n0_;have HB:=n1_;clear n0_ n1_;(try clear hb);(try clear hb2);(try clear hk);(try clear hi)))
  go_ret2
  exact ⟨_,by first|rfl|(simp [errW_none,errW_some] <;> rfl)|(simp [*,errW_none,errW_some] <;> rfl),by first|exact Kd.R_nil _ _ _ _ _|exact Kd.N_nil _ _ _ _ _|exact Kd.V_nil _ _ _ _ _|exact Kd.Q_nil _ _ _ _ _|exact Kd.S_nil _ _ _ _ _,by repeat (first|(with_reducible first|exact HB.out|apply below_alloc|apply pw_below_drewN|apply below_drew1|refine below_set ?_ GE458.out)|exact HB.out)⟩
end Go.Proofs.Ytbdnmdmfnopihaa.Print
end
section
namespace Go.Proofs.Ytbdnmdmfnopihaa.Print
open Go.RowKit Go.Proofs.YtbdnmdmfnopihaaW.PrintWords Go.Proofs.YtbdnmdmfnopihaaW.PrintLast Go.Proofs.YtbdnmdmfnopihaaW.PrintMore
attribute [local go_sem] max2_int min2_int max_two min_two max_three min_three max_four min_four   -- for this text's walks alone
attribute [local go_sem ↓] Go.Proofs.Ytbdnmdmfnopihaa.Sem.isSome_setCell
attribute [local go_sem] Go.Instr.field Go.asAgg
set_option linter.unusedVariables false
set_option linter.unusedSimpArgs false
def slipwayref11_superWidths.f :Option (List Int):=some (([32,32,16,8,32,64]:List Int))
set_option maxHeartbeats 8000000 in
set_option maxRecDepth 100000 in
theorem slipwayref11_superWidths.calls  (r:List Int) (w:World) (h:slipwayref11_superWidths.f =some r) :
  Calls Try.prog 56 #[] w fun e w'=>∃ v0_:Value,e=.returned (v0_)∧Kd.R (Kd.int .i64) 3 w' w.heap.size (fun _=>True) v0_ r∧Below w.heap.size w w':=by
 have HB:=Aside0.mk (Below.refl w.heap.size w)
 have H:(some (([32,32,16,8,32,64]:List Int)))=some r:=h
 clear h
 obtain ⟨y478,hy478⟩:∃ y_:List Int,y_=(([32,32,16,8,32,64]:List Int)):=⟨_,rfl⟩
 replace H:(some y478)=some r:=by first|(rw [hy478];with_reducible exact H)|(have H2_:=(Option.bind_some _ _).symm.trans H;rw [hy478];with_reducible exact H2_)|(have H2_:=(Option.bind_some _ _).symm.trans H;with_reducible exact H2_)|with_reducible exact H|(rw [hy478];exact H)|exact H
 have Ny478:=Aside0.mk hy478
 clear hy478
 obtain rfl:=Option.some.inj H
 go_enter Try.func56,Try.ntmps56
 go_wp2_with (first|((with_reducible refine gate_dst (N:=1) rfl ?_);refine Kd.R_lit (Kd.int .i64) _ 3 ?hg (N:=1) ?hd (xs:=([32,32,16,8,32,64]:List Int)) (inner:=[.int .i64 32,.int .i64 32,.int .i64 16,.int .i64 8,.int .i64 32,.int .i64 64]) (ok:=fun _=>True) (okp:=fun _=>True) ?hr ?hp (fun _ hk=>hk) trivial (Below.refl _ _) (Nat.le_refl _) (by simp) ?_;(case hd=>rfl);(case hg=>rfl);(case hr=>first|(go_simp;done)|(go_simp;rfl));(case hp=>exact (Reps.one (show Kd.M (Kd.int .i64) _ _ _ 32 [.int .i64 32] from rfl) (Reps.one (show Kd.M (Kd.int .i64) _ _ _ 32 [.int .i64 32] from rfl) (Reps.one (show Kd.M (Kd.int .i64) _ _ _ 16 [.int .i64 16] from rfl) (Reps.one (show Kd.M (Kd.int .i64) _ _ _ 8 [.int .i64 8] from rfl) (Reps.one (show Kd.M (Kd.int .i64) _ _ _ 32 [.int .i64 32] from rfl) (Reps.one (show Kd.M (Kd.int .i64) _ _ _ 64 [.int .i64 64] from rfl) (Reps.none _ _))))))));intro v479 w1 ho2 hb hg_ hnew_;clear hg_ hnew_;(first|rw [← Ny478.out] at ho2|(simp only [Int.reduceToNat] at ho2;rw [← Ny478.out] at ho2));have n0_:=Aside0.mk (Kd.R_lower ho2 (below_size (by repeat (first|(with_reducible first|exact HB.out|apply below_alloc|apply pw_below_drewN|apply below_drew1)|exact HB.out))));have n1_:=Aside0.mk (below_step (by repeat (first|(with_reducible first|exact HB.out|apply below_alloc|apply pw_below_drewN|apply below_drew1)|exact HB.out)) hb);clear HB;have HO480:=n0_;have HB:=n1_;clear n0_ n1_;clear hb ho2))
 go_ret
 exact ⟨_,by first|rfl|(simp [errW_none,errW_some] <;> rfl)|(simp [*,errW_none,errW_some] <;> rfl),by (with_reducible repeat (first|apply Kd.R_alloc|apply Kd.R_drewN|apply Kd.R_drew));exact HO480.out,by repeat (first|(with_reducible first|exact HB.out|apply below_alloc|apply pw_below_drewN|apply below_drew1)|exact HB.out)⟩
mutual
def slipwayref01_Zeros.l0:Nat → List Int → Int → Int → Option (Int)
 | 0,_,_,_=>none
 | k + 1,x0,x3,x4=>if x4 < (x0.length:Int) then (slipwayref01_Zeros.l1 k x0 x3 x4 0) else (some x3)
def slipwayref01_Zeros.l1:Nat → List Int → Int → Int → Int → Option (Int)
 | 0,_,_,_,_=>none
 | k + 1,x0,x3,x4,x5=>if x5 < 8 then (if 0≤x4 then (if x4 < (x0.length:Int) then (if 0≤(IntKind.u64.wrap (x5)) then (if (Go.bits .and .u8 (shr .u8 (rd x0 x4) (IntKind.u64.wrap (x5))) 1)=0 then (slipwayref01_Zeros.l1 k x0 (wrap64 (x3 + 1)) x4 (wrap64 (x5 + 1))) else (slipwayref01_Zeros.l1 k x0 x3 x4 (wrap64 (x5 + 1)))) else (none)) else (none)) else (none)) else (slipwayref01_Zeros.l0 k x0 x3 (wrap64 (x4 + 1)))
end
def slipwayref01_Zeros.f (k:Nat) (l0:List Int):Option (Int):=slipwayref01_Zeros.l0 k l0 0 0
set_option maxHeartbeats 8000000 in
set_option maxRecDepth 100000 in
theorem slipwayref01_Zeros.calls (k:Nat) (A0:Option Addr) (c0:Nat) (l0:List Int) (r:Int) (w:World) (hr0:Kd.C (Kd.int .u8) w A0 l0.length l0) (hc0:l0.length≤c0) (h:slipwayref01_Zeros.f k l0=some r) :
  Calls Try.prog 65 #[.slice A0 l0.length c0] w fun e w'=>e=.returned (.int .i64 r)∧Drawn0 w w':=by
 have HR0:=Aside0.mk hr0
 have HC0:=Aside0.mk hc0
 clear hr0 hc0
 have H:(slipwayref01_Zeros.l0 k l0 0 0)=some r:=h
 clear h
 have H':=Aside0.mk H
 clear H
 go_enter Try.func65,Try.ntmps65
 go_wp2
 go_loopg [3,4] k (fun kq v3 v4 w'=>∃ (x3_1:Int) (x4_1:Int),v3=.int .i64 x3_1∧v4=.int .i64 x4_1∧Aside0 (slipwayref01_Zeros.l0 kq l0 x3_1 x4_1=some r)∧Aside0 (kq≤k)∧Drawn0 w w')
 case atStart=>exact ⟨(0),(0),(by first|rfl|(simp;done)|(simp [*];done)),(by first|rfl|(simp;done)|(simp [*];done)),H',⟨Nat.le_refl _⟩,by repeat (first|exact Drawn0.refl _|apply Drawn0.step)⟩
 case round =>
  clear H'
  obtain ⟨x3_1,x4_1,rfl,rfl,HA,HK1,⟨m1,rfl⟩⟩:=hrel
  cases gk with
  | zero=>exact absurd HA.out (by simp [slipwayref01_Zeros.l0])
  | succ k1 =>
   have H:=HA.out
   clear HA
   simp only [slipwayref01_Zeros.l0] at H
   by_cases c2:x4_1 < (l0.length:Int)
   ·rw [if_pos c2] at H
    have c2b0:decide (x4_1 < (l0.length:Int))=true:=decide_eq_true c2
    clear c2
    have H':=Aside0.mk H
    clear H
    go_wp2
    go_loopg [3,5] k1 (fun kq v3 v5 w'=>∃ (x3_2:Int) (x5_2:Int),v3=.int .i64 x3_2∧v5=.int .i64 x5_2∧Aside0 (slipwayref01_Zeros.l1 kq l0 x3_2 x4_1 x5_2=some r)∧Aside0 (kq≤k1)∧Drawn0 w w')
    case atStart=>exact ⟨(x3_1),(0),(by first|rfl|(simp;done)|(simp [*];done)),(by first|rfl|(simp;done)|(simp [*];done)),H',⟨Nat.le_refl _⟩,by repeat (first|exact Drawn0.refl _|apply Drawn0.step)⟩
    case round =>
     clear H'
     try clear c2
     try clear c2b0
     try clear p2
     obtain ⟨x3_2,x5_2,rfl,rfl,HA,HK2,⟨m2,rfl⟩⟩:=hrel
     cases gk with
     | zero=>exact absurd HA.out (by simp [slipwayref01_Zeros.l1])
     | succ k2 =>
      have H:=HA.out
      clear HA
      simp only [slipwayref01_Zeros.l1] at H
      by_cases c3:x5_2 < 8
      ·rw [if_pos c3] at H
       have c3b0:decide (x5_2 < 8)=true:=decide_eq_true c3
       clear c3
       by_cases c4:0≤x4_1
       ·rw [if_pos c4] at H
        have c4b0:decide (0≤x4_1)=true:=decide_eq_true c4
        clear c4
        by_cases c5:x4_1 < (l0.length:Int)
        ·rw [if_pos c5] at H
         have c5b0:decide (x4_1 < (l0.length:Int))=true:=decide_eq_true c5
         clear c5
         obtain ⟨ji6,hji6⟩:∃ j_:Int,(IntKind.u64.wrap (x5_2))=j_:=⟨_,rfl⟩
         replace H:(if 0≤(ji6) then (if (Go.bits .and .u8 (shr .u8 (rd l0 x4_1) (ji6)) 1)=0 then (slipwayref01_Zeros.l1 k2 l0 (wrap64 (x3_2 + 1)) x4_1 (wrap64 (x5_2 + 1))) else (slipwayref01_Zeros.l1 k2 l0 x3_2 x4_1 (wrap64 (x5_2 + 1)))) else (none))=some r:=by first|(rw [hji6] at H;exact H)|(simp only [hji6] at H ⊢;exact H)
         by_cases c7:0≤(ji6)
         ·rw [if_pos c7] at H
          have c7b0:=eq_true c7
          have c7b1:decide (0≤(ji6))=true:=decide_eq_true c7
          clear c7
          obtain ⟨ji8,hji8⟩:∃ j_:Int,(shr .u8 (rd l0 x4_1) (ji6))=j_:=⟨_,rfl⟩
          replace H:(if (Go.bits .and .u8 (ji8) 1)=0 then (slipwayref01_Zeros.l1 k2 l0 (wrap64 (x3_2 + 1)) x4_1 (wrap64 (x5_2 + 1))) else (slipwayref01_Zeros.l1 k2 l0 x3_2 x4_1 (wrap64 (x5_2 + 1))))=some r:=by first|(rw [hji8] at H;exact H)|(simp only [hji8] at H ⊢;exact H)
          have hji8_:((rd l0 x4_1) / 2 ^ min (ji6).toNat 8)=ji8:=hji8
          have hji8z:(ji6)≤8 → ((rd l0 x4_1) / 2 ^ (ji6).toNat)=ji8:=shr_small hji8
          by_cases c9:(Go.bits .and .u8 (ji8) 1)=0
          ·rw [if_pos c9] at H
           have c9b0:((Go.bits .and .u8 (ji8) 1) == 0)=true:=beq_iff_eq.mpr c9
           have c9b1:((Go.bits .and .u8 (ji8) 1) != 0)=false:=bne_eq_false_iff_eq.mpr c9
           clear c9
           have H':=Aside0.mk H
           clear H
           have p481:0≤(x4_1:Int):=of_decide_eq_true (by first|(with_reducible assumption)|assumption)
           have q481:x4_1 < (l0.length:Int):=of_decide_eq_true (by first|(with_reducible assumption)|assumption)
           obtain ⟨ad481,e481,hx481_0⟩:=Kd.at_int HR0.out x4_1 p481 q481
           cases e481
           replace p481:=eq_true p481
           replace q481:=eq_true q481
           go_wp2
           go_roundg k2
           case measure=>have:=HK1.out;have:=HK2.out;omega
           case rel=>exact ⟨(wrap64 (x3_2 + 1)),(wrap64 (x5_2 + 1)),(by first|rfl|(simp;done)|(simp [*];done)),(by first|rfl|(simp;done)|(simp [*];done)),H',⟨by have:=HK1.out;have:=HK2.out;omega⟩,by repeat (first|exact Drawn0.refl _|apply Drawn0.step)⟩
          ·rw [if_neg c9] at H
           have c9b0:((Go.bits .and .u8 (ji8) 1) == 0)=false:=beq_eq_false_iff_ne.mpr c9
           have c9b1:((Go.bits .and .u8 (ji8) 1) != 0)=true:=bne_iff_ne.mpr c9
           have H':=Aside0.mk H
           clear H
           have p481:0≤(x4_1:Int):=of_decide_eq_true (by first|(with_reducible assumption)|assumption)
           have q481:x4_1 < (l0.length:Int):=of_decide_eq_true (by first|(with_reducible assumption)|assumption)
           obtain ⟨ad481,e481,hx481_0⟩:=Kd.at_int HR0.out x4_1 p481 q481
           cases e481
           replace p481:=eq_true p481
           replace q481:=eq_true q481
           go_wp2
           go_roundg k2
           case measure=>have:=HK1.out;have:=HK2.out;omega
           case rel=>exact ⟨(x3_2),(wrap64 (x5_2 + 1)),(by first|rfl|(simp;done)|(simp [*];done)),(by first|rfl|(simp;done)|(simp [*];done)),H',⟨by have:=HK1.out;have:=HK2.out;omega⟩,by repeat (first|exact Drawn0.refl _|apply Drawn0.step)⟩
         ·rw [if_neg c7] at H
          exact absurd H (by simp)
        ·rw [if_neg c5] at H
         exact absurd H (by simp)
       ·rw [if_neg c4] at H
        exact absurd H (by simp)
      ·rw [if_neg c3] at H
       have c3b0:decide (x5_2 < 8)=false:=decide_eq_false c3
       clear c3
       have H':=Aside0.mk H
       clear H
       go_wp2
       go_roundg k2
       case measure=>have:=HK1.out;have:=HK2.out;omega
       case rel=>exact ⟨(x3_2),(wrap64 (x4_1 + 1)),(by first|rfl|(simp;done)|(simp [*];done)),(by first|rfl|(simp;done)|(simp [*];done)),H',⟨by have:=HK1.out;have:=HK2.out;omega⟩,by repeat (first|exact Drawn0.refl _|apply Drawn0.step)⟩
   ·rw [if_neg c2] at H
    have c2b0:decide (x4_1 < (l0.length:Int))=false:=decide_eq_false c2
    clear c2
    obtain rfl:=Option.some.inj H
    go_wp2
    go_ret
    exact ⟨by first|rfl|(simp;done)|(simp [*];done),by repeat (first|exact Drawn0.refl _|apply Drawn0.step)⟩
def slipwayref01_Seal.f (k:Nat) (l0:List Int):Option (List Int × Int):=if (l0.length:Int) > 1048576 then (some (([]:List Int),3)) else ((slipwayref01_Zeros.f k l0).bind fun t482=>(if ([]:List Int).length + l0.length < 140737488355328 then ((some (([]:List Int) ++ l0:List Int)).bind fun y483=>((some (([(t482 / 16777216) % 256,(t482 / 65536) % 256,(t482 / 256) % 256,(t482) % 256]:List Int):List Int)).bind fun y486=>(if y483.length + y486.length < 140737488355328 then (some ((y483 ++ y486),0)) else (none)))) else (none)))
set_option maxHeartbeats 8000000 in
set_option maxRecDepth 100000 in
theorem slipwayref01_Seal.calls (k:Nat) (A0:Option Addr) (c0:Nat) (l0:List Int) (r1:List Int) (r2:Int) (w:World) (hr0:Kd.C (Kd.int .u8) w A0 l0.length l0) (hc0:l0.length≤c0) (h:slipwayref01_Seal.f k l0=some (r1,r2)) :
  Calls Try.prog 57 #[.slice A0 l0.length c0] w fun e w'=>∃ v0_:Value,e=.returned (.tuple #[v0_,.int .i64 r2])∧Kd.R (Kd.int .u8) 5 w' w.heap.size (fun _=>True) v0_ r1∧Below w.heap.size w w':=by
 have HR0:=Aside0.mk hr0
 have HC0:=Aside0.mk hc0
 clear hr0 hc0
 have HB:=Aside0.mk (Below.refl w.heap.size w)
 have H:(if (l0.length:Int) > 1048576 then (some (([]:List Int),3)) else ((slipwayref01_Zeros.f k l0).bind fun t482=>(if ([]:List Int).length + l0.length < 140737488355328 then ((some (([]:List Int) ++ l0:List Int)).bind fun y483=>((some (([(t482 / 16777216) % 256,(t482 / 65536) % 256,(t482 / 256) % 256,(t482) % 256]:List Int):List Int)).bind fun y486=>(if y483.length + y486.length < 140737488355328 then (some ((y483 ++ y486),0)) else (none)))) else (none))))=some (r1,r2):=h
 clear h
 by_cases c2:(l0.length:Int) > 1048576
 ·rw [if_pos c2] at H
  have c2b0:decide (1048576 < (l0.length:Int))=true:=decide_eq_true c2
  have c2b1:decide (1048576 < l0.length)=true:=decide_eq_true (by omega)
  clear c2
  simp only [Option.some.injEq,Prod.mk.injEq] at H
  obtain ⟨rfl,rfl⟩:=H
  go_enter Try.func57,Try.ntmps57
  go_wp2
  go_ret2
  exact ⟨_,by first|rfl|(simp [errW_none,errW_some] <;> rfl)|(simp [*,errW_none,errW_some] <;> rfl),by first|exact Kd.R_nil _ _ _ _ _|exact Kd.N_nil _ _ _ _ _|exact Kd.V_nil _ _ _ _ _|exact Kd.Q_nil _ _ _ _ _|exact Kd.S_nil _ _ _ _ _,by repeat (first|(with_reducible first|exact HB.out|apply below_alloc|apply pw_below_drewN|apply below_drew1)|exact HB.out)⟩
 ·rw [if_neg c2] at H
  have c2b0:decide (1048576 < (l0.length:Int))=false:=decide_eq_false c2
  have c2b1:decide (1048576 < l0.length)=false:=decide_eq_false (by omega)
  clear c2
  replace H:=Option.bind_eq_some_iff.mp H
  obtain ⟨t482,A30,H⟩:=H
  replace H:(if ([]:List Int).length + l0.length < 140737488355328 then ((some (([]:List Int) ++ l0:List Int)).bind fun y483=>((some (([(t482 / 16777216) % 256,(t482 / 65536) % 256,(t482 / 256) % 256,(t482) % 256]:List Int):List Int)).bind fun y486=>(if y483.length + y486.length < 140737488355328 then (some ((y483 ++ y486),0)) else (none)))) else (none))=some (r1,r2):=H
  have A3:=Aside0.mk A30
  clear A30
  by_cases c4:([]:List Int).length + l0.length < 140737488355328
  ·rw [if_pos c4] at H
   have LMc4:=Aside0.mk c4
   clear c4
   obtain ⟨y483,hy483⟩:∃ y_:List Int,y_=(([]:List Int) ++ l0):=⟨_,rfl⟩
   replace H:((some (([(t482 / 16777216) % 256,(t482 / 65536) % 256,(t482 / 256) % 256,(t482) % 256]:List Int):List Int)).bind fun y486=>(if y483.length + y486.length < 140737488355328 then (some ((y483 ++ y486),0)) else (none)))=some (r1,r2):=by first|(rw [hy483];with_reducible exact H)|(have H2_:=(Option.bind_some _ _).symm.trans H;rw [hy483];with_reducible exact H2_)|(have H2_:=(Option.bind_some _ _).symm.trans H;with_reducible exact H2_)|with_reducible exact H|(rw [hy483];exact H)|exact H
   have Ny483:=Aside0.mk hy483
   clear hy483
   obtain ⟨y486,hy486⟩:∃ y_:List Int,y_=(([(t482 / 16777216) % 256,(t482 / 65536) % 256,(t482 / 256) % 256,(t482) % 256]:List Int)):=⟨_,rfl⟩
   replace H:(if y483.length + y486.length < 140737488355328 then (some ((y483 ++ y486),0)) else (none))=some (r1,r2):=by first|(rw [hy486];with_reducible exact H)|(have H2_:=(Option.bind_some _ _).symm.trans H;rw [hy486];with_reducible exact H2_)|(have H2_:=(Option.bind_some _ _).symm.trans H;with_reducible exact H2_)|with_reducible exact H|(rw [hy486];exact H)|exact H
   have Ny486:=Aside0.mk hy486
   clear hy486
   by_cases c5:y483.length + y486.length < 140737488355328
   ·rw [if_pos c5] at H
    have LMc5:=Aside0.mk c5
    clear c5
    obtain ⟨y489,hy489⟩:∃ y_:List Int,y_=(y483 ++ y486):=⟨_,rfl⟩
    replace H:(some (y489,0))=some (r1,r2):=by first|(rw [hy489];with_reducible exact H)|(have H2_:=(Option.bind_some _ _).symm.trans H;rw [hy489];with_reducible exact H2_)|(have H2_:=(Option.bind_some _ _).symm.trans H;with_reducible exact H2_)|with_reducible exact H|(rw [hy489];exact H)|exact H
    have Ny489:=Aside0.mk hy489
    clear hy489
    simp only [Option.some.injEq,Prod.mk.injEq] at H
    obtain ⟨rfl,rfl⟩:=H
    go_enter Try.func57,Try.ntmps57
    go_wp2_with (first|((with_reducible refine gate_callee (f:=65) rfl ?_);refine goesL_ (some 10) rfl rfl Try.func65 (by kernel_rfl) rfl #[.slice A0 l0.length c0] rfl (by (try simp only [List.map_toArray,List.map_cons,List.map_nil]);first|done|rfl|(simp only [List.length_drop,List.length_take];rfl)) ?_;(with_reducible refine (slipwayref01_Zeros.calls k _ _ l0 t482 _ ?side1 ?side2 A3.out).mono ?_);(case side1=>repeat (first|exact HR0.out|(with_reducible refine Kd.C_alloc ?_ _)|(with_reducible refine Kd.C_drewN ?_ _)|(with_reducible refine Kd.C_drew ?_)));(case side2=>exact HC0.out);rintro e w' ⟨rfl,⟨nd,rfl⟩⟩;refine ⟨_,rfl,?_⟩)|((with_reducible refine gate_builtin (b:=.append) (xs:=#[.tmp 11,.tmp 12]) rfl ?_);at_builtin;refine Kd.R_append_rows (Kd.int .u8) (w0:=w) w.heap.size rfl (.tmp 11) (.tmp 12) 48 5 (.int .u8 0) 1 rfl Try.underlying48 info5 rfl (by decide) (by omega) (.slice none 0 0) ([]:List Int) l0 _ _ _ (fun _=>True) (fun _=>False) rfl rfl ?aO ?aR (fun _ _ h=>h) (fun _ h=>h.elim) ?aF ?aB ?aS ?aL ?_;(case aR=>repeat (first|exact HR0.out|(with_reducible refine Kd.C_alloc ?_ _)|(with_reducible refine Kd.C_drewN ?_ _)|(with_reducible refine Kd.C_drew ?_)));(case aB=>exact (by repeat (first|(with_reducible first|exact HB.out|apply below_alloc|apply pw_below_drewN|apply below_drew1)|exact HB.out)));(case aF=>exact (fun _ _=>trivial));(case aO=>exact ((Kd.R_nil _ _ _ _ (fun _=>True))));(case aS=>exact (below_size (by repeat (first|(with_reducible first|exact HB.out|apply below_alloc|apply pw_below_drewN|apply below_drew1)|exact HB.out))));(case aL=>have:=LMc4.out;omega);intro v484 w6 ho hb hg hat;rw [← Ny483.out] at ho;have n0_:=Aside0.mk (hb);have n1_:=Aside0.mk (ho);clear HB;have HB:=n0_;have HO485:=n1_;clear n0_ n1_;clear ho hb hg hat)|((with_reducible refine gate_dst (N:=26) rfl ?_);refine Kd.R_lit (Kd.int .u8) _ 5 ?hg (N:=26) ?hd (xs:=([(t482 / 16777216) % 256,(t482 / 65536) % 256,(t482 / 256) % 256,(t482) % 256]:List Int)) (inner:=[.int .u8 ((t482 / 16777216) % 256),.int .u8 ((t482 / 65536) % 256),.int .u8 ((t482 / 256) % 256),.int .u8 ((t482) % 256)]) (ok:=fun _=>True) (okp:=fun _=>True) ?hr ?hp (fun _ hk=>hk) trivial (Below.refl _ _) (Nat.le_refl _) (by simp) ?_;(case hd=>rfl);(case hg=>rfl);(case hr=>first|(go_simp;done)|(go_simp;rfl));(case hp=>exact (Reps.one (show Kd.M (Kd.int .u8) _ _ _ ((t482 / 16777216) % 256) [.int .u8 ((t482 / 16777216) % 256)] from rfl) (Reps.one (show Kd.M (Kd.int .u8) _ _ _ ((t482 / 65536) % 256) [.int .u8 ((t482 / 65536) % 256)] from rfl) (Reps.one (show Kd.M (Kd.int .u8) _ _ _ ((t482 / 256) % 256) [.int .u8 ((t482 / 256) % 256)] from rfl) (Reps.one (show Kd.M (Kd.int .u8) _ _ _ ((t482) % 256) [.int .u8 ((t482) % 256)] from rfl) (Reps.none _ _))))));intro v487 w7 ho8 hb hg_ hnew_;clear hg_ hnew_;(first|rw [← Ny486.out] at ho8|(simp only [Int.reduceToNat] at ho8;rw [← Ny486.out] at ho8));have n0_:=Aside0.mk (Kd.R_elder' (by (with_reducible repeat (first|apply Kd.R_alloc|apply Kd.R_drewN|apply Kd.R_drew));exact HO485.out) (Kd.R_base ho8) hb);have n1_:=Aside0.mk (Kd.R_lower (Kd.R_new' ho8 (Kd.R_lt (by (with_reducible repeat (first|apply Kd.R_alloc|apply Kd.R_drewN|apply Kd.R_drew));exact HO485.out))) (below_size (by repeat (first|(with_reducible first|exact HB.out|apply below_alloc|apply pw_below_drewN|apply below_drew1)|exact HB.out))));have n2_:=Aside0.mk (below_step (by repeat (first|(with_reducible first|exact HB.out|apply below_alloc|apply pw_below_drewN|apply below_drew1)|exact HB.out)) hb);clear HO485 HB;have HO485:=n0_;have HO488:=n1_;have HB:=n2_;clear n0_ n1_ n2_;clear hb ho8;obtain ⟨Ao10,co10,eo10⟩:=Kd.R_slice HO488.out;subst eo10)|((with_reducible refine gate_builtin (b:=.append) (xs:=#[.tmp 14,.tmp 26]) rfl ?_);at_builtin;refine Kd.R_append_rows (Kd.int .u8) (w0:=w) w.heap.size rfl (.tmp 14) (.tmp 26) 48 5 (.int .u8 0) 1 rfl Try.underlying48 info5 rfl (by decide) (by omega) v484 y483 y486 _ _ _ (fun k_=>some k_≠(.slice Ao10 y486.length co10:Value).ownBlock) (fun _=>False) rfl rfl ?aO ?aR (fun _ _ h=>h) (fun _ h=>h.elim) ?aF ?aB ?aS ?aL ?_;(case aR=>repeat (first|exact (Kd.R_reads' HO488.out).2.2|(with_reducible refine Kd.C_alloc ?_ _)|(with_reducible refine Kd.C_drewN ?_ _)|(with_reducible refine Kd.C_drew ?_)));(case aB=>exact (by repeat (first|(with_reducible first|exact HB.out|apply below_alloc|apply pw_below_drewN|apply below_drew1)|exact HB.out)));(case aF=>exact (fun k_ hk=>Kd.fresh' (Kd.R_lt (by (with_reducible repeat (first|apply Kd.R_alloc|apply Kd.R_drewN|apply Kd.R_drew));exact HO488.out)) k_ hk));(case aO=>exact (by (with_reducible repeat (first|apply Kd.R_alloc|apply Kd.R_drewN|apply Kd.R_drew));exact Kd.R_mono HO485.out (fun _ hk=>hk.2)));(case aS=>exact (below_size (by repeat (first|(with_reducible first|exact HB.out|apply below_alloc|apply pw_below_drewN|apply below_drew1)|exact HB.out))));(case aL=>have:=LMc5.out;omega);intro v490 w9 ho hb hg hat;rw [← Ny489.out] at ho;have n0_:=Aside0.mk (Kd.R_after (ok:=(fun _=>True)) (by (with_reducible repeat (first|apply Kd.R_alloc|apply Kd.R_drewN|apply Kd.R_drew));exact HO488.out) hg hat);have n1_:=Aside0.mk (hb);have n2_:=Aside0.mk (ho);clear HO488 HB HO485;have HO488:=n0_;have HB:=n1_;have HO491:=n2_;clear n0_ n1_ n2_;clear ho hb hg hat))
    go_ret2
    exact ⟨_,by first|rfl|(simp [errW_none,errW_some] <;> rfl)|(simp [*,errW_none,errW_some] <;> rfl),by (with_reducible repeat (first|apply Kd.R_alloc|apply Kd.R_drewN|apply Kd.R_drew));exact Kd.R_mono HO491.out (fun _ hk=>trivial),by repeat (first|(with_reducible first|exact HB.out|apply below_alloc|apply pw_below_drewN|apply below_drew1)|exact HB.out)⟩
   ·rw [if_neg c5] at H
    exact absurd H (by simp)
  ·rw [if_neg c4] at H
   exact absurd H (by simp)
end Go.Proofs.Ytbdnmdmfnopihaa.Print
end
section
namespace Go.Proofs.Ytbdnmdmfnopihaa.Print
open Go.RowKit Go.Proofs.YtbdnmdmfnopihaaW.PrintWords Go.Proofs.YtbdnmdmfnopihaaW.PrintLast Go.Proofs.YtbdnmdmfnopihaaW.PrintMore
attribute [local go_sem] max2_int min2_int max_two min_two max_three min_three max_four min_four   -- for this text's walks alone
attribute [local go_sem ↓] Go.Proofs.Ytbdnmdmfnopihaa.Sem.isSome_setCell
attribute [local go_sem] Go.Instr.field Go.asAgg
set_option linter.unusedVariables false
set_option linter.unusedSimpArgs false
set_option maxRecDepth 100000
mutual
def slipwayref11_EncodeSuper.j0:Nat → Bool → Int → Int → Int → Bool → Int → Option (List Int × Int)
 | 0,_,_,_,_,_,_=>none
 | k + 1,x34,x493000,x493001,x493002,x493003,x493004=>if x34=true then (some (([]:List Int),1)) else (if x493003=true then (slipwayref11_EncodeSuper.j1 k 1 x493000 x493001 x493002 x493003 x493004) else (slipwayref11_EncodeSuper.j1 k 0 x493000 x493001 x493002 x493003 x493004))
def slipwayref11_EncodeSuper.j1:Nat → Int → Int → Int → Int → Bool → Int → Option (List Int × Int)
 | 0,_,_,_,_,_,_=>none
 | k + 1,x5,x493000,x493001,x493002,x493003,x493004=>(slipwayref11_superWidths.f).bind fun t495=>((slipwayref01_Pack.f k t495 (([1397508432,IntKind.u64.wrap (x493000),IntKind.u64.wrap (x493001),x5,IntKind.u64.wrap (x493002),IntKind.u64.wrap (x493004)]:List Int))).bind fun bt501=>(slipwayref11_EncodeSuper.l0 k bt501.1))
def slipwayref11_EncodeSuper.l0:Nat → List Int → Option (List Int × Int)
 | 0,_=>none
 | k + 1,x6=>if (x6.length:Int) < 252 then (if x6.length < 140737488355328 then (slipwayref11_EncodeSuper.l0 k (x6 ++ [0])) else (none)) else ((slipwayref01_Seal.f k x6).bind fun bt508=>(some (bt508.1,bt508.2)))
end
def slipwayref11_EncodeSuper.f (k:Nat) (a0_0:Int) (a0_1:Int) (a0_2:Int) (a0_3:Bool) (a0_4:Int):Option (List Int × Int):=(slipwayref11_Check.f k a0_0 a0_1).bind fun t493=>(if t493=0 then (if a0_2 < 0 then (slipwayref11_EncodeSuper.j0 k true a0_0 a0_1 a0_2 a0_3 a0_4) else ((slipwayref11_Inodes.f k a0_0 a0_1).bind fun t494=>(if a0_2 > t494 then (slipwayref11_EncodeSuper.j0 k true a0_0 a0_1 a0_2 a0_3 a0_4) else (if a0_4 < 0 then (slipwayref11_EncodeSuper.j0 k true a0_0 a0_1 a0_2 a0_3 a0_4) else (slipwayref11_EncodeSuper.j0 k (decide (a0_4 > 1152921504606846976)) a0_0 a0_1 a0_2 a0_3 a0_4))))) else (some (([]:List Int),t493)))
def slipwayref11_EncodeSuper.T4:Bool × List (List Nat × List Nat):=(true,[([],[]),([0],[0]),([1],[1]),([2],[2]),([3],[3]),([4,3],[3,4]),([3],[3]),([6,3],[3,6]),([7,3,3],[3,7]),([5,8,3],[3,5,8]),([3,9],[3,9]),([10,8],[10]),([11],[11]),([12,11],[11,12]),([13,11],[11,13]),([11,14],[11,14]),([15,11],[15]),([16],[16]),([17,16],[16,17]),([18,16],[16,18]),([16,19],[16,19])])
def slipwayref11_EncodeSuper.B4:List Nat:=[0,1,3,7,15,31,15,79,207,511,1023,2047,4095,8191,16383,32767,65535,131071,262143,524287,1048575]
theorem slipwayref11_EncodeSuper.tab4:rtab .any (opsOf Try.f41 4)=slipwayref11_EncodeSuper.T4:=by kernel_rfl
theorem slipwayref11_EncodeSuper.bits4:waitsOk slipwayref11_EncodeSuper.T4.2 slipwayref11_EncodeSuper.B4=true:=by kernel_rfl
def slipwayref11_EncodeSuper.T9:Bool × List (List Nat × List Nat):=(true,[([],[]),([],[]),([1],[1]),([2],[2]),([3],[3]),([],[]),([5],[5]),([6],[6]),([7],[7]),([],[]),([],[]),([10],[10]),([11],[11]),([],[]),([13],[13]),([14],[14]),([4,8,9,12,15],[4,8,9,12,15]),([0,16,0],[0,16]),([17],[17]),([18],[18]),([18],[18]),([19,17,0,1,2,3,4,5,6,7,8,9,10,11,12,13,14,15,16,17,18,19],[19]),([20,21,0,1,2,3,4,5,6,7,8,9,10,11,12,13,14,15,16,17,18,19,20,21],[20])])
def slipwayref11_EncodeSuper.B9:List Nat:=[0,0,2,6,14,0,32,96,224,0,0,1024,3072,0,8192,24576,65534,131071,262143,524287,524287,1048575,4194303]
theorem slipwayref11_EncodeSuper.tab9:rtab .any (opsOf Try.f41 9)=slipwayref11_EncodeSuper.T9:=by kernel_rfl
theorem slipwayref11_EncodeSuper.bits9:waitsOk slipwayref11_EncodeSuper.T9.2 slipwayref11_EncodeSuper.B9=true:=by kernel_rfl
set_option maxHeartbeats 8000000 in
set_option maxRecDepth 100000 in
theorem slipwayref11_EncodeSuper.calls (k:Nat) (a0_0:Int) (a0_1:Int) (a0_2:Int) (a0_3:Bool) (a0_4:Int) (r1:List Int) (r2:Int) (w:World) (h:slipwayref11_EncodeSuper.f k a0_0 a0_1 a0_2 a0_3 a0_4=some (r1,r2)) :
  Calls Try.prog 41 #[.agg #[.int .i64 a0_0,.int .i64 a0_1,.int .i64 a0_2,.bool a0_3,.int .i64 a0_4]] w fun e w'=>∃ v0_:Value,e=.returned (.tuple #[v0_,.int .i64 r2])∧Kd.R (Kd.int .u8) 5 w' w.heap.size (fun _=>True) v0_ r1∧Below w.heap.size w w':=by
 have hu63:=Try.underlying63
 have hu24:=Try.underlying24
 have HB:=Aside0.mk (Below.refl w.heap.size w)
 have H:((slipwayref11_Check.f k a0_0 a0_1).bind fun t493=>(if t493=0 then (if a0_2 < 0 then (slipwayref11_EncodeSuper.j0 k true a0_0 a0_1 a0_2 a0_3 a0_4) else ((slipwayref11_Inodes.f k a0_0 a0_1).bind fun t494=>(if a0_2 > t494 then (slipwayref11_EncodeSuper.j0 k true a0_0 a0_1 a0_2 a0_3 a0_4) else (if a0_4 < 0 then (slipwayref11_EncodeSuper.j0 k true a0_0 a0_1 a0_2 a0_3 a0_4) else (slipwayref11_EncodeSuper.j0 k (decide (a0_4 > 1152921504606846976)) a0_0 a0_1 a0_2 a0_3 a0_4))))) else (some (([]:List Int),t493))))=some (r1,r2):=h
 clear h
 replace H:=Option.bind_eq_some_iff.mp H
 obtain ⟨t493,A20,H⟩:=H
 replace H:(if t493=0 then (if a0_2 < 0 then (slipwayref11_EncodeSuper.j0 k true a0_0 a0_1 a0_2 a0_3 a0_4) else ((slipwayref11_Inodes.f k a0_0 a0_1).bind fun t494=>(if a0_2 > t494 then (slipwayref11_EncodeSuper.j0 k true a0_0 a0_1 a0_2 a0_3 a0_4) else (if a0_4 < 0 then (slipwayref11_EncodeSuper.j0 k true a0_0 a0_1 a0_2 a0_3 a0_4) else (slipwayref11_EncodeSuper.j0 k (decide (a0_4 > 1152921504606846976)) a0_0 a0_1 a0_2 a0_3 a0_4))))) else (some (([]:List Int),t493)))=some (r1,r2):=H
 have A2:=Aside0.mk A20
 clear A20
 by_cases c3:t493=0
 ·rw [if_pos c3] at H
  have c3b0:(t493 == 0)=true:=beq_iff_eq.mpr c3
  have c3b1:(t493 != 0)=false:=bne_eq_false_iff_eq.mpr c3
  clear c3
  have HC4:=Aside0.mk H
  clear H
  go_enter Try.func41,Try.ntmps41
  go_upto_region 4 with (first|((with_reducible refine gate_dst (N:=1) rfl ?_);refine box_event ?hg (N:=1) ?hd (cs:=#[.int .i64 a0_0,.int .i64 a0_1,.int .i64 a0_2,.bool a0_3,.int .i64 a0_4]) (t:=63) ?hr ?_;(case hd=>rfl);(case hg=>rfl);(case hr=>first|(go_simp;done)|(go_simp;rfl));intro gb492 hg w5 hbox hb;have n0_:=Aside0.mk (below_step (by repeat (first|(with_reducible first|exact HB.out|apply below_alloc|apply pw_below_drewN|apply below_drew1)|exact HB.out)) hb);have n1_:=Aside0.mk (hbox);have n2_:=Aside0.mk ((by rw [hg];exact (below_size (by repeat (first|(with_reducible first|exact HB.out|apply below_alloc|apply pw_below_drewN|apply below_drew1)|exact HB.out))):w.heap.size≤gb492));have n3_:=Aside0.mk ((by rw [hg];exact (below_size (by repeat (first|(with_reducible first|exact HB.out|apply below_alloc|apply pw_below_drewN|apply below_drew1)|exact HB.out))):w.heap.size≤gb492));clear HB;have HB:=n0_;have BK492:=n1_;have GW492:=n2_;have GE492:=n3_;clear n0_ n1_ n2_ n3_;clear hb hbox hg;have hcz6_0:w5.cell? ⟨gb492,0,none⟩=some (.int .i64 a0_0):=(blk_cell BK492.out 0).trans rfl;have hcz6_1:w5.cell? ⟨gb492,1,none⟩=some (.int .i64 a0_1):=(blk_cell BK492.out 1).trans rfl;have hcz6_2:w5.cell? ⟨gb492,2,none⟩=some (.int .i64 a0_2):=(blk_cell BK492.out 2).trans rfl;have hcz6_3:w5.cell? ⟨gb492,3,none⟩=some (.bool a0_3):=(blk_cell BK492.out 3).trans rfl;have hcz6_4:w5.cell? ⟨gb492,4,none⟩=some (.int .i64 a0_4):=(blk_cell BK492.out 4).trans rfl;have hfz6_0:=blk_frozen BK492.out 0;have hfz6_1:=blk_frozen BK492.out 1;have hfz6_2:=blk_frozen BK492.out 2;have hfz6_3:=blk_frozen BK492.out 3;have hfz6_4:=blk_frozen BK492.out 4)|((with_reducible refine gate_callee (f:=16) rfl ?_);refine goesL_ (some 10) rfl rfl Try.func16 (by kernel_rfl) rfl #[.agg #[.int .i64 a0_0,.int .i64 a0_1]] rfl (by (try simp only [List.map_toArray,List.map_cons,List.map_nil]);first|done|rfl|(simp only [List.length_drop,List.length_take];rfl)) ?_;(with_reducible refine (slipwayref11_Check.calls k a0_0 a0_1 t493 _ A2.out).mono ?_);rintro e w7 ⟨rfl,hb⟩;refine ⟨_,rfl,?_⟩;have n0_:=Aside0.mk (blk_below (g:=gb492) (o:=.cells #[.int .i64 a0_0,.int .i64 a0_1,.int .i64 a0_2,.bool a0_3,.int .i64 a0_4] 63 (0,0)) (by (with_reducible repeat (first|refine blk_drewN ?_ _|refine blk_drew ?_|refine blk_alloc ?_ _));exact BK492.out) hb);have n1_:=Aside0.mk (below_step (by repeat (first|(with_reducible first|exact HB.out|apply below_alloc|apply pw_below_drewN|apply below_drew1|refine below_set ?_ GE492.out)|exact HB.out)) hb);clear BK492 HB;have BK492:=n0_;have HB:=n1_;clear n0_ n1_;(try clear hb);(try clear hb2);(try clear hk);(try clear hi)))
  (try simp only [Act.put,List.setIfInBounds_toArray,List.set_cons_zero,List.set_cons_succ])
  go_cut [34] (fun v34 wc=>∃ (kq:Nat) (x34_3:Bool),v34=.bool x34_3∧Aside0 (slipwayref11_EncodeSuper.j0 kq x34_3 a0_0 a0_1 a0_2 a0_3 a0_4=some (r1,r2))∧Aside0 (kq≤k)∧Aside0 (wc.heap[gb492]?=some (.cells #[.int .i64 a0_0,.int .i64 a0_1,.int .i64 a0_2,.bool a0_3,.int .i64 a0_4] 63 (0,0)))∧Aside0 (Below w.heap.size w wc))
  case first =>
   have H:=HC4.out
   clear HC4
   by_cases c8:a0_2 < 0
   ·rw [if_pos c8] at H
    have c8b0:decide (a0_2 < 0)=true:=decide_eq_true c8
    clear c8
    (first|rw [c8b0]|(simp only [i64_w,i32_w];rw [c8b0])|skip)
    have H':=Aside0.mk H
    clear H
    try go_wp2
    have n0_:=Aside0.mk (blk_drew BK492.out)
    have n1_:=Aside0.mk (below_drew1 HB.out)
    clear BK492 HB
    have BK492:=n0_
    have HB:=n1_
    clear n0_ n1_
    refine start_ (n:=21) (S:=fun w'=>w'.cell? ⟨gb492,0,none⟩=some (.int .i64 a0_0)∧w'.cell? ⟨gb492,1,none⟩=some (.int .i64 a0_1)∧w'.cell? ⟨gb492,2,none⟩=some (.int .i64 a0_2)∧w'.cell? ⟨gb492,3,none⟩=some (.bool a0_3)∧w'.cell? ⟨gb492,4,none⟩=some (.int .i64 a0_4)) (ds:=[]) #[false,false,false,false,false,false,false,false,false,false,false,false,false,false,false,false,false,false,false,false,false] (by kernel_rfl) rfl rfl ⟨(blk_cell BK492.out 0).trans rfl,(blk_cell BK492.out 1).trans rfl,(blk_cell BK492.out 2).trans rfl,(blk_cell BK492.out 3).trans rfl,(blk_cell BK492.out 4).trans rfl⟩ (fun hHeld=>?_);refine with_tabW slipwayref11_EncodeSuper.tab4 slipwayref11_EncodeSuper.bits4 (fun HT_ HW_=>?_)
    generalize w7.drew=w9 at BK492 HB hHeld ⊢
    refine pure_ (i:=0) (N:=some 14) (v:=?_) (a':=?_) #[true,false,false,false,false,false,false,false,false,false,false,false,false,false,false,false,false,false,false,false,false] rfl rfl (any_of HT_.out (by kernel_rfl)) (fun _ _ _ h=>h) (Or.inl ⟨by rfl,?_⟩) ?_ ?_
    rotate_left
    ·intro w'
     go_simp
     with_reducible rfl
    rotate_left
    ·simp only [Act.put,List.setIfInBounds_toArray,List.set_cons_zero,List.set_cons_succ,i64_w,i32_w]
     rfl
    refine take_ (i:=1) (N:=some 15) (v:=?_) (a':=?_) #[true,true,false,false,false,false,false,false,false,false,false,false,false,false,false,false,false,false,false,false,false] rfl rfl (take_ofW HT_.out HW_.out (by kernel_rfl)) (fun _ _ _ h=>h) (Or.inl ⟨by rfl,?_⟩) hHeld ?_ ?_
    rotate_left
    ·rintro w' ⟨s0,s1,s2,s3,s4⟩
     go_simp
     with_reducible rfl
    rotate_left
    ·simp only [Act.put,List.setIfInBounds_toArray,List.set_cons_zero,List.set_cons_succ,i64_w,i32_w]
     rfl
    refine pure_ (i:=2) (N:=some 16) (v:=?_) (a':=?_) #[true,true,true,false,false,false,false,false,false,false,false,false,false,false,false,false,false,false,false,false,false] rfl rfl (any_of HT_.out (by kernel_rfl)) (fun _ _ _ h=>h) (Or.inl ⟨by rfl,?_⟩) ?_ ?_
    rotate_left
    ·intro w'
     go_simp
     with_reducible rfl
    rotate_left
    ·simp only [Act.put,List.setIfInBounds_toArray,List.set_cons_zero,List.set_cons_succ,i64_w,i32_w]
     rfl
    refine pure_ (i:=3) (N:=some 17) (v:=?_) (a':=?_) #[true,true,true,true,false,false,false,false,false,false,false,false,false,false,false,false,false,false,false,false,false] rfl rfl (any_of HT_.out (by kernel_rfl)) (fun _ _ _ h=>h) (Or.inl ⟨by rfl,?_⟩) ?_ ?_
    rotate_left
    ·intro w'
     go_simp
     with_reducible rfl
    rotate_left
    ·simp only [Act.put,List.setIfInBounds_toArray,List.set_cons_zero,List.set_cons_succ,i64_w,i32_w]
     rfl
    refine pure_ (i:=4) (N:=some 18) (v:=undef) (a':=?_) #[true,true,true,true,true,false,false,false,false,false,false,false,false,false,false,false,false,false,false,false,false] rfl rfl (any_of HT_.out (by kernel_rfl)) (fun _ _ _ h=>h) (Or.inr ⟨by rfl,rfl⟩) ?_ ?_
    rotate_left
    ·simp only [Act.put,List.setIfInBounds_toArray,List.set_cons_zero,List.set_cons_succ,i64_w,i32_w]
     rfl
    refine pure_ (i:=5) (N:=some 19) (v:=undef) (a':=?_) #[true,true,true,true,true,true,false,false,false,false,false,false,false,false,false,false,false,false,false,false,false] rfl rfl (any_of HT_.out (by kernel_rfl)) (fun _ _ _ h=>h) (Or.inr ⟨by rfl,rfl⟩) ?_ ?_
    rotate_left
    ·simp only [Act.put,List.setIfInBounds_toArray,List.set_cons_zero,List.set_cons_succ,i64_w,i32_w]
     rfl
    refine pure_ (i:=6) (N:=some 20) (v:=undef) (a':=?_) #[true,true,true,true,true,true,true,false,false,false,false,false,false,false,false,false,false,false,false,false,false] rfl rfl (any_of HT_.out (by kernel_rfl)) (fun _ _ _ h=>h) (Or.inr ⟨by rfl,rfl⟩) ?_ ?_
    rotate_left
    ·simp only [Act.put,List.setIfInBounds_toArray,List.set_cons_zero,List.set_cons_succ,i64_w,i32_w]
     rfl
    refine pure_ (i:=7) (N:=some 21) (v:=undef) (a':=?_) #[true,true,true,true,true,true,true,true,false,false,false,false,false,false,false,false,false,false,false,false,false] rfl rfl (any_of HT_.out (by kernel_rfl)) (fun _ _ _ h=>h) (Or.inr ⟨by rfl,rfl⟩) ?_ ?_
    rotate_left
    ·simp only [Act.put,List.setIfInBounds_toArray,List.set_cons_zero,List.set_cons_succ,i64_w,i32_w]
     rfl
    refine pure_ (i:=8) (N:=some 22) (v:=undef) (a':=?_) #[true,true,true,true,true,true,true,true,true,false,false,false,false,false,false,false,false,false,false,false,false] rfl rfl (any_of HT_.out (by kernel_rfl)) (fun _ _ _ h=>h) (Or.inr ⟨by rfl,rfl⟩) ?_ ?_
    rotate_left
    ·simp only [Act.put,List.setIfInBounds_toArray,List.set_cons_zero,List.set_cons_succ,i64_w,i32_w]
     rfl
    refine pure_ (i:=9) (N:=some 23) (v:=undef) (a':=?_) #[true,true,true,true,true,true,true,true,true,true,false,false,false,false,false,false,false,false,false,false,false] rfl rfl (any_of HT_.out (by kernel_rfl)) (fun _ _ _ h=>h) (Or.inr ⟨by rfl,rfl⟩) ?_ ?_
    rotate_left
    ·simp only [Act.put,List.setIfInBounds_toArray,List.set_cons_zero,List.set_cons_succ,i64_w,i32_w]
     rfl
    refine pure_ (i:=10) (N:=some 24) (v:=?_) (a':=?_) #[true,true,true,true,true,true,true,true,true,true,true,false,false,false,false,false,false,false,false,false,false] rfl rfl (any_of HT_.out (by kernel_rfl)) (fun _ _ _ h=>h) (Or.inl ⟨by rfl,?_⟩) ?_ ?_
    rotate_left
    ·intro w'
     go_simp
     with_reducible rfl
    rotate_left
    ·simp only [Act.put,List.setIfInBounds_toArray,List.set_cons_zero,List.set_cons_succ,i64_w,i32_w]
     rfl
    refine pure_ (i:=11) (N:=some 25) (v:=?_) (a':=?_) #[true,true,true,true,true,true,true,true,true,true,true,true,false,false,false,false,false,false,false,false,false] rfl rfl (any_of HT_.out (by kernel_rfl)) (fun _ _ _ h=>h) (Or.inl ⟨by rfl,?_⟩) ?_ ?_
    rotate_left
    ·intro w'
     go_simp
     with_reducible rfl
    rotate_left
    ·simp only [Act.put,List.setIfInBounds_toArray,List.set_cons_zero,List.set_cons_succ,i64_w,i32_w]
     rfl
    refine pure_ (i:=12) (N:=some 26) (v:=undef) (a':=?_) #[true,true,true,true,true,true,true,true,true,true,true,true,true,false,false,false,false,false,false,false,false] rfl rfl (any_of HT_.out (by kernel_rfl)) (fun _ _ _ h=>h) (Or.inr ⟨by rfl,rfl⟩) ?_ ?_
    rotate_left
    ·simp only [Act.put,List.setIfInBounds_toArray,List.set_cons_zero,List.set_cons_succ,i64_w,i32_w]
     rfl
    refine pure_ (i:=13) (N:=some 27) (v:=undef) (a':=?_) #[true,true,true,true,true,true,true,true,true,true,true,true,true,true,false,false,false,false,false,false,false] rfl rfl (any_of HT_.out (by kernel_rfl)) (fun _ _ _ h=>h) (Or.inr ⟨by rfl,rfl⟩) ?_ ?_
    rotate_left
    ·simp only [Act.put,List.setIfInBounds_toArray,List.set_cons_zero,List.set_cons_succ,i64_w,i32_w]
     rfl
    refine pure_ (i:=14) (N:=some 28) (v:=undef) (a':=?_) #[true,true,true,true,true,true,true,true,true,true,true,true,true,true,true,false,false,false,false,false,false] rfl rfl (any_of HT_.out (by kernel_rfl)) (fun _ _ _ h=>h) (Or.inr ⟨by rfl,rfl⟩) ?_ ?_
    rotate_left
    ·simp only [Act.put,List.setIfInBounds_toArray,List.set_cons_zero,List.set_cons_succ,i64_w,i32_w]
     rfl
    refine pure_ (i:=15) (N:=some 29) (v:=?_) (a':=?_) #[true,true,true,true,true,true,true,true,true,true,true,true,true,true,true,true,false,false,false,false,false] rfl rfl (any_of HT_.out (by kernel_rfl)) (fun _ _ _ h=>h) (Or.inl ⟨by rfl,?_⟩) ?_ ?_
    rotate_left
    ·intro w'
     go_simp
     with_reducible rfl
    rotate_left
    ·simp only [Act.put,List.setIfInBounds_toArray,List.set_cons_zero,List.set_cons_succ,i64_w,i32_w]
     rfl
    refine pure_ (i:=16) (N:=some 30) (v:=?_) (a':=?_) #[true,true,true,true,true,true,true,true,true,true,true,true,true,true,true,true,true,false,false,false,false] rfl rfl (any_of HT_.out (by kernel_rfl)) (fun _ _ _ h=>h) (Or.inl ⟨by rfl,?_⟩) ?_ ?_
    rotate_left
    ·intro w'
     go_simp
     with_reducible rfl
    rotate_left
    ·simp only [Act.put,List.setIfInBounds_toArray,List.set_cons_zero,List.set_cons_succ,i64_w,i32_w]
     rfl
    refine pure_ (i:=17) (N:=some 31) (v:=undef) (a':=?_) #[true,true,true,true,true,true,true,true,true,true,true,true,true,true,true,true,true,true,false,false,false] rfl rfl (any_of HT_.out (by kernel_rfl)) (fun _ _ _ h=>h) (Or.inr ⟨by rfl,rfl⟩) ?_ ?_
    rotate_left
    ·simp only [Act.put,List.setIfInBounds_toArray,List.set_cons_zero,List.set_cons_succ,i64_w,i32_w]
     rfl
    refine pure_ (i:=18) (N:=some 32) (v:=undef) (a':=?_) #[true,true,true,true,true,true,true,true,true,true,true,true,true,true,true,true,true,true,true,false,false] rfl rfl (any_of HT_.out (by kernel_rfl)) (fun _ _ _ h=>h) (Or.inr ⟨by rfl,rfl⟩) ?_ ?_
    rotate_left
    ·simp only [Act.put,List.setIfInBounds_toArray,List.set_cons_zero,List.set_cons_succ,i64_w,i32_w]
     rfl
    refine pure_ (i:=19) (N:=some 33) (v:=undef) (a':=?_) #[true,true,true,true,true,true,true,true,true,true,true,true,true,true,true,true,true,true,true,true,false] rfl rfl (any_of HT_.out (by kernel_rfl)) (fun _ _ _ h=>h) (Or.inr ⟨by rfl,rfl⟩) ?_ ?_
    rotate_left
    ·simp only [Act.put,List.setIfInBounds_toArray,List.set_cons_zero,List.set_cons_succ,i64_w,i32_w]
     rfl
    refine pure_ (i:=20) (N:=some 34) (v:=?_) (a':=?_) #[true,true,true,true,true,true,true,true,true,true,true,true,true,true,true,true,true,true,true,true,true] rfl rfl (any_of HT_.out (by kernel_rfl)) (fun _ _ _ h=>h) (Or.inl ⟨by rfl,?_⟩) ?_ ?_
    rotate_left
    ·intro w'
     go_simp
     with_reducible rfl
    rotate_left
    ·simp only [Act.put,List.setIfInBounds_toArray,List.set_cons_zero,List.set_cons_succ,i64_w,i32_w]
     rfl
    refine done_ (done_of HT_.out (by kernel_rfl)) ?_
    try go_wp2
    go_meet
    case rel=>exact ⟨_,(true),(by first|rfl|(simp;done)|(simp [*];done)),H',⟨by first|omega|exact Nat.le_refl _⟩,⟨by (with_reducible repeat (first|refine blk_drewN ?_ _|refine blk_drew ?_|refine blk_alloc ?_ _));exact BK492.out⟩,⟨by repeat (first|(with_reducible first|exact HB.out|apply below_alloc|apply pw_below_drewN|apply below_drew1|refine below_set ?_ GE492.out)|exact HB.out)⟩⟩
   ·rw [if_neg c8] at H
    have c8b0:decide (a0_2 < 0)=false:=decide_eq_false c8
    clear c8
    (first|rw [c8b0]|(simp only [i64_w,i32_w];rw [c8b0])|skip)
    replace H:=Option.bind_eq_some_iff.mp H
    obtain ⟨t494,A100,H⟩:=H
    replace H:(if a0_2 > t494 then (slipwayref11_EncodeSuper.j0 k true a0_0 a0_1 a0_2 a0_3 a0_4) else (if a0_4 < 0 then (slipwayref11_EncodeSuper.j0 k true a0_0 a0_1 a0_2 a0_3 a0_4) else (slipwayref11_EncodeSuper.j0 k (decide (a0_4 > 1152921504606846976)) a0_0 a0_1 a0_2 a0_3 a0_4)))=some (r1,r2):=H
    have A10:=Aside0.mk A100
    clear A100
    by_cases c11:a0_2 > t494
    ·rw [if_pos c11] at H
     have c11b0:decide (t494 < a0_2)=true:=decide_eq_true c11
     clear c11
     have H':=Aside0.mk H
     clear H
     try go_wp2
     have n0_:=Aside0.mk (blk_drew BK492.out)
     have n1_:=Aside0.mk (below_drew1 HB.out)
     clear BK492 HB
     have BK492:=n0_
     have HB:=n1_
     clear n0_ n1_
     refine start_ (n:=21) (S:=fun w'=>w'.cell? ⟨gb492,0,none⟩=some (.int .i64 a0_0)∧w'.cell? ⟨gb492,1,none⟩=some (.int .i64 a0_1)∧w'.cell? ⟨gb492,2,none⟩=some (.int .i64 a0_2)∧w'.cell? ⟨gb492,3,none⟩=some (.bool a0_3)∧w'.cell? ⟨gb492,4,none⟩=some (.int .i64 a0_4)) (ds:=[]) #[false,false,false,false,false,false,false,false,false,false,false,false,false,false,false,false,false,false,false,false,false] (by kernel_rfl) rfl rfl ⟨(blk_cell BK492.out 0).trans rfl,(blk_cell BK492.out 1).trans rfl,(blk_cell BK492.out 2).trans rfl,(blk_cell BK492.out 3).trans rfl,(blk_cell BK492.out 4).trans rfl⟩ (fun hHeld=>?_);refine with_tabW slipwayref11_EncodeSuper.tab4 slipwayref11_EncodeSuper.bits4 (fun HT_ HW_=>?_)
     generalize w7.drew=w12 at BK492 HB hHeld ⊢
     refine pure_ (i:=0) (N:=some 14) (v:=?_) (a':=?_) #[true,false,false,false,false,false,false,false,false,false,false,false,false,false,false,false,false,false,false,false,false] rfl rfl (any_of HT_.out (by kernel_rfl)) (fun _ _ _ h=>h) (Or.inl ⟨by rfl,?_⟩) ?_ ?_
     rotate_left
     ·intro w'
      go_simp
      with_reducible rfl
     rotate_left
     ·simp only [Act.put,List.setIfInBounds_toArray,List.set_cons_zero,List.set_cons_succ,i64_w,i32_w]
      rfl
     refine take_ (i:=1) (N:=some 15) (v:=?_) (a':=?_) #[true,true,false,false,false,false,false,false,false,false,false,false,false,false,false,false,false,false,false,false,false] rfl rfl (take_ofW HT_.out HW_.out (by kernel_rfl)) (fun _ _ _ h=>h) (Or.inl ⟨by rfl,?_⟩) hHeld ?_ ?_
     rotate_left
     ·rintro w' ⟨s0,s1,s2,s3,s4⟩
      go_simp
      with_reducible rfl
     rotate_left
     ·simp only [Act.put,List.setIfInBounds_toArray,List.set_cons_zero,List.set_cons_succ,i64_w,i32_w]
      rfl
     refine pure_ (i:=2) (N:=some 16) (v:=?_) (a':=?_) #[true,true,true,false,false,false,false,false,false,false,false,false,false,false,false,false,false,false,false,false,false] rfl rfl (any_of HT_.out (by kernel_rfl)) (fun _ _ _ h=>h) (Or.inl ⟨by rfl,?_⟩) ?_ ?_
     rotate_left
     ·intro w'
      go_simp
      with_reducible rfl
     rotate_left
     ·simp only [Act.put,List.setIfInBounds_toArray,List.set_cons_zero,List.set_cons_succ,i64_w,i32_w]
      rfl
     refine pure_ (i:=3) (N:=some 17) (v:=?_) (a':=?_) #[true,true,true,true,false,false,false,false,false,false,false,false,false,false,false,false,false,false,false,false,false] rfl rfl (any_of HT_.out (by kernel_rfl)) (fun _ _ _ h=>h) (Or.inl ⟨by rfl,?_⟩) ?_ ?_
     rotate_left
     ·intro w'
      go_simp
      with_reducible rfl
     rotate_left
     ·simp only [Act.put,List.setIfInBounds_toArray,List.set_cons_zero,List.set_cons_succ,i64_w,i32_w]
      rfl
     refine pure_ (i:=4) (N:=some 18) (v:=?_) (a':=?_) #[true,true,true,true,true,false,false,false,false,false,false,false,false,false,false,false,false,false,false,false,false] rfl rfl (any_of HT_.out (by kernel_rfl)) (fun _ _ _ h=>h) (Or.inl ⟨by rfl,?_⟩) ?_ ?_
     rotate_left
     ·intro w'
      go_simp
      with_reducible rfl
     rotate_left
     ·simp only [Act.put,List.setIfInBounds_toArray,List.set_cons_zero,List.set_cons_succ,i64_w,i32_w]
      rfl
     refine pure_ (i:=6) (N:=some 20) (v:=?_) (a':=?_) #[true,true,true,true,true,false,true,false,false,false,false,false,false,false,false,false,false,false,false,false,false] rfl rfl (any_of HT_.out (by kernel_rfl)) (fun _ _ _ h=>h) (Or.inl ⟨by rfl,?_⟩) ?_ ?_
     rotate_left
     ·intro w'
      go_simp
      with_reducible rfl
     rotate_left
     ·simp only [Act.put,List.setIfInBounds_toArray,List.set_cons_zero,List.set_cons_succ,i64_w,i32_w]
      rfl
     refine take_ (i:=5) (N:=some 19) (v:=?_) (a':=?_) #[true,true,true,true,true,true,true,false,false,false,false,false,false,false,false,false,false,false,false,false,false] rfl rfl (take_ofW HT_.out HW_.out (by kernel_rfl)) (fun _ _ _ h=>h) (Or.inl ⟨by rfl,?_⟩) hHeld ?_ ?_
     rotate_left
     ·rintro w' ⟨s0,s1,s2,s3,s4⟩
      go_simp
      with_reducible rfl
     rotate_left
     ·simp only [Act.put,List.setIfInBounds_toArray,List.set_cons_zero,List.set_cons_succ,i64_w,i32_w]
      rfl
     refine take_ (i:=7) (N:=some 21) (v:=?_) (a':=?_) #[true,true,true,true,true,true,true,true,false,false,false,false,false,false,false,false,false,false,false,false,false] rfl rfl (take_ofW HT_.out HW_.out (by kernel_rfl)) (fun _ _ _ h=>h) (Or.inl ⟨by rfl,?_⟩) hHeld ?_ ?_
     rotate_left
     ·rintro w' ⟨s0,s1,s2,s3,s4⟩
      go_simp
      with_reducible rfl
     rotate_left
     ·simp only [Act.put,List.setIfInBounds_toArray,List.set_cons_zero,List.set_cons_succ,i64_w,i32_w]
      rfl
     refine one_ (i:=8) (N:=some 22) #[true,true,true,true,true,true,true,true,true,false,false,false,false,false,false,false,false,false,false,false,false] rfl rfl (one_of HT_.out (by kernel_rfl)) (by decide) (fun K hK=>?_)
     refine goes_ Try.func24 (by kernel_rfl) rfl #[.agg #[.int .i64 a0_0,.int .i64 a0_1]] (by rfl) rfl rfl (by (try simp only [List.map_toArray,List.map_cons,List.map_nil]);first|done|rfl|(simp only [List.length_drop,List.length_take];rfl)) ?_
     with_reducible refine (slipwayref11_Inodes.calls k a0_0 a0_1 t494 _ A10.out).mono ?_
     rintro e w13 ⟨rfl,hb⟩
     refine ⟨_,rfl,?_⟩
     have n0_:=Aside0.mk (blk_below (g:=gb492) (o:=.cells #[.int .i64 a0_0,.int .i64 a0_1,.int .i64 a0_2,.bool a0_3,.int .i64 a0_4] 63 (0,0)) (by (with_reducible repeat (first|refine blk_drewN ?_ _|refine blk_drew ?_|refine blk_alloc ?_ _));exact BK492.out) hb)
     have n1_:=Aside0.mk (below_step (by repeat (first|(with_reducible first|exact HB.out|apply below_alloc|apply pw_below_drewN|apply below_drew1|refine below_set ?_ GE492.out)|exact HB.out)) hb)
     clear BK492 HB
     have BK492:=n0_
     have HB:=n1_
     clear n0_ n1_
     (try clear hb)
     (try clear hb2)
     (try clear hk)
     (try clear hi)
     refine hK.out _ _ ⟨(blk_cell BK492.out 0).trans rfl,(blk_cell BK492.out 1).trans rfl,(blk_cell BK492.out 2).trans rfl,(blk_cell BK492.out 3).trans rfl,(blk_cell BK492.out 4).trans rfl⟩ (fun hHeld=>?_)
     clear hK K
     refine norm_ (a':=?_) ?_ ?_
     rotate_left
     ·show Act.put _ (some 22) _=_
      simp only [Act.put,List.setIfInBounds_toArray,List.set_cons_zero,List.set_cons_succ,i64_w,i32_w]
      rfl
     refine pure_ (i:=9) (N:=some 23) (v:=?_) (a':=?_) #[true,true,true,true,true,true,true,true,true,true,false,false,false,false,false,false,false,false,false,false,false] rfl rfl (any_of HT_.out (by kernel_rfl)) (fun _ _ _ h=>h) (Or.inl ⟨by rfl,?_⟩) ?_ ?_
     rotate_left
     ·intro w'
      go_simp
      with_reducible rfl
     rotate_left
     ·simp only [Act.put,List.setIfInBounds_toArray,List.set_cons_zero,List.set_cons_succ,i64_w,i32_w]
      rfl
     refine pure_ (i:=10) (N:=some 24) (v:=?_) (a':=?_) #[true,true,true,true,true,true,true,true,true,true,true,false,false,false,false,false,false,false,false,false,false] rfl rfl (any_of HT_.out (by kernel_rfl)) (fun _ _ _ h=>h) (Or.inl ⟨by rfl,?_⟩) ?_ ?_
     rotate_left
     ·intro w'
      go_simp
      with_reducible rfl
     rotate_left
     ·simp only [Act.put,List.setIfInBounds_toArray,List.set_cons_zero,List.set_cons_succ,i64_w,i32_w]
      rfl
     refine pure_ (i:=11) (N:=some 25) (v:=?_) (a':=?_) #[true,true,true,true,true,true,true,true,true,true,true,true,false,false,false,false,false,false,false,false,false] rfl rfl (any_of HT_.out (by kernel_rfl)) (fun _ _ _ h=>h) (Or.inl ⟨by rfl,?_⟩) ?_ ?_
     rotate_left
     ·intro w'
      go_simp
      with_reducible rfl
     rotate_left
     ·simp only [Act.put,List.setIfInBounds_toArray,List.set_cons_zero,List.set_cons_succ,i64_w,i32_w]
      rfl
     refine pure_ (i:=12) (N:=some 26) (v:=undef) (a':=?_) #[true,true,true,true,true,true,true,true,true,true,true,true,true,false,false,false,false,false,false,false,false] rfl rfl (any_of HT_.out (by kernel_rfl)) (fun _ _ _ h=>h) (Or.inr ⟨by rfl,rfl⟩) ?_ ?_
     rotate_left
     ·simp only [Act.put,List.setIfInBounds_toArray,List.set_cons_zero,List.set_cons_succ,i64_w,i32_w]
      rfl
     refine pure_ (i:=13) (N:=some 27) (v:=undef) (a':=?_) #[true,true,true,true,true,true,true,true,true,true,true,true,true,true,false,false,false,false,false,false,false] rfl rfl (any_of HT_.out (by kernel_rfl)) (fun _ _ _ h=>h) (Or.inr ⟨by rfl,rfl⟩) ?_ ?_
     rotate_left
     ·simp only [Act.put,List.setIfInBounds_toArray,List.set_cons_zero,List.set_cons_succ,i64_w,i32_w]
      rfl
     refine pure_ (i:=14) (N:=some 28) (v:=undef) (a':=?_) #[true,true,true,true,true,true,true,true,true,true,true,true,true,true,true,false,false,false,false,false,false] rfl rfl (any_of HT_.out (by kernel_rfl)) (fun _ _ _ h=>h) (Or.inr ⟨by rfl,rfl⟩) ?_ ?_
     rotate_left
     ·simp only [Act.put,List.setIfInBounds_toArray,List.set_cons_zero,List.set_cons_succ,i64_w,i32_w]
      rfl
     refine pure_ (i:=15) (N:=some 29) (v:=?_) (a':=?_) #[true,true,true,true,true,true,true,true,true,true,true,true,true,true,true,true,false,false,false,false,false] rfl rfl (any_of HT_.out (by kernel_rfl)) (fun _ _ _ h=>h) (Or.inl ⟨by rfl,?_⟩) ?_ ?_
     rotate_left
     ·intro w'
      go_simp
      with_reducible rfl
     rotate_left
     ·simp only [Act.put,List.setIfInBounds_toArray,List.set_cons_zero,List.set_cons_succ,i64_w,i32_w]
      rfl
     refine pure_ (i:=16) (N:=some 30) (v:=?_) (a':=?_) #[true,true,true,true,true,true,true,true,true,true,true,true,true,true,true,true,true,false,false,false,false] rfl rfl (any_of HT_.out (by kernel_rfl)) (fun _ _ _ h=>h) (Or.inl ⟨by rfl,?_⟩) ?_ ?_
     rotate_left
     ·intro w'
      go_simp
      with_reducible rfl
     rotate_left
     ·simp only [Act.put,List.setIfInBounds_toArray,List.set_cons_zero,List.set_cons_succ,i64_w,i32_w]
      rfl
     refine pure_ (i:=17) (N:=some 31) (v:=undef) (a':=?_) #[true,true,true,true,true,true,true,true,true,true,true,true,true,true,true,true,true,true,false,false,false] rfl rfl (any_of HT_.out (by kernel_rfl)) (fun _ _ _ h=>h) (Or.inr ⟨by rfl,rfl⟩) ?_ ?_
     rotate_left
     ·simp only [Act.put,List.setIfInBounds_toArray,List.set_cons_zero,List.set_cons_succ,i64_w,i32_w]
      rfl
     refine pure_ (i:=18) (N:=some 32) (v:=undef) (a':=?_) #[true,true,true,true,true,true,true,true,true,true,true,true,true,true,true,true,true,true,true,false,false] rfl rfl (any_of HT_.out (by kernel_rfl)) (fun _ _ _ h=>h) (Or.inr ⟨by rfl,rfl⟩) ?_ ?_
     rotate_left
     ·simp only [Act.put,List.setIfInBounds_toArray,List.set_cons_zero,List.set_cons_succ,i64_w,i32_w]
      rfl
     refine pure_ (i:=19) (N:=some 33) (v:=undef) (a':=?_) #[true,true,true,true,true,true,true,true,true,true,true,true,true,true,true,true,true,true,true,true,false] rfl rfl (any_of HT_.out (by kernel_rfl)) (fun _ _ _ h=>h) (Or.inr ⟨by rfl,rfl⟩) ?_ ?_
     rotate_left
     ·simp only [Act.put,List.setIfInBounds_toArray,List.set_cons_zero,List.set_cons_succ,i64_w,i32_w]
      rfl
     refine pure_ (i:=20) (N:=some 34) (v:=?_) (a':=?_) #[true,true,true,true,true,true,true,true,true,true,true,true,true,true,true,true,true,true,true,true,true] rfl rfl (any_of HT_.out (by kernel_rfl)) (fun _ _ _ h=>h) (Or.inl ⟨by rfl,?_⟩) ?_ ?_
     rotate_left
     ·intro w'
      go_simp
      with_reducible rfl
     rotate_left
     ·simp only [Act.put,List.setIfInBounds_toArray,List.set_cons_zero,List.set_cons_succ,i64_w,i32_w]
      rfl
     refine done_ (done_of HT_.out (by kernel_rfl)) ?_
     try go_wp2
     go_meet
     case rel=>exact ⟨_,(true),(by first|rfl|(simp;done)|(simp [*];done)),H',⟨by first|omega|exact Nat.le_refl _⟩,⟨by (with_reducible repeat (first|refine blk_drewN ?_ _|refine blk_drew ?_|refine blk_alloc ?_ _));exact BK492.out⟩,⟨by repeat (first|(with_reducible first|exact HB.out|apply below_alloc|apply pw_below_drewN|apply below_drew1|refine below_set ?_ GE492.out)|exact HB.out)⟩⟩
    ·rw [if_neg c11] at H
     have c11b0:decide (t494 < a0_2)=false:=decide_eq_false c11
     clear c11
     by_cases c14:a0_4 < 0
     ·rw [if_pos c14] at H
      have c14b0:decide (a0_4 < 0)=true:=decide_eq_true c14
      clear c14
      have H':=Aside0.mk H
      clear H
      try go_wp2
      have n0_:=Aside0.mk (blk_drew BK492.out)
      have n1_:=Aside0.mk (below_drew1 HB.out)
      clear BK492 HB
      have BK492:=n0_
      have HB:=n1_
      clear n0_ n1_
      refine start_ (n:=21) (S:=fun w'=>w'.cell? ⟨gb492,0,none⟩=some (.int .i64 a0_0)∧w'.cell? ⟨gb492,1,none⟩=some (.int .i64 a0_1)∧w'.cell? ⟨gb492,2,none⟩=some (.int .i64 a0_2)∧w'.cell? ⟨gb492,3,none⟩=some (.bool a0_3)∧w'.cell? ⟨gb492,4,none⟩=some (.int .i64 a0_4)) (ds:=[]) #[false,false,false,false,false,false,false,false,false,false,false,false,false,false,false,false,false,false,false,false,false] (by kernel_rfl) rfl rfl ⟨(blk_cell BK492.out 0).trans rfl,(blk_cell BK492.out 1).trans rfl,(blk_cell BK492.out 2).trans rfl,(blk_cell BK492.out 3).trans rfl,(blk_cell BK492.out 4).trans rfl⟩ (fun hHeld=>?_);refine with_tabW slipwayref11_EncodeSuper.tab4 slipwayref11_EncodeSuper.bits4 (fun HT_ HW_=>?_)
      generalize w7.drew=w15 at BK492 HB hHeld ⊢
      refine pure_ (i:=0) (N:=some 14) (v:=?_) (a':=?_) #[true,false,false,false,false,false,false,false,false,false,false,false,false,false,false,false,false,false,false,false,false] rfl rfl (any_of HT_.out (by kernel_rfl)) (fun _ _ _ h=>h) (Or.inl ⟨by rfl,?_⟩) ?_ ?_
      rotate_left
      ·intro w'
       go_simp
       with_reducible rfl
      rotate_left
      ·simp only [Act.put,List.setIfInBounds_toArray,List.set_cons_zero,List.set_cons_succ,i64_w,i32_w]
       rfl
      refine take_ (i:=1) (N:=some 15) (v:=?_) (a':=?_) #[true,true,false,false,false,false,false,false,false,false,false,false,false,false,false,false,false,false,false,false,false] rfl rfl (take_ofW HT_.out HW_.out (by kernel_rfl)) (fun _ _ _ h=>h) (Or.inl ⟨by rfl,?_⟩) hHeld ?_ ?_
      rotate_left
      ·rintro w' ⟨s0,s1,s2,s3,s4⟩
       go_simp
       with_reducible rfl
      rotate_left
      ·simp only [Act.put,List.setIfInBounds_toArray,List.set_cons_zero,List.set_cons_succ,i64_w,i32_w]
       rfl
      refine pure_ (i:=2) (N:=some 16) (v:=?_) (a':=?_) #[true,true,true,false,false,false,false,false,false,false,false,false,false,false,false,false,false,false,false,false,false] rfl rfl (any_of HT_.out (by kernel_rfl)) (fun _ _ _ h=>h) (Or.inl ⟨by rfl,?_⟩) ?_ ?_
      rotate_left
      ·intro w'
       go_simp
       with_reducible rfl
      rotate_left
      ·simp only [Act.put,List.setIfInBounds_toArray,List.set_cons_zero,List.set_cons_succ,i64_w,i32_w]
       rfl
      refine pure_ (i:=3) (N:=some 17) (v:=?_) (a':=?_) #[true,true,true,true,false,false,false,false,false,false,false,false,false,false,false,false,false,false,false,false,false] rfl rfl (any_of HT_.out (by kernel_rfl)) (fun _ _ _ h=>h) (Or.inl ⟨by rfl,?_⟩) ?_ ?_
      rotate_left
      ·intro w'
       go_simp
       with_reducible rfl
      rotate_left
      ·simp only [Act.put,List.setIfInBounds_toArray,List.set_cons_zero,List.set_cons_succ,i64_w,i32_w]
       rfl
      refine pure_ (i:=4) (N:=some 18) (v:=?_) (a':=?_) #[true,true,true,true,true,false,false,false,false,false,false,false,false,false,false,false,false,false,false,false,false] rfl rfl (any_of HT_.out (by kernel_rfl)) (fun _ _ _ h=>h) (Or.inl ⟨by rfl,?_⟩) ?_ ?_
      rotate_left
      ·intro w'
       go_simp
       with_reducible rfl
      rotate_left
      ·simp only [Act.put,List.setIfInBounds_toArray,List.set_cons_zero,List.set_cons_succ,i64_w,i32_w]
       rfl
      refine pure_ (i:=6) (N:=some 20) (v:=?_) (a':=?_) #[true,true,true,true,true,false,true,false,false,false,false,false,false,false,false,false,false,false,false,false,false] rfl rfl (any_of HT_.out (by kernel_rfl)) (fun _ _ _ h=>h) (Or.inl ⟨by rfl,?_⟩) ?_ ?_
      rotate_left
      ·intro w'
       go_simp
       with_reducible rfl
      rotate_left
      ·simp only [Act.put,List.setIfInBounds_toArray,List.set_cons_zero,List.set_cons_succ,i64_w,i32_w]
       rfl
      refine take_ (i:=5) (N:=some 19) (v:=?_) (a':=?_) #[true,true,true,true,true,true,true,false,false,false,false,false,false,false,false,false,false,false,false,false,false] rfl rfl (take_ofW HT_.out HW_.out (by kernel_rfl)) (fun _ _ _ h=>h) (Or.inl ⟨by rfl,?_⟩) hHeld ?_ ?_
      rotate_left
      ·rintro w' ⟨s0,s1,s2,s3,s4⟩
       go_simp
       with_reducible rfl
      rotate_left
      ·simp only [Act.put,List.setIfInBounds_toArray,List.set_cons_zero,List.set_cons_succ,i64_w,i32_w]
       rfl
      refine take_ (i:=7) (N:=some 21) (v:=?_) (a':=?_) #[true,true,true,true,true,true,true,true,false,false,false,false,false,false,false,false,false,false,false,false,false] rfl rfl (take_ofW HT_.out HW_.out (by kernel_rfl)) (fun _ _ _ h=>h) (Or.inl ⟨by rfl,?_⟩) hHeld ?_ ?_
      rotate_left
      ·rintro w' ⟨s0,s1,s2,s3,s4⟩
       go_simp
       with_reducible rfl
      rotate_left
      ·simp only [Act.put,List.setIfInBounds_toArray,List.set_cons_zero,List.set_cons_succ,i64_w,i32_w]
       rfl
      refine one_ (i:=8) (N:=some 22) #[true,true,true,true,true,true,true,true,true,false,false,false,false,false,false,false,false,false,false,false,false] rfl rfl (one_of HT_.out (by kernel_rfl)) (by decide) (fun K hK=>?_)
      refine goes_ Try.func24 (by kernel_rfl) rfl #[.agg #[.int .i64 a0_0,.int .i64 a0_1]] (by rfl) rfl rfl (by (try simp only [List.map_toArray,List.map_cons,List.map_nil]);first|done|rfl|(simp only [List.length_drop,List.length_take];rfl)) ?_
      with_reducible refine (slipwayref11_Inodes.calls k a0_0 a0_1 t494 _ A10.out).mono ?_
      rintro e w16 ⟨rfl,hb⟩
      refine ⟨_,rfl,?_⟩
      have n0_:=Aside0.mk (blk_below (g:=gb492) (o:=.cells #[.int .i64 a0_0,.int .i64 a0_1,.int .i64 a0_2,.bool a0_3,.int .i64 a0_4] 63 (0,0)) (by (with_reducible repeat (first|refine blk_drewN ?_ _|refine blk_drew ?_|refine blk_alloc ?_ _));exact BK492.out) hb)
      have n1_:=Aside0.mk (below_step (by repeat (first|(with_reducible first|exact HB.out|apply below_alloc|apply pw_below_drewN|apply below_drew1|refine below_set ?_ GE492.out)|exact HB.out)) hb)
      clear BK492 HB
      have BK492:=n0_
      have HB:=n1_
      clear n0_ n1_
      (try clear hb)
      (try clear hb2)
      (try clear hk)
      (try clear hi)
      refine hK.out _ _ ⟨(blk_cell BK492.out 0).trans rfl,(blk_cell BK492.out 1).trans rfl,(blk_cell BK492.out 2).trans rfl,(blk_cell BK492.out 3).trans rfl,(blk_cell BK492.out 4).trans rfl⟩ (fun hHeld=>?_)
      clear hK K
      refine norm_ (a':=?_) ?_ ?_
      rotate_left
      ·show Act.put _ (some 22) _=_
       simp only [Act.put,List.setIfInBounds_toArray,List.set_cons_zero,List.set_cons_succ,i64_w,i32_w]
       rfl
      refine pure_ (i:=9) (N:=some 23) (v:=?_) (a':=?_) #[true,true,true,true,true,true,true,true,true,true,false,false,false,false,false,false,false,false,false,false,false] rfl rfl (any_of HT_.out (by kernel_rfl)) (fun _ _ _ h=>h) (Or.inl ⟨by rfl,?_⟩) ?_ ?_
      rotate_left
      ·intro w'
       go_simp
       with_reducible rfl
      rotate_left
      ·simp only [Act.put,List.setIfInBounds_toArray,List.set_cons_zero,List.set_cons_succ,i64_w,i32_w]
       rfl
      refine pure_ (i:=10) (N:=some 24) (v:=?_) (a':=?_) #[true,true,true,true,true,true,true,true,true,true,true,false,false,false,false,false,false,false,false,false,false] rfl rfl (any_of HT_.out (by kernel_rfl)) (fun _ _ _ h=>h) (Or.inl ⟨by rfl,?_⟩) ?_ ?_
      rotate_left
      ·intro w'
       go_simp
       with_reducible rfl
      rotate_left
      ·simp only [Act.put,List.setIfInBounds_toArray,List.set_cons_zero,List.set_cons_succ,i64_w,i32_w]
       rfl
      refine pure_ (i:=11) (N:=some 25) (v:=?_) (a':=?_) #[true,true,true,true,true,true,true,true,true,true,true,true,false,false,false,false,false,false,false,false,false] rfl rfl (any_of HT_.out (by kernel_rfl)) (fun _ _ _ h=>h) (Or.inl ⟨by rfl,?_⟩) ?_ ?_
      rotate_left
      ·intro w'
       go_simp
       with_reducible rfl
      rotate_left
      ·simp only [Act.put,List.setIfInBounds_toArray,List.set_cons_zero,List.set_cons_succ,i64_w,i32_w]
       rfl
      refine pure_ (i:=12) (N:=some 26) (v:=?_) (a':=?_) #[true,true,true,true,true,true,true,true,true,true,true,true,true,false,false,false,false,false,false,false,false] rfl rfl (any_of HT_.out (by kernel_rfl)) (fun _ _ _ h=>h) (Or.inl ⟨by rfl,?_⟩) ?_ ?_
      rotate_left
      ·intro w'
       go_simp
       with_reducible rfl
      rotate_left
      ·simp only [Act.put,List.setIfInBounds_toArray,List.set_cons_zero,List.set_cons_succ,i64_w,i32_w]
       rfl
      refine take_ (i:=13) (N:=some 27) (v:=?_) (a':=?_) #[true,true,true,true,true,true,true,true,true,true,true,true,true,true,false,false,false,false,false,false,false] rfl rfl (take_ofW HT_.out HW_.out (by kernel_rfl)) (fun _ _ _ h=>h) (Or.inl ⟨by rfl,?_⟩) hHeld ?_ ?_
      rotate_left
      ·rintro w' ⟨s0,s1,s2,s3,s4⟩
       go_simp
       with_reducible rfl
      rotate_left
      ·simp only [Act.put,List.setIfInBounds_toArray,List.set_cons_zero,List.set_cons_succ,i64_w,i32_w]
       rfl
      refine pure_ (i:=14) (N:=some 28) (v:=?_) (a':=?_) #[true,true,true,true,true,true,true,true,true,true,true,true,true,true,true,false,false,false,false,false,false] rfl rfl (any_of HT_.out (by kernel_rfl)) (fun _ _ _ h=>h) (Or.inl ⟨by rfl,?_⟩) ?_ ?_
      rotate_left
      ·intro w'
       go_simp
       with_reducible rfl
      rotate_left
      ·simp only [Act.put,List.setIfInBounds_toArray,List.set_cons_zero,List.set_cons_succ,i64_w,i32_w]
       rfl
      refine pure_ (i:=15) (N:=some 29) (v:=?_) (a':=?_) #[true,true,true,true,true,true,true,true,true,true,true,true,true,true,true,true,false,false,false,false,false] rfl rfl (any_of HT_.out (by kernel_rfl)) (fun _ _ _ h=>h) (Or.inl ⟨by rfl,?_⟩) ?_ ?_
      rotate_left
      ·intro w'
       go_simp
       with_reducible rfl
      rotate_left
      ·simp only [Act.put,List.setIfInBounds_toArray,List.set_cons_zero,List.set_cons_succ,i64_w,i32_w]
       rfl
      refine pure_ (i:=16) (N:=some 30) (v:=?_) (a':=?_) #[true,true,true,true,true,true,true,true,true,true,true,true,true,true,true,true,true,false,false,false,false] rfl rfl (any_of HT_.out (by kernel_rfl)) (fun _ _ _ h=>h) (Or.inl ⟨by rfl,?_⟩) ?_ ?_
      rotate_left
      ·intro w'
       go_simp
       with_reducible rfl
      rotate_left
      ·simp only [Act.put,List.setIfInBounds_toArray,List.set_cons_zero,List.set_cons_succ,i64_w,i32_w]
       rfl
      refine pure_ (i:=17) (N:=some 31) (v:=undef) (a':=?_) #[true,true,true,true,true,true,true,true,true,true,true,true,true,true,true,true,true,true,false,false,false] rfl rfl (any_of HT_.out (by kernel_rfl)) (fun _ _ _ h=>h) (Or.inr ⟨by rfl,rfl⟩) ?_ ?_
      rotate_left
      ·simp only [Act.put,List.setIfInBounds_toArray,List.set_cons_zero,List.set_cons_succ,i64_w,i32_w]
       rfl
      refine pure_ (i:=18) (N:=some 32) (v:=undef) (a':=?_) #[true,true,true,true,true,true,true,true,true,true,true,true,true,true,true,true,true,true,true,false,false] rfl rfl (any_of HT_.out (by kernel_rfl)) (fun _ _ _ h=>h) (Or.inr ⟨by rfl,rfl⟩) ?_ ?_
      rotate_left
      ·simp only [Act.put,List.setIfInBounds_toArray,List.set_cons_zero,List.set_cons_succ,i64_w,i32_w]
       rfl
      refine pure_ (i:=19) (N:=some 33) (v:=undef) (a':=?_) #[true,true,true,true,true,true,true,true,true,true,true,true,true,true,true,true,true,true,true,true,false] rfl rfl (any_of HT_.out (by kernel_rfl)) (fun _ _ _ h=>h) (Or.inr ⟨by rfl,rfl⟩) ?_ ?_
      rotate_left
      ·simp only [Act.put,List.setIfInBounds_toArray,List.set_cons_zero,List.set_cons_succ,i64_w,i32_w]
       rfl
      refine pure_ (i:=20) (N:=some 34) (v:=?_) (a':=?_) #[true,true,true,true,true,true,true,true,true,true,true,true,true,true,true,true,true,true,true,true,true] rfl rfl (any_of HT_.out (by kernel_rfl)) (fun _ _ _ h=>h) (Or.inl ⟨by rfl,?_⟩) ?_ ?_
      rotate_left
      ·intro w'
       go_simp
       with_reducible rfl
      rotate_left
      ·simp only [Act.put,List.setIfInBounds_toArray,List.set_cons_zero,List.set_cons_succ,i64_w,i32_w]
       rfl
      refine done_ (done_of HT_.out (by kernel_rfl)) ?_
      try go_wp2
      go_meet
      case rel=>exact ⟨_,(true),(by first|rfl|(simp;done)|(simp [*];done)),H',⟨by first|omega|exact Nat.le_refl _⟩,⟨by (with_reducible repeat (first|refine blk_drewN ?_ _|refine blk_drew ?_|refine blk_alloc ?_ _));exact BK492.out⟩,⟨by repeat (first|(with_reducible first|exact HB.out|apply below_alloc|apply pw_below_drewN|apply below_drew1|refine below_set ?_ GE492.out)|exact HB.out)⟩⟩
     ·rw [if_neg c14] at H
      have c14b0:decide (a0_4 < 0)=false:=decide_eq_false c14
      clear c14
      have H':=Aside0.mk H
      clear H
      try go_wp2
      have n0_:=Aside0.mk (blk_drew BK492.out)
      have n1_:=Aside0.mk (below_drew1 HB.out)
      clear BK492 HB
      have BK492:=n0_
      have HB:=n1_
      clear n0_ n1_
      refine start_ (n:=21) (S:=fun w'=>w'.cell? ⟨gb492,0,none⟩=some (.int .i64 a0_0)∧w'.cell? ⟨gb492,1,none⟩=some (.int .i64 a0_1)∧w'.cell? ⟨gb492,2,none⟩=some (.int .i64 a0_2)∧w'.cell? ⟨gb492,3,none⟩=some (.bool a0_3)∧w'.cell? ⟨gb492,4,none⟩=some (.int .i64 a0_4)) (ds:=[]) #[false,false,false,false,false,false,false,false,false,false,false,false,false,false,false,false,false,false,false,false,false] (by kernel_rfl) rfl rfl ⟨(blk_cell BK492.out 0).trans rfl,(blk_cell BK492.out 1).trans rfl,(blk_cell BK492.out 2).trans rfl,(blk_cell BK492.out 3).trans rfl,(blk_cell BK492.out 4).trans rfl⟩ (fun hHeld=>?_);refine with_tabW slipwayref11_EncodeSuper.tab4 slipwayref11_EncodeSuper.bits4 (fun HT_ HW_=>?_)
      generalize w7.drew=w17 at BK492 HB hHeld ⊢
      refine pure_ (i:=0) (N:=some 14) (v:=?_) (a':=?_) #[true,false,false,false,false,false,false,false,false,false,false,false,false,false,false,false,false,false,false,false,false] rfl rfl (any_of HT_.out (by kernel_rfl)) (fun _ _ _ h=>h) (Or.inl ⟨by rfl,?_⟩) ?_ ?_
      rotate_left
      ·intro w'
       go_simp
       with_reducible rfl
      rotate_left
      ·simp only [Act.put,List.setIfInBounds_toArray,List.set_cons_zero,List.set_cons_succ,i64_w,i32_w]
       rfl
      refine take_ (i:=1) (N:=some 15) (v:=?_) (a':=?_) #[true,true,false,false,false,false,false,false,false,false,false,false,false,false,false,false,false,false,false,false,false] rfl rfl (take_ofW HT_.out HW_.out (by kernel_rfl)) (fun _ _ _ h=>h) (Or.inl ⟨by rfl,?_⟩) hHeld ?_ ?_
      rotate_left
      ·rintro w' ⟨s0,s1,s2,s3,s4⟩
       go_simp
       with_reducible rfl
      rotate_left
      ·simp only [Act.put,List.setIfInBounds_toArray,List.set_cons_zero,List.set_cons_succ,i64_w,i32_w]
       rfl
      refine pure_ (i:=2) (N:=some 16) (v:=?_) (a':=?_) #[true,true,true,false,false,false,false,false,false,false,false,false,false,false,false,false,false,false,false,false,false] rfl rfl (any_of HT_.out (by kernel_rfl)) (fun _ _ _ h=>h) (Or.inl ⟨by rfl,?_⟩) ?_ ?_
      rotate_left
      ·intro w'
       go_simp
       with_reducible rfl
      rotate_left
      ·simp only [Act.put,List.setIfInBounds_toArray,List.set_cons_zero,List.set_cons_succ,i64_w,i32_w]
       rfl
      refine pure_ (i:=3) (N:=some 17) (v:=?_) (a':=?_) #[true,true,true,true,false,false,false,false,false,false,false,false,false,false,false,false,false,false,false,false,false] rfl rfl (any_of HT_.out (by kernel_rfl)) (fun _ _ _ h=>h) (Or.inl ⟨by rfl,?_⟩) ?_ ?_
      rotate_left
      ·intro w'
       go_simp
       with_reducible rfl
      rotate_left
      ·simp only [Act.put,List.setIfInBounds_toArray,List.set_cons_zero,List.set_cons_succ,i64_w,i32_w]
       rfl
      refine pure_ (i:=4) (N:=some 18) (v:=?_) (a':=?_) #[true,true,true,true,true,false,false,false,false,false,false,false,false,false,false,false,false,false,false,false,false] rfl rfl (any_of HT_.out (by kernel_rfl)) (fun _ _ _ h=>h) (Or.inl ⟨by rfl,?_⟩) ?_ ?_
      rotate_left
      ·intro w'
       go_simp
       with_reducible rfl
      rotate_left
      ·simp only [Act.put,List.setIfInBounds_toArray,List.set_cons_zero,List.set_cons_succ,i64_w,i32_w]
       rfl
      refine pure_ (i:=6) (N:=some 20) (v:=?_) (a':=?_) #[true,true,true,true,true,false,true,false,false,false,false,false,false,false,false,false,false,false,false,false,false] rfl rfl (any_of HT_.out (by kernel_rfl)) (fun _ _ _ h=>h) (Or.inl ⟨by rfl,?_⟩) ?_ ?_
      rotate_left
      ·intro w'
       go_simp
       with_reducible rfl
      rotate_left
      ·simp only [Act.put,List.setIfInBounds_toArray,List.set_cons_zero,List.set_cons_succ,i64_w,i32_w]
       rfl
      refine take_ (i:=5) (N:=some 19) (v:=?_) (a':=?_) #[true,true,true,true,true,true,true,false,false,false,false,false,false,false,false,false,false,false,false,false,false] rfl rfl (take_ofW HT_.out HW_.out (by kernel_rfl)) (fun _ _ _ h=>h) (Or.inl ⟨by rfl,?_⟩) hHeld ?_ ?_
      rotate_left
      ·rintro w' ⟨s0,s1,s2,s3,s4⟩
       go_simp
       with_reducible rfl
      rotate_left
      ·simp only [Act.put,List.setIfInBounds_toArray,List.set_cons_zero,List.set_cons_succ,i64_w,i32_w]
       rfl
      refine take_ (i:=7) (N:=some 21) (v:=?_) (a':=?_) #[true,true,true,true,true,true,true,true,false,false,false,false,false,false,false,false,false,false,false,false,false] rfl rfl (take_ofW HT_.out HW_.out (by kernel_rfl)) (fun _ _ _ h=>h) (Or.inl ⟨by rfl,?_⟩) hHeld ?_ ?_
      rotate_left
      ·rintro w' ⟨s0,s1,s2,s3,s4⟩
       go_simp
       with_reducible rfl
      rotate_left
      ·simp only [Act.put,List.setIfInBounds_toArray,List.set_cons_zero,List.set_cons_succ,i64_w,i32_w]
       rfl
      refine one_ (i:=8) (N:=some 22) #[true,true,true,true,true,true,true,true,true,false,false,false,false,false,false,false,false,false,false,false,false] rfl rfl (one_of HT_.out (by kernel_rfl)) (by decide) (fun K hK=>?_)
      refine goes_ Try.func24 (by kernel_rfl) rfl #[.agg #[.int .i64 a0_0,.int .i64 a0_1]] (by rfl) rfl rfl (by (try simp only [List.map_toArray,List.map_cons,List.map_nil]);first|done|rfl|(simp only [List.length_drop,List.length_take];rfl)) ?_
      with_reducible refine (slipwayref11_Inodes.calls k a0_0 a0_1 t494 _ A10.out).mono ?_
      rintro e w18 ⟨rfl,hb⟩
      refine ⟨_,rfl,?_⟩
      have n0_:=Aside0.mk (blk_below (g:=gb492) (o:=.cells #[.int .i64 a0_0,.int .i64 a0_1,.int .i64 a0_2,.bool a0_3,.int .i64 a0_4] 63 (0,0)) (by (with_reducible repeat (first|refine blk_drewN ?_ _|refine blk_drew ?_|refine blk_alloc ?_ _));exact BK492.out) hb)
      have n1_:=Aside0.mk (below_step (by repeat (first|(with_reducible first|exact HB.out|apply below_alloc|apply pw_below_drewN|apply below_drew1|refine below_set ?_ GE492.out)|exact HB.out)) hb)
      clear BK492 HB
      have BK492:=n0_
      have HB:=n1_
      clear n0_ n1_
      (try clear hb)
      (try clear hb2)
      (try clear hk)
      (try clear hi)
      refine hK.out _ _ ⟨(blk_cell BK492.out 0).trans rfl,(blk_cell BK492.out 1).trans rfl,(blk_cell BK492.out 2).trans rfl,(blk_cell BK492.out 3).trans rfl,(blk_cell BK492.out 4).trans rfl⟩ (fun hHeld=>?_)
      clear hK K
      refine norm_ (a':=?_) ?_ ?_
      rotate_left
      ·show Act.put _ (some 22) _=_
       simp only [Act.put,List.setIfInBounds_toArray,List.set_cons_zero,List.set_cons_succ,i64_w,i32_w]
       rfl
      refine pure_ (i:=9) (N:=some 23) (v:=?_) (a':=?_) #[true,true,true,true,true,true,true,true,true,true,false,false,false,false,false,false,false,false,false,false,false] rfl rfl (any_of HT_.out (by kernel_rfl)) (fun _ _ _ h=>h) (Or.inl ⟨by rfl,?_⟩) ?_ ?_
      rotate_left
      ·intro w'
       go_simp
       with_reducible rfl
      rotate_left
      ·simp only [Act.put,List.setIfInBounds_toArray,List.set_cons_zero,List.set_cons_succ,i64_w,i32_w]
       rfl
      refine pure_ (i:=10) (N:=some 24) (v:=?_) (a':=?_) #[true,true,true,true,true,true,true,true,true,true,true,false,false,false,false,false,false,false,false,false,false] rfl rfl (any_of HT_.out (by kernel_rfl)) (fun _ _ _ h=>h) (Or.inl ⟨by rfl,?_⟩) ?_ ?_
      rotate_left
      ·intro w'
       go_simp
       with_reducible rfl
      rotate_left
      ·simp only [Act.put,List.setIfInBounds_toArray,List.set_cons_zero,List.set_cons_succ,i64_w,i32_w]
       rfl
      refine pure_ (i:=11) (N:=some 25) (v:=?_) (a':=?_) #[true,true,true,true,true,true,true,true,true,true,true,true,false,false,false,false,false,false,false,false,false] rfl rfl (any_of HT_.out (by kernel_rfl)) (fun _ _ _ h=>h) (Or.inl ⟨by rfl,?_⟩) ?_ ?_
      rotate_left
      ·intro w'
       go_simp
       with_reducible rfl
      rotate_left
      ·simp only [Act.put,List.setIfInBounds_toArray,List.set_cons_zero,List.set_cons_succ,i64_w,i32_w]
       rfl
      refine pure_ (i:=12) (N:=some 26) (v:=?_) (a':=?_) #[true,true,true,true,true,true,true,true,true,true,true,true,true,false,false,false,false,false,false,false,false] rfl rfl (any_of HT_.out (by kernel_rfl)) (fun _ _ _ h=>h) (Or.inl ⟨by rfl,?_⟩) ?_ ?_
      rotate_left
      ·intro w'
       go_simp
       with_reducible rfl
      rotate_left
      ·simp only [Act.put,List.setIfInBounds_toArray,List.set_cons_zero,List.set_cons_succ,i64_w,i32_w]
       rfl
      refine take_ (i:=13) (N:=some 27) (v:=?_) (a':=?_) #[true,true,true,true,true,true,true,true,true,true,true,true,true,true,false,false,false,false,false,false,false] rfl rfl (take_ofW HT_.out HW_.out (by kernel_rfl)) (fun _ _ _ h=>h) (Or.inl ⟨by rfl,?_⟩) hHeld ?_ ?_
      rotate_left
      ·rintro w' ⟨s0,s1,s2,s3,s4⟩
       go_simp
       with_reducible rfl
      rotate_left
      ·simp only [Act.put,List.setIfInBounds_toArray,List.set_cons_zero,List.set_cons_succ,i64_w,i32_w]
       rfl
      refine pure_ (i:=14) (N:=some 28) (v:=?_) (a':=?_) #[true,true,true,true,true,true,true,true,true,true,true,true,true,true,true,false,false,false,false,false,false] rfl rfl (any_of HT_.out (by kernel_rfl)) (fun _ _ _ h=>h) (Or.inl ⟨by rfl,?_⟩) ?_ ?_
      rotate_left
      ·intro w'
       go_simp
       with_reducible rfl
      rotate_left
      ·simp only [Act.put,List.setIfInBounds_toArray,List.set_cons_zero,List.set_cons_succ,i64_w,i32_w]
       rfl
      refine pure_ (i:=15) (N:=some 29) (v:=?_) (a':=?_) #[true,true,true,true,true,true,true,true,true,true,true,true,true,true,true,true,false,false,false,false,false] rfl rfl (any_of HT_.out (by kernel_rfl)) (fun _ _ _ h=>h) (Or.inl ⟨by rfl,?_⟩) ?_ ?_
      rotate_left
      ·intro w'
       go_simp
       with_reducible rfl
      rotate_left
      ·simp only [Act.put,List.setIfInBounds_toArray,List.set_cons_zero,List.set_cons_succ,i64_w,i32_w]
       rfl
      refine pure_ (i:=16) (N:=some 30) (v:=?_) (a':=?_) #[true,true,true,true,true,true,true,true,true,true,true,true,true,true,true,true,true,false,false,false,false] rfl rfl (any_of HT_.out (by kernel_rfl)) (fun _ _ _ h=>h) (Or.inl ⟨by rfl,?_⟩) ?_ ?_
      rotate_left
      ·intro w'
       go_simp
       with_reducible rfl
      rotate_left
      ·simp only [Act.put,List.setIfInBounds_toArray,List.set_cons_zero,List.set_cons_succ,i64_w,i32_w]
       rfl
      refine pure_ (i:=17) (N:=some 31) (v:=?_) (a':=?_) #[true,true,true,true,true,true,true,true,true,true,true,true,true,true,true,true,true,true,false,false,false] rfl rfl (any_of HT_.out (by kernel_rfl)) (fun _ _ _ h=>h) (Or.inl ⟨by rfl,?_⟩) ?_ ?_
      rotate_left
      ·intro w'
       go_simp
       with_reducible rfl
      rotate_left
      ·simp only [Act.put,List.setIfInBounds_toArray,List.set_cons_zero,List.set_cons_succ,i64_w,i32_w]
       rfl
      refine take_ (i:=18) (N:=some 32) (v:=?_) (a':=?_) #[true,true,true,true,true,true,true,true,true,true,true,true,true,true,true,true,true,true,true,false,false] rfl rfl (take_ofW HT_.out HW_.out (by kernel_rfl)) (fun _ _ _ h=>h) (Or.inl ⟨by rfl,?_⟩) hHeld ?_ ?_
      rotate_left
      ·rintro w' ⟨s0,s1,s2,s3,s4⟩
       go_simp
       with_reducible rfl
      rotate_left
      ·simp only [Act.put,List.setIfInBounds_toArray,List.set_cons_zero,List.set_cons_succ,i64_w,i32_w]
       rfl
      refine pure_ (i:=19) (N:=some 33) (v:=?_) (a':=?_) #[true,true,true,true,true,true,true,true,true,true,true,true,true,true,true,true,true,true,true,true,false] rfl rfl (any_of HT_.out (by kernel_rfl)) (fun _ _ _ h=>h) (Or.inl ⟨by rfl,?_⟩) ?_ ?_
      rotate_left
      ·intro w'
       go_simp
       with_reducible rfl
      rotate_left
      ·simp only [Act.put,List.setIfInBounds_toArray,List.set_cons_zero,List.set_cons_succ,i64_w,i32_w]
       rfl
      refine pure_ (i:=20) (N:=some 34) (v:=?_) (a':=?_) #[true,true,true,true,true,true,true,true,true,true,true,true,true,true,true,true,true,true,true,true,true] rfl rfl (any_of HT_.out (by kernel_rfl)) (fun _ _ _ h=>h) (Or.inl ⟨by rfl,?_⟩) ?_ ?_
      rotate_left
      ·intro w'
       go_simp
       with_reducible rfl
      rotate_left
      ·simp only [Act.put,List.setIfInBounds_toArray,List.set_cons_zero,List.set_cons_succ,i64_w,i32_w]
       rfl
      refine done_ (done_of HT_.out (by kernel_rfl)) ?_
      try go_wp2
      go_meet
      case rel=>exact ⟨_,(decide (a0_4 > 1152921504606846976)),(by first|rfl|(simp;done)|(simp [*];done)),H',⟨by first|omega|exact Nat.le_refl _⟩,⟨by (with_reducible repeat (first|refine blk_drewN ?_ _|refine blk_drew ?_|refine blk_alloc ?_ _));exact BK492.out⟩,⟨by repeat (first|(with_reducible first|exact HB.out|apply below_alloc|apply pw_below_drewN|apply below_drew1|refine below_set ?_ GE492.out)|exact HB.out)⟩⟩
  case rest =>
   clear HC4
   try clear c1
   try clear c2
   try clear p2
   try clear c8
   try clear c8b0
   try clear c11
   try clear c11b0
   try clear c14
   try clear c14b0
   obtain ⟨kq,x34_3,rfl,HA,HJ3,BK492,HB⟩:=hcut
   cases kq with
   | zero=>exact absurd HA.out (by simp [slipwayref11_EncodeSuper.j0])
   | succ kj3 =>
    have H:=HA.out
    clear HA
    simp only [slipwayref11_EncodeSuper.j0] at H
    by_cases c19:x34_3=true
    ·subst c19
     have H1:(some (([]:List Int),1))=some (r1,r2):=by rw [if_pos rfl] at H;exact H
     clear H
     have H:=H1
     clear H1
     simp only [Option.some.injEq,Prod.mk.injEq] at H
     obtain ⟨rfl,rfl⟩:=H
     go_wp2
     go_ret2
     exact ⟨_,by first|rfl|(simp [errW_none,errW_some] <;> rfl)|(simp [*,errW_none,errW_some] <;> rfl),by first|exact Kd.R_nil _ _ _ _ _|exact Kd.N_nil _ _ _ _ _|exact Kd.V_nil _ _ _ _ _|exact Kd.Q_nil _ _ _ _ _|exact Kd.S_nil _ _ _ _ _,by repeat (first|(with_reducible first|exact HB.out|apply below_alloc|apply pw_below_drewN|apply below_drew1|refine below_set ?_ GE492.out)|exact HB.out)⟩
    ·replace c19:=Bool.eq_false_iff.mpr c19
     subst c19
     have H1:(if a0_3=true then (slipwayref11_EncodeSuper.j1 kj3 1 a0_0 a0_1 a0_2 a0_3 a0_4) else (slipwayref11_EncodeSuper.j1 kj3 0 a0_0 a0_1 a0_2 a0_3 a0_4))=some (r1,r2):=by rw [if_neg (show ¬ (false=true) by decide)] at H;exact H
     clear H
     have H:=H1
     clear H1
     have HC20:=Aside0.mk H
     clear H
     have hcz21_0:wc.cell? ⟨gb492,0,none⟩=some (.int .i64 a0_0):=(blk_cell BK492.out 0).trans rfl
     have hcz21_1:wc.cell? ⟨gb492,1,none⟩=some (.int .i64 a0_1):=(blk_cell BK492.out 1).trans rfl
     have hcz21_2:wc.cell? ⟨gb492,2,none⟩=some (.int .i64 a0_2):=(blk_cell BK492.out 2).trans rfl
     have hcz21_3:wc.cell? ⟨gb492,3,none⟩=some (.bool a0_3):=(blk_cell BK492.out 3).trans rfl
     have hcz21_4:wc.cell? ⟨gb492,4,none⟩=some (.int .i64 a0_4):=(blk_cell BK492.out 4).trans rfl
     have hfz21_0:=blk_frozen BK492.out 0
     have hfz21_1:=blk_frozen BK492.out 1
     have hfz21_2:=blk_frozen BK492.out 2
     have hfz21_3:=blk_frozen BK492.out 3
     have hfz21_4:=blk_frozen BK492.out 4
     go_upto_if 36 with (fail)
     go_cut [5] (fun v5 wc=>∃ (kq:Nat) (x5_19:Int),v5=.int .u64 x5_19∧Aside0 (slipwayref11_EncodeSuper.j1 kq x5_19 a0_0 a0_1 a0_2 a0_3 a0_4=some (r1,r2))∧Aside0 (kq≤kj3)∧Aside0 (wc.heap[gb492]?=some (.cells #[.int .i64 a0_0,.int .i64 a0_1,.int .i64 a0_2,.bool a0_3,.int .i64 a0_4] 63 (0,0)))∧Aside0 (Below w.heap.size w wc))
     case first =>
      have H:=HC20.out
      clear HC20
      by_cases c22:a0_3=true
      ·subst c22
       have H1:(slipwayref11_EncodeSuper.j1 kj3 1 a0_0 a0_1 a0_2 true a0_4)=some (r1,r2):=by rw [if_pos rfl] at H;exact H
       clear H
       have H:=H1
       clear H1
       have H':=Aside0.mk H
       clear H
       go_wp2
       go_meet
       case rel=>exact ⟨_,(1),(by first|rfl|(simp;done)|(simp [*];done)),H',⟨by have:=HJ3.out;first|omega|exact Nat.le_refl _⟩,⟨by (with_reducible repeat (first|refine blk_drewN ?_ _|refine blk_drew ?_|refine blk_alloc ?_ _));exact BK492.out⟩,⟨by repeat (first|(with_reducible first|exact HB.out|apply below_alloc|apply pw_below_drewN|apply below_drew1|refine below_set ?_ GE492.out)|exact HB.out)⟩⟩
      ·replace c22:=Bool.eq_false_iff.mpr c22
       subst c22
       have H1:(slipwayref11_EncodeSuper.j1 kj3 0 a0_0 a0_1 a0_2 false a0_4)=some (r1,r2):=by rw [if_neg (show ¬ (false=true) by decide)] at H;exact H
       clear H
       have H:=H1
       clear H1
       have H':=Aside0.mk H
       clear H
       go_wp2
       go_meet
       case rel=>exact ⟨_,(0),(by first|rfl|(simp;done)|(simp [*];done)),H',⟨by have:=HJ3.out;first|omega|exact Nat.le_refl _⟩,⟨by (with_reducible repeat (first|refine blk_drewN ?_ _|refine blk_drew ?_|refine blk_alloc ?_ _));exact BK492.out⟩,⟨by repeat (first|(with_reducible first|exact HB.out|apply below_alloc|apply pw_below_drewN|apply below_drew1|refine below_set ?_ GE492.out)|exact HB.out)⟩⟩
     case rest =>
      clear HC20
      try clear c1
      try clear c2
      try clear p2
      try clear c8
      try clear c8b0
      try clear c11
      try clear c11b0
      try clear c14
      try clear c14b0
      try clear c19
      try clear c22
      try clear hcz21_0
      try clear hcz21_1
      try clear hcz21_2
      try clear hcz21_3
      try clear hcz21_4
      try clear hfz21_0
      try clear hfz21_1
      try clear hfz21_2
      try clear hfz21_3
      try clear hfz21_4
      try clear p2
      obtain ⟨kq,x5_19,rfl,HA,HJ19,BK492,HB⟩:=hcut
      cases kq with
      | zero=>exact absurd HA.out (by simp [slipwayref11_EncodeSuper.j1])
      | succ kj19 =>
       have H:=HA.out
       clear HA
       simp only [slipwayref11_EncodeSuper.j1] at H
       replace H:=Option.bind_eq_some_iff.mp H
       obtain ⟨t495,A230,H⟩:=H
       replace H:((slipwayref01_Pack.f kj19 t495 (([1397508432,IntKind.u64.wrap (a0_0),IntKind.u64.wrap (a0_1),x5_19,IntKind.u64.wrap (a0_2),IntKind.u64.wrap (a0_4)]:List Int))).bind fun bt501=>(slipwayref11_EncodeSuper.l0 kj19 bt501.1))=some (r1,r2):=H
       have A23:=Aside0.mk A230
       clear A230
       obtain ⟨y498,hy498⟩:∃ y_:List Int,y_=(([1397508432,IntKind.u64.wrap (a0_0),IntKind.u64.wrap (a0_1),x5_19,IntKind.u64.wrap (a0_2),IntKind.u64.wrap (a0_4)]:List Int)):=⟨_,rfl⟩
       replace H:((slipwayref01_Pack.f kj19 t495 y498).bind fun bt501=>(slipwayref11_EncodeSuper.l0 kj19 bt501.1))=some (r1,r2):=by first|(rw [hy498];with_reducible exact H)|(have H2_:=(Option.bind_some _ _).symm.trans H;rw [hy498];with_reducible exact H2_)|(have H2_:=(Option.bind_some _ _).symm.trans H;with_reducible exact H2_)|with_reducible exact H|(rw [hy498];exact H)|exact H
       have Ny498:=Aside0.mk hy498
       clear hy498
       replace H:=Option.bind_eq_some_iff.mp H
       obtain ⟨⟨t501,t502⟩,A240,H⟩:=H
       replace H:(slipwayref11_EncodeSuper.l0 kj19 t501)=some (r1,r2):=H
       have A24:=Aside0.mk A240
       clear A240
       have H':=Aside0.mk H
       clear H
       try go_wp2
       have n0_:=Aside0.mk (blk_drew BK492.out)
       have n1_:=Aside0.mk (below_drew1 HB.out)
       clear BK492 HB
       have BK492:=n0_
       have HB:=n1_
       clear n0_ n1_
       refine start_ (n:=23) (S:=fun w'=>True) (ds:=[]) #[false,false,false,false,false,false,false,false,false,false,false,false,false,false,false,false,false,false,false,false,false,false,false] (by kernel_rfl) rfl rfl trivial (fun hHeld=>?_);refine with_tabW slipwayref11_EncodeSuper.tab9 slipwayref11_EncodeSuper.bits9 (fun HT_ HW_=>?_)
       generalize wc.drew=w25 at BK492 HB hHeld ⊢
       refine pure_ (i:=1) (N:=some 39) (v:=?_) (a':=?_) #[false,true,false,false,false,false,false,false,false,false,false,false,false,false,false,false,false,false,false,false,false,false,false] rfl rfl (any_of HT_.out (by kernel_rfl)) (fun _ _ _ h=>h) (Or.inl ⟨by rfl,?_⟩) ?_ ?_
       rotate_left
       ·intro w'
        go_simp
        with_reducible rfl
       rotate_left
       ·simp only [Act.put,List.setIfInBounds_toArray,List.set_cons_zero,List.set_cons_succ,i64_w,i32_w]
        rfl
       refine pure_ (i:=2) (N:=some 40) (v:=?_) (a':=?_) #[false,true,true,false,false,false,false,false,false,false,false,false,false,false,false,false,false,false,false,false,false,false,false] rfl rfl (any_of HT_.out (by kernel_rfl)) (fun _ _ _ h=>h) (Or.inl ⟨by rfl,?_⟩) ?_ ?_
       rotate_left
       ·intro w'
        go_simp
        with_reducible rfl
       rotate_left
       ·simp only [Act.put,List.setIfInBounds_toArray,List.set_cons_zero,List.set_cons_succ,i64_w,i32_w]
        rfl
       refine pure_ (i:=5) (N:=some 43) (v:=?_) (a':=?_) #[false,true,true,false,false,true,false,false,false,false,false,false,false,false,false,false,false,false,false,false,false,false,false] rfl rfl (any_of HT_.out (by kernel_rfl)) (fun _ _ _ h=>h) (Or.inl ⟨by rfl,?_⟩) ?_ ?_
       rotate_left
       ·intro w'
        go_simp
        with_reducible rfl
       rotate_left
       ·simp only [Act.put,List.setIfInBounds_toArray,List.set_cons_zero,List.set_cons_succ,i64_w,i32_w]
        rfl
       refine pure_ (i:=6) (N:=some 44) (v:=?_) (a':=?_) #[false,true,true,false,false,true,true,false,false,false,false,false,false,false,false,false,false,false,false,false,false,false,false] rfl rfl (any_of HT_.out (by kernel_rfl)) (fun _ _ _ h=>h) (Or.inl ⟨by rfl,?_⟩) ?_ ?_
       rotate_left
       ·intro w'
        go_simp
        with_reducible rfl
       rotate_left
       ·simp only [Act.put,List.setIfInBounds_toArray,List.set_cons_zero,List.set_cons_succ,i64_w,i32_w]
        rfl
       refine pure_ (i:=9) (N:=some 47) (v:=?_) (a':=?_) #[false,true,true,false,false,true,true,false,false,true,false,false,false,false,false,false,false,false,false,false,false,false,false] rfl rfl (any_of HT_.out (by kernel_rfl)) (fun _ _ _ h=>h) (Or.inl ⟨by rfl,?_⟩) ?_ ?_
       rotate_left
       ·intro w'
        go_simp
        with_reducible rfl
       rotate_left
       ·simp only [Act.put,List.setIfInBounds_toArray,List.set_cons_zero,List.set_cons_succ,i64_w,i32_w]
        rfl
       refine pure_ (i:=10) (N:=some 48) (v:=?_) (a':=?_) #[false,true,true,false,false,true,true,false,false,true,true,false,false,false,false,false,false,false,false,false,false,false,false] rfl rfl (any_of HT_.out (by kernel_rfl)) (fun _ _ _ h=>h) (Or.inl ⟨by rfl,?_⟩) ?_ ?_
       rotate_left
       ·intro w'
        go_simp
        with_reducible rfl
       rotate_left
       ·simp only [Act.put,List.setIfInBounds_toArray,List.set_cons_zero,List.set_cons_succ,i64_w,i32_w]
        rfl
       refine pure_ (i:=13) (N:=some 51) (v:=?_) (a':=?_) #[false,true,true,false,false,true,true,false,false,true,true,false,false,true,false,false,false,false,false,false,false,false,false] rfl rfl (any_of HT_.out (by kernel_rfl)) (fun _ _ _ h=>h) (Or.inl ⟨by rfl,?_⟩) ?_ ?_
       rotate_left
       ·intro w'
        go_simp
        with_reducible rfl
       rotate_left
       ·simp only [Act.put,List.setIfInBounds_toArray,List.set_cons_zero,List.set_cons_succ,i64_w,i32_w]
        rfl
       refine inv_at [0,3,4,7,8,11,12,14,15,16,17,18,19,20,21,22] (fun a0_ b a w'=>∃ (v496:Value) (v499:Value) (v503:Value) (m17_:Value) (m18_:Value) (m19_:Value) (m21_:Value),a=putSel a0_ b [(0,38,v496),(3,41,.int .i64 a0_0),(4,42,.int .u64 (IntKind.u64.wrap (a0_0))),(7,45,.int .i64 a0_1),(8,46,.int .u64 (IntKind.u64.wrap (a0_1))),(11,49,.int .i64 a0_2),(12,50,.int .u64 (IntKind.u64.wrap (a0_2))),(14,52,.int .i64 a0_4),(15,53,.int .u64 (IntKind.u64.wrap (a0_4))),(16,54,v499),(17,55,m17_),(18,37,m18_),(19,56,m19_),(20,57,.int .i64 t502),(21,6,m21_),(22,7,.int .i64 t502)]∧(w'.heap[gb492]?=some (.cells #[.int .i64 a0_0,.int .i64 a0_1,.int .i64 a0_2,.bool a0_3,.int .i64 a0_4] 63 (0,0)))∧(Below w.heap.size w w')∧(b 0=true → Kd.R (Kd.int .i64) 3 w' w.heap.size (fun _=>True) v496 t495)∧(b 16=true → Kd.R (Kd.int .u64) 76 w' w.heap.size (fun _=>True) v499 y498)∧(b 17=true → Kd.R (Kd.int .u8) 5 w' w.heap.size (fun _=>True) v503 t501)∧(b 17=true → (m17_:Value)=.tuple #[v503,.int .i64 t502])∧(b 18=true → (m18_:Value)=.tuple #[v503,.int .i64 t502])∧(b 19=true → (m19_:Value)=v503)∧(b 21=true → (m21_:Value)=v503)) HT_.out HW_.out (by kernel_rfl) (by kernel_rfl) ?_ ?_ ?_
       ·exact ⟨.bool false,.bool false,.bool false,.bool false,.bool false,.bool false,.bool false,by simp only [putSel,Bool.false_eq_true,if_false],BK492.out,HB.out,fun h_=>absurd h_ (by decide),fun h_=>absurd h_ (by decide),fun h_=>absurd h_ (by decide),fun h_=>absurd h_ (by decide),fun h_=>absurd h_ (by decide),fun h_=>absurd h_ (by decide),fun h_=>absurd h_ (by decide)⟩
       ·skip
        clear BK492 HB
        refine steps_cons ?_ ?_
        ·rintro b a w' ⟨v496,v499,v503,m17_,m18_,m19_,m21_,ha,Q_BK492,Q_HB,Q_HO497,Q_HO500,Q_HO504,Q_X17_,Q_X18_,Q_X19_,Q_X21_⟩ hb_ hon hoff
         refine ⟨_,rfl,fun K hK=>?_⟩
         replace ha:=Aside0.mk ha
         have BK492:=Aside0.mk Q_BK492
         have HB:=Aside0.mk Q_HB
         refine goes_ Try.func56 (by kernel_rfl) rfl #[] (by rfl) rfl rfl (by first|(simp only [List.map_toArray,List.map_cons,List.map_nil,Act.eval,Array.getD_eq_getD_getElem?,Option.getD_some];done)|(simp only [List.map_toArray,List.map_cons,List.map_nil,Act.eval,Array.getD_eq_getD_getElem?,Option.getD_some];rfl)) ?_
         with_reducible refine (slipwayref11_superWidths.calls  t495 _ A23.out).mono ?_
         rintro e w26 ⟨v496,rfl,ho0,hb⟩
         refine ⟨_,rfl,?_⟩
         have n0_:=Aside0.mk (Kd.R_lower ho0 (below_size (by repeat (first|(with_reducible first|exact HB.out|apply below_alloc|apply pw_below_drewN|apply below_drew1|refine below_set ?_ GE492.out)|exact HB.out))))
         have n1_:=Aside0.mk (blk_below (g:=gb492) (o:=.cells #[.int .i64 a0_0,.int .i64 a0_1,.int .i64 a0_2,.bool a0_3,.int .i64 a0_4] 63 (0,0)) (by (with_reducible repeat (first|refine blk_drewN ?_ _|refine blk_drew ?_|refine blk_alloc ?_ _));exact BK492.out) hb)
         have n2_:=Aside0.mk (below_step (by repeat (first|(with_reducible first|exact HB.out|apply below_alloc|apply pw_below_drewN|apply below_drew1|refine below_set ?_ GE492.out)|exact HB.out)) hb)
         have z_HO500:=fun (h0_:b 16=true)=>(show Kd.R (Kd.int .u64) 76 w26 w.heap.size (fun _=>True) v499 y498 from by first|exact (Kd.R_below (by (with_reducible repeat (first|apply Kd.R_alloc|apply Kd.R_drewN|apply Kd.R_drew));exact (Q_HO500 h0_)) hb)|exact Kd.R_mono (Kd.R_below (by (with_reducible repeat (first|apply Kd.R_alloc|apply Kd.R_drewN|apply Kd.R_drew));exact (Q_HO500 h0_)) hb) (fun _ h_=>by first|trivial|exact h_|exact h_.1))
         clear BK492 HB
         have HO497:=n0_
         have BK492:=n1_
         have HB:=n2_
         clear n0_ n1_ n2_
         (try clear hb)
         (try clear hb2)
         (try clear hk)
         (try clear hi)
         (try clear ho0)
         refine hK.out _ _ ⟨v496,v499,v503,m17_,m18_,m19_,m21_,(by rw [ha.out];exact putSel_upk 0 hb_ rfl rfl rfl),(by (with_reducible repeat (first|refine blk_drewN ?_ _|refine blk_drew ?_|refine blk_alloc ?_ _));exact BK492.out),(by repeat (first|(with_reducible first|exact HB.out|apply below_alloc|apply pw_below_drewN|apply below_drew1|refine below_set ?_ GE492.out)|exact HB.out)),fun _=>(by (with_reducible repeat (first|apply Kd.R_alloc|apply Kd.R_drewN|apply Kd.R_drew));exact HO497.out),z_HO500,fun h0_=>absurd ((hoff 17 (by kernel_rfl)).symm.trans h0_) (by decide),fun h0_=>absurd ((hoff 17 (by kernel_rfl)).symm.trans h0_) (by decide),fun h0_=>absurd ((hoff 18 (by kernel_rfl)).symm.trans h0_) (by decide),fun h0_=>absurd ((hoff 19 (by kernel_rfl)).symm.trans h0_) (by decide),fun h0_=>absurd ((hoff 21 (by kernel_rfl)).symm.trans h0_) (by decide)⟩
        refine steps_cons ?_ ?_
        ·rintro b a w' ⟨v496,v499,v503,m17_,m18_,m19_,m21_,ha,Q_BK492,Q_HB,Q_HO497,Q_HO500,Q_HO504,Q_X17_,Q_X18_,Q_X19_,Q_X21_⟩ hb_ hon hoff
         refine ⟨_,rfl,fun K hK=>?_⟩
         have e40:a.tmps[40]?=some (.pointer (some ⟨gb492,0,none⟩)):=by rw [ha];exact (putSel_off rfl).trans rfl
         replace ha:=Aside0.mk ha
         have BK492:=Aside0.mk Q_BK492
         have HB:=Aside0.mk Q_HB
         have hc0_:w'.cell? ⟨gb492,0,none⟩=some (.int .i64 a0_0):=(blk_cell BK492.out 0).trans rfl
         have hc1_:w'.cell? ⟨gb492,1,none⟩=some (.int .i64 a0_1):=(blk_cell BK492.out 1).trans rfl
         have hc2_:w'.cell? ⟨gb492,2,none⟩=some (.int .i64 a0_2):=(blk_cell BK492.out 2).trans rfl
         have hc3_:w'.cell? ⟨gb492,3,none⟩=some (.bool a0_3):=(blk_cell BK492.out 3).trans rfl
         have hc4_:w'.cell? ⟨gb492,4,none⟩=some (.int .i64 a0_4):=(blk_cell BK492.out 4).trans rfl
         refine value_ (w1:=w') (v:=.int .i64 a0_0) (by rfl) rfl ?_ ?_
         ·go_simp
          (try simp only [i64_w])
          try rfl
         refine hK.out _ _ ⟨v496,v499,v503,m17_,m18_,m19_,m21_,(by rw [ha.out];exact putSel_upk 1 hb_ rfl rfl rfl),Q_BK492,Q_HB,Q_HO497,fun h0_=>absurd ((hoff 16 (by kernel_rfl)).symm.trans h0_) (by decide),fun h0_=>absurd ((hoff 17 (by kernel_rfl)).symm.trans h0_) (by decide),fun h0_=>absurd ((hoff 17 (by kernel_rfl)).symm.trans h0_) (by decide),fun h0_=>absurd ((hoff 18 (by kernel_rfl)).symm.trans h0_) (by decide),fun h0_=>absurd ((hoff 19 (by kernel_rfl)).symm.trans h0_) (by decide),fun h0_=>absurd ((hoff 21 (by kernel_rfl)).symm.trans h0_) (by decide)⟩
        refine steps_cons ?_ ?_
        ·rintro b a w' ⟨v496,v499,v503,m17_,m18_,m19_,m21_,ha,Q_BK492,Q_HB,Q_HO497,Q_HO500,Q_HO504,Q_X17_,Q_X18_,Q_X19_,Q_X21_⟩ hb_ hon hoff
         refine ⟨_,rfl,fun K hK=>?_⟩
         have e41:a.tmps[41]?=some (.int .i64 a0_0):=by rw [ha];exact putSel_on (e:=(3,41,.int .i64 a0_0)) 1 rfl rfl (hon 3 (by kernel_rfl)) rfl
         replace ha:=Aside0.mk ha
         have BK492:=Aside0.mk Q_BK492
         have HB:=Aside0.mk Q_HB
         refine value_ (w1:=w') (v:=.int .u64 (IntKind.u64.wrap (a0_0))) (by rfl) rfl ?_ ?_
         ·go_simp
          (try simp only [i64_w])
          try rfl
         refine hK.out _ _ ⟨v496,v499,v503,m17_,m18_,m19_,m21_,(by rw [ha.out];exact putSel_upk 2 hb_ rfl rfl rfl),Q_BK492,Q_HB,Q_HO497,fun h0_=>absurd ((hoff 16 (by kernel_rfl)).symm.trans h0_) (by decide),fun h0_=>absurd ((hoff 17 (by kernel_rfl)).symm.trans h0_) (by decide),fun h0_=>absurd ((hoff 17 (by kernel_rfl)).symm.trans h0_) (by decide),fun h0_=>absurd ((hoff 18 (by kernel_rfl)).symm.trans h0_) (by decide),fun h0_=>absurd ((hoff 19 (by kernel_rfl)).symm.trans h0_) (by decide),fun h0_=>absurd ((hoff 21 (by kernel_rfl)).symm.trans h0_) (by decide)⟩
        refine steps_cons ?_ ?_
        ·rintro b a w' ⟨v496,v499,v503,m17_,m18_,m19_,m21_,ha,Q_BK492,Q_HB,Q_HO497,Q_HO500,Q_HO504,Q_X17_,Q_X18_,Q_X19_,Q_X21_⟩ hb_ hon hoff
         refine ⟨_,rfl,fun K hK=>?_⟩
         have e44:a.tmps[44]?=some (.pointer (some ⟨gb492,1,none⟩)):=by rw [ha];exact (putSel_off rfl).trans rfl
         replace ha:=Aside0.mk ha
         have BK492:=Aside0.mk Q_BK492
         have HB:=Aside0.mk Q_HB
         have hc0_:w'.cell? ⟨gb492,0,none⟩=some (.int .i64 a0_0):=(blk_cell BK492.out 0).trans rfl
         have hc1_:w'.cell? ⟨gb492,1,none⟩=some (.int .i64 a0_1):=(blk_cell BK492.out 1).trans rfl
         have hc2_:w'.cell? ⟨gb492,2,none⟩=some (.int .i64 a0_2):=(blk_cell BK492.out 2).trans rfl
         have hc3_:w'.cell? ⟨gb492,3,none⟩=some (.bool a0_3):=(blk_cell BK492.out 3).trans rfl
         have hc4_:w'.cell? ⟨gb492,4,none⟩=some (.int .i64 a0_4):=(blk_cell BK492.out 4).trans rfl
         refine value_ (w1:=w') (v:=.int .i64 a0_1) (by rfl) rfl ?_ ?_
         ·go_simp
          (try simp only [i64_w])
          try rfl
         refine hK.out _ _ ⟨v496,v499,v503,m17_,m18_,m19_,m21_,(by rw [ha.out];exact putSel_upk 3 hb_ rfl rfl rfl),Q_BK492,Q_HB,Q_HO497,fun h0_=>absurd ((hoff 16 (by kernel_rfl)).symm.trans h0_) (by decide),fun h0_=>absurd ((hoff 17 (by kernel_rfl)).symm.trans h0_) (by decide),fun h0_=>absurd ((hoff 17 (by kernel_rfl)).symm.trans h0_) (by decide),fun h0_=>absurd ((hoff 18 (by kernel_rfl)).symm.trans h0_) (by decide),fun h0_=>absurd ((hoff 19 (by kernel_rfl)).symm.trans h0_) (by decide),fun h0_=>absurd ((hoff 21 (by kernel_rfl)).symm.trans h0_) (by decide)⟩
        refine steps_cons ?_ ?_
        ·rintro b a w' ⟨v496,v499,v503,m17_,m18_,m19_,m21_,ha,Q_BK492,Q_HB,Q_HO497,Q_HO500,Q_HO504,Q_X17_,Q_X18_,Q_X19_,Q_X21_⟩ hb_ hon hoff
         refine ⟨_,rfl,fun K hK=>?_⟩
         have e45:a.tmps[45]?=some (.int .i64 a0_1):=by rw [ha];exact putSel_on (e:=(7,45,.int .i64 a0_1)) 3 rfl rfl (hon 7 (by kernel_rfl)) rfl
         replace ha:=Aside0.mk ha
         have BK492:=Aside0.mk Q_BK492
         have HB:=Aside0.mk Q_HB
         refine value_ (w1:=w') (v:=.int .u64 (IntKind.u64.wrap (a0_1))) (by rfl) rfl ?_ ?_
         ·go_simp
          (try simp only [i64_w])
          try rfl
         refine hK.out _ _ ⟨v496,v499,v503,m17_,m18_,m19_,m21_,(by rw [ha.out];exact putSel_upk 4 hb_ rfl rfl rfl),Q_BK492,Q_HB,Q_HO497,fun h0_=>absurd ((hoff 16 (by kernel_rfl)).symm.trans h0_) (by decide),fun h0_=>absurd ((hoff 17 (by kernel_rfl)).symm.trans h0_) (by decide),fun h0_=>absurd ((hoff 17 (by kernel_rfl)).symm.trans h0_) (by decide),fun h0_=>absurd ((hoff 18 (by kernel_rfl)).symm.trans h0_) (by decide),fun h0_=>absurd ((hoff 19 (by kernel_rfl)).symm.trans h0_) (by decide),fun h0_=>absurd ((hoff 21 (by kernel_rfl)).symm.trans h0_) (by decide)⟩
        refine steps_cons ?_ ?_
        ·rintro b a w' ⟨v496,v499,v503,m17_,m18_,m19_,m21_,ha,Q_BK492,Q_HB,Q_HO497,Q_HO500,Q_HO504,Q_X17_,Q_X18_,Q_X19_,Q_X21_⟩ hb_ hon hoff
         refine ⟨_,rfl,fun K hK=>?_⟩
         have e48:a.tmps[48]?=some (.pointer (some ⟨gb492,2,none⟩)):=by rw [ha];exact (putSel_off rfl).trans rfl
         replace ha:=Aside0.mk ha
         have BK492:=Aside0.mk Q_BK492
         have HB:=Aside0.mk Q_HB
         have hc0_:w'.cell? ⟨gb492,0,none⟩=some (.int .i64 a0_0):=(blk_cell BK492.out 0).trans rfl
         have hc1_:w'.cell? ⟨gb492,1,none⟩=some (.int .i64 a0_1):=(blk_cell BK492.out 1).trans rfl
         have hc2_:w'.cell? ⟨gb492,2,none⟩=some (.int .i64 a0_2):=(blk_cell BK492.out 2).trans rfl
         have hc3_:w'.cell? ⟨gb492,3,none⟩=some (.bool a0_3):=(blk_cell BK492.out 3).trans rfl
         have hc4_:w'.cell? ⟨gb492,4,none⟩=some (.int .i64 a0_4):=(blk_cell BK492.out 4).trans rfl
         refine value_ (w1:=w') (v:=.int .i64 a0_2) (by rfl) rfl ?_ ?_
         ·go_simp
          (try simp only [i64_w])
          try rfl
         refine hK.out _ _ ⟨v496,v499,v503,m17_,m18_,m19_,m21_,(by rw [ha.out];exact putSel_upk 5 hb_ rfl rfl rfl),Q_BK492,Q_HB,Q_HO497,fun h0_=>absurd ((hoff 16 (by kernel_rfl)).symm.trans h0_) (by decide),fun h0_=>absurd ((hoff 17 (by kernel_rfl)).symm.trans h0_) (by decide),fun h0_=>absurd ((hoff 17 (by kernel_rfl)).symm.trans h0_) (by decide),fun h0_=>absurd ((hoff 18 (by kernel_rfl)).symm.trans h0_) (by decide),fun h0_=>absurd ((hoff 19 (by kernel_rfl)).symm.trans h0_) (by decide),fun h0_=>absurd ((hoff 21 (by kernel_rfl)).symm.trans h0_) (by decide)⟩
        refine steps_cons ?_ ?_
        ·rintro b a w' ⟨v496,v499,v503,m17_,m18_,m19_,m21_,ha,Q_BK492,Q_HB,Q_HO497,Q_HO500,Q_HO504,Q_X17_,Q_X18_,Q_X19_,Q_X21_⟩ hb_ hon hoff
         refine ⟨_,rfl,fun K hK=>?_⟩
         have e49:a.tmps[49]?=some (.int .i64 a0_2):=by rw [ha];exact putSel_on (e:=(11,49,.int .i64 a0_2)) 5 rfl rfl (hon 11 (by kernel_rfl)) rfl
         replace ha:=Aside0.mk ha
         have BK492:=Aside0.mk Q_BK492
         have HB:=Aside0.mk Q_HB
         refine value_ (w1:=w') (v:=.int .u64 (IntKind.u64.wrap (a0_2))) (by rfl) rfl ?_ ?_
         ·go_simp
          (try simp only [i64_w])
          try rfl
         refine hK.out _ _ ⟨v496,v499,v503,m17_,m18_,m19_,m21_,(by rw [ha.out];exact putSel_upk 6 hb_ rfl rfl rfl),Q_BK492,Q_HB,Q_HO497,fun h0_=>absurd ((hoff 16 (by kernel_rfl)).symm.trans h0_) (by decide),fun h0_=>absurd ((hoff 17 (by kernel_rfl)).symm.trans h0_) (by decide),fun h0_=>absurd ((hoff 17 (by kernel_rfl)).symm.trans h0_) (by decide),fun h0_=>absurd ((hoff 18 (by kernel_rfl)).symm.trans h0_) (by decide),fun h0_=>absurd ((hoff 19 (by kernel_rfl)).symm.trans h0_) (by decide),fun h0_=>absurd ((hoff 21 (by kernel_rfl)).symm.trans h0_) (by decide)⟩
        refine steps_cons ?_ ?_
        ·rintro b a w' ⟨v496,v499,v503,m17_,m18_,m19_,m21_,ha,Q_BK492,Q_HB,Q_HO497,Q_HO500,Q_HO504,Q_X17_,Q_X18_,Q_X19_,Q_X21_⟩ hb_ hon hoff
         refine ⟨_,rfl,fun K hK=>?_⟩
         have e51:a.tmps[51]?=some (.pointer (some ⟨gb492,4,none⟩)):=by rw [ha];exact (putSel_off rfl).trans rfl
         replace ha:=Aside0.mk ha
         have BK492:=Aside0.mk Q_BK492
         have HB:=Aside0.mk Q_HB
         have hc0_:w'.cell? ⟨gb492,0,none⟩=some (.int .i64 a0_0):=(blk_cell BK492.out 0).trans rfl
         have hc1_:w'.cell? ⟨gb492,1,none⟩=some (.int .i64 a0_1):=(blk_cell BK492.out 1).trans rfl
         have hc2_:w'.cell? ⟨gb492,2,none⟩=some (.int .i64 a0_2):=(blk_cell BK492.out 2).trans rfl
         have hc3_:w'.cell? ⟨gb492,3,none⟩=some (.bool a0_3):=(blk_cell BK492.out 3).trans rfl
         have hc4_:w'.cell? ⟨gb492,4,none⟩=some (.int .i64 a0_4):=(blk_cell BK492.out 4).trans rfl
         refine value_ (w1:=w') (v:=.int .i64 a0_4) (by rfl) rfl ?_ ?_
         ·go_simp
          (try simp only [i64_w])
          try rfl
         refine hK.out _ _ ⟨v496,v499,v503,m17_,m18_,m19_,m21_,(by rw [ha.out];exact putSel_upk 7 hb_ rfl rfl rfl),Q_BK492,Q_HB,Q_HO497,fun h0_=>absurd ((hoff 16 (by kernel_rfl)).symm.trans h0_) (by decide),fun h0_=>absurd ((hoff 17 (by kernel_rfl)).symm.trans h0_) (by decide),fun h0_=>absurd ((hoff 17 (by kernel_rfl)).symm.trans h0_) (by decide),fun h0_=>absurd ((hoff 18 (by kernel_rfl)).symm.trans h0_) (by decide),fun h0_=>absurd ((hoff 19 (by kernel_rfl)).symm.trans h0_) (by decide),fun h0_=>absurd ((hoff 21 (by kernel_rfl)).symm.trans h0_) (by decide)⟩
        refine steps_cons ?_ ?_
        ·rintro b a w' ⟨v496,v499,v503,m17_,m18_,m19_,m21_,ha,Q_BK492,Q_HB,Q_HO497,Q_HO500,Q_HO504,Q_X17_,Q_X18_,Q_X19_,Q_X21_⟩ hb_ hon hoff
         refine ⟨_,rfl,fun K hK=>?_⟩
         have e52:a.tmps[52]?=some (.int .i64 a0_4):=by rw [ha];exact putSel_on (e:=(14,52,.int .i64 a0_4)) 7 rfl rfl (hon 14 (by kernel_rfl)) rfl
         replace ha:=Aside0.mk ha
         have BK492:=Aside0.mk Q_BK492
         have HB:=Aside0.mk Q_HB
         refine value_ (w1:=w') (v:=.int .u64 (IntKind.u64.wrap (a0_4))) (by rfl) rfl ?_ ?_
         ·go_simp
          (try simp only [i64_w])
          try rfl
         refine hK.out _ _ ⟨v496,v499,v503,m17_,m18_,m19_,m21_,(by rw [ha.out];exact putSel_upk 8 hb_ rfl rfl rfl),Q_BK492,Q_HB,Q_HO497,fun h0_=>absurd ((hoff 16 (by kernel_rfl)).symm.trans h0_) (by decide),fun h0_=>absurd ((hoff 17 (by kernel_rfl)).symm.trans h0_) (by decide),fun h0_=>absurd ((hoff 17 (by kernel_rfl)).symm.trans h0_) (by decide),fun h0_=>absurd ((hoff 18 (by kernel_rfl)).symm.trans h0_) (by decide),fun h0_=>absurd ((hoff 19 (by kernel_rfl)).symm.trans h0_) (by decide),fun h0_=>absurd ((hoff 21 (by kernel_rfl)).symm.trans h0_) (by decide)⟩
        refine steps_cons ?_ ?_
        ·rintro b a w' ⟨v496,v499,v503,m17_,m18_,m19_,m21_,ha,Q_BK492,Q_HB,Q_HO497,Q_HO500,Q_HO504,Q_X17_,Q_X18_,Q_X19_,Q_X21_⟩ hb_ hon hoff
         refine ⟨_,rfl,fun K hK=>?_⟩
         have e42:a.tmps[42]?=some (.int .u64 (IntKind.u64.wrap (a0_0))):=by rw [ha];exact putSel_on (e:=(4,42,.int .u64 (IntKind.u64.wrap (a0_0)))) 2 rfl rfl (hon 4 (by kernel_rfl)) rfl
         have e46:a.tmps[46]?=some (.int .u64 (IntKind.u64.wrap (a0_1))):=by rw [ha];exact putSel_on (e:=(8,46,.int .u64 (IntKind.u64.wrap (a0_1)))) 4 rfl rfl (hon 8 (by kernel_rfl)) rfl
         have e47:a.tmps[47]?=some (.int .u64 x5_19):=by rw [ha];exact (putSel_off rfl).trans rfl
         have e50:a.tmps[50]?=some (.int .u64 (IntKind.u64.wrap (a0_2))):=by rw [ha];exact putSel_on (e:=(12,50,.int .u64 (IntKind.u64.wrap (a0_2)))) 6 rfl rfl (hon 12 (by kernel_rfl)) rfl
         have e53:a.tmps[53]?=some (.int .u64 (IntKind.u64.wrap (a0_4))):=by rw [ha];exact putSel_on (e:=(15,53,.int .u64 (IntKind.u64.wrap (a0_4)))) 8 rfl rfl (hon 15 (by kernel_rfl)) rfl
         replace ha:=Aside0.mk ha
         have BK492:=Aside0.mk Q_BK492
         have HB:=Aside0.mk Q_HB
         refine Kd.R_lit_step (Kd.int .u64) _ 76 ?hg (N:=54) ?hd (xs:=([1397508432,IntKind.u64.wrap (a0_0),IntKind.u64.wrap (a0_1),x5_19,IntKind.u64.wrap (a0_2),IntKind.u64.wrap (a0_4)]:List Int)) (inner:=[.int .u64 1397508432,.int .u64 (IntKind.u64.wrap (a0_0)),.int .u64 (IntKind.u64.wrap (a0_1)),.int .u64 x5_19,.int .u64 (IntKind.u64.wrap (a0_2)),.int .u64 (IntKind.u64.wrap (a0_4))]) (ok:=fun _=>True) (okp:=fun _=>True) ?hr ?hp (fun _ hk=>hk) trivial (Below.refl _ _) (Nat.le_refl _) (by simp) ?_;(case hd=>rfl);(case hg=>rfl);(case hr=>first|(go_simp;done)|(go_simp;rfl));(case hp=>exact (Reps.one (show Kd.M (Kd.int .u64) _ _ _ 1397508432 [.int .u64 1397508432] from rfl) (Reps.one (show Kd.M (Kd.int .u64) _ _ _ (IntKind.u64.wrap (a0_0)) [.int .u64 (IntKind.u64.wrap (a0_0))] from rfl) (Reps.one (show Kd.M (Kd.int .u64) _ _ _ (IntKind.u64.wrap (a0_1)) [.int .u64 (IntKind.u64.wrap (a0_1))] from rfl) (Reps.one (show Kd.M (Kd.int .u64) _ _ _ x5_19 [.int .u64 x5_19] from rfl) (Reps.one (show Kd.M (Kd.int .u64) _ _ _ (IntKind.u64.wrap (a0_2)) [.int .u64 (IntKind.u64.wrap (a0_2))] from rfl) (Reps.one (show Kd.M (Kd.int .u64) _ _ _ (IntKind.u64.wrap (a0_4)) [.int .u64 (IntKind.u64.wrap (a0_4))] from rfl) (Reps.none _ _))))))))
         intro v499 w26 ho27 hb hg_ hnew_
         clear hg_ hnew_
         (first|rw [← Ny498.out] at ho27|(simp only [Int.reduceToNat] at ho27;rw [← Ny498.out] at ho27))
         have n0_:=Aside0.mk (Kd.R_lower ho27 (below_size (by repeat (first|(with_reducible first|exact HB.out|apply below_alloc|apply pw_below_drewN|apply below_drew1|refine below_set ?_ GE492.out)|exact HB.out))))
         have n1_:=Aside0.mk (blk_below (g:=gb492) (o:=.cells #[.int .i64 a0_0,.int .i64 a0_1,.int .i64 a0_2,.bool a0_3,.int .i64 a0_4] 63 (0,0)) (by (with_reducible repeat (first|refine blk_drewN ?_ _|refine blk_drew ?_|refine blk_alloc ?_ _));exact BK492.out) hb)
         have n2_:=Aside0.mk (below_step (by repeat (first|(with_reducible first|exact HB.out|apply below_alloc|apply pw_below_drewN|apply below_drew1|refine below_set ?_ GE492.out)|exact HB.out)) hb)
         have z_HO497:=fun (h0_:b 0=true)=>(show Kd.R (Kd.int .i64) 3 w26 w.heap.size (fun _=>True) v496 t495 from by first|exact (Kd.R_below (by (with_reducible repeat (first|apply Kd.R_alloc|apply Kd.R_drewN|apply Kd.R_drew));exact (Q_HO497 h0_)) hb)|exact Kd.R_mono (Kd.R_below (by (with_reducible repeat (first|apply Kd.R_alloc|apply Kd.R_drewN|apply Kd.R_drew));exact (Q_HO497 h0_)) hb) (fun _ h_=>by first|trivial|exact h_|exact h_.1))
         clear BK492 HB
         have HO500:=n0_
         have BK492:=n1_
         have HB:=n2_
         clear n0_ n1_ n2_ hb ho27
         refine hK.out _ _ ⟨v496,v499,v503,m17_,m18_,m19_,m21_,(by rw [ha.out];exact putSel_upk 9 hb_ rfl rfl rfl),(by (with_reducible repeat (first|refine blk_drewN ?_ _|refine blk_drew ?_|refine blk_alloc ?_ _));exact BK492.out),(by repeat (first|(with_reducible first|exact HB.out|apply below_alloc|apply pw_below_drewN|apply below_drew1|refine below_set ?_ GE492.out)|exact HB.out)),z_HO497,fun _=>(by (with_reducible repeat (first|apply Kd.R_alloc|apply Kd.R_drewN|apply Kd.R_drew));exact HO500.out),fun h0_=>absurd ((hoff 17 (by kernel_rfl)).symm.trans h0_) (by decide),fun h0_=>absurd ((hoff 17 (by kernel_rfl)).symm.trans h0_) (by decide),fun h0_=>absurd ((hoff 18 (by kernel_rfl)).symm.trans h0_) (by decide),fun h0_=>absurd ((hoff 19 (by kernel_rfl)).symm.trans h0_) (by decide),fun h0_=>absurd ((hoff 21 (by kernel_rfl)).symm.trans h0_) (by decide)⟩
        refine steps_cons ?_ ?_
        ·rintro b a w' ⟨v496,v499,v503,m17_,m18_,m19_,m21_,ha,Q_BK492,Q_HB,Q_HO497,Q_HO500,Q_HO504,Q_X17_,Q_X18_,Q_X19_,Q_X21_⟩ hb_ hon hoff
         refine ⟨_,rfl,fun K hK=>?_⟩
         have e38:a.tmps[38]?=some (v496):=by rw [ha];exact putSel_on (e:=(0,38,v496)) 0 rfl rfl (hon 0 (by kernel_rfl)) rfl
         have e54:a.tmps[54]?=some (v499):=by rw [ha];exact putSel_on (e:=(16,54,v499)) 9 rfl rfl (hon 16 (by kernel_rfl)) rfl
         replace ha:=Aside0.mk ha
         have BK492:=Aside0.mk Q_BK492
         have HB:=Aside0.mk Q_HB
         have HO497:=Aside0.mk (Q_HO497 (hon 0 (by kernel_rfl)))
         have HO500:=Aside0.mk (Q_HO500 (hon 16 (by kernel_rfl)))
         obtain ⟨Ao30,co30,eo30⟩:=Kd.R_slice HO497.out
         (first|subst eo30|(injection eo30 with f1_ f2_ f3_;have f4_:=f1_.symm;have f5_:=f3_.symm;clear f1_ f2_ f3_;subst f4_;subst f5_))
         obtain ⟨Ao31,co31,eo31⟩:=Kd.R_slice HO500.out
         (first|subst eo31|(injection eo31 with f1_ f2_ f3_;have f4_:=f1_.symm;have f5_:=f3_.symm;clear f1_ f2_ f3_;subst f4_;subst f5_))
         refine goes_ Try.func49 (by kernel_rfl) rfl #[.slice Ao30 t495.length co30,.slice Ao31 y498.length co31] (by rfl) rfl rfl (by first|(simp only [List.map_toArray,List.map_cons,List.map_nil,Act.eval,Array.getD_eq_getD_getElem?,Option.getD_some,e38,e54];done)|(simp only [List.map_toArray,List.map_cons,List.map_nil,Act.eval,Array.getD_eq_getD_getElem?,Option.getD_some,e38,e54];rfl)) ?_
         with_reducible refine (slipwayref01_Pack.calls kj19 _ _ t495 _ _ y498 t501 t502 _ ?side1 ?side2 ?side3 ?side4 A24.out).mono ?_
         (case side1=>repeat (first|exact (Kd.R_reads' HO497.out).2.2|(with_reducible refine Kd.C_alloc ?_ _)|(with_reducible refine Kd.C_drewN ?_ _)|(with_reducible refine Kd.C_drew ?_)))
         (case side2=>exact (Kd.R_reads' HO497.out).2.1)
         (case side3=>repeat (first|exact (Kd.R_reads' HO500.out).2.2|(with_reducible refine Kd.C_alloc ?_ _)|(with_reducible refine Kd.C_drewN ?_ _)|(with_reducible refine Kd.C_drew ?_)))
         (case side4=>exact (Kd.R_reads' HO500.out).2.1)
         rintro e w32 ⟨v503,rfl,ho0,hb⟩
         refine ⟨_,rfl,?_⟩
         have n0_:=Aside0.mk (Kd.R_below (by (with_reducible repeat (first|apply Kd.R_alloc|apply Kd.R_drewN|apply Kd.R_drew));exact HO497.out) hb)
         have n1_:=Aside0.mk (Kd.R_below (by (with_reducible repeat (first|apply Kd.R_alloc|apply Kd.R_drewN|apply Kd.R_drew));exact HO500.out) hb)
         have n2_:=Aside0.mk (Kd.R_lower ho0 (below_size (by repeat (first|(with_reducible first|exact HB.out|apply below_alloc|apply pw_below_drewN|apply below_drew1|refine below_set ?_ GE492.out)|exact HB.out))))
         have n3_:=Aside0.mk (blk_below (g:=gb492) (o:=.cells #[.int .i64 a0_0,.int .i64 a0_1,.int .i64 a0_2,.bool a0_3,.int .i64 a0_4] 63 (0,0)) (by (with_reducible repeat (first|refine blk_drewN ?_ _|refine blk_drew ?_|refine blk_alloc ?_ _));exact BK492.out) hb)
         have n4_:=Aside0.mk (below_step (by repeat (first|(with_reducible first|exact HB.out|apply below_alloc|apply pw_below_drewN|apply below_drew1|refine below_set ?_ GE492.out)|exact HB.out)) hb)
         clear HO497 HO500 BK492 HB
         have HO497:=n0_
         have HO500:=n1_
         have HO504:=n2_
         have BK492:=n3_
         have HB:=n4_
         clear n0_ n1_ n2_ n3_ n4_
         (try clear hb)
         (try clear hb2)
         (try clear hk)
         (try clear hi)
         (try clear ho0)
         refine hK.out _ _ ⟨.slice Ao30 t495.length co30,.slice Ao31 y498.length co31,v503,(.tuple #[v503,.int .i64 t502]),m18_,m19_,m21_,(by rw [ha.out];exact putSel_upk 10 hb_ rfl rfl rfl),(by (with_reducible repeat (first|refine blk_drewN ?_ _|refine blk_drew ?_|refine blk_alloc ?_ _));exact BK492.out),(by repeat (first|(with_reducible first|exact HB.out|apply below_alloc|apply pw_below_drewN|apply below_drew1|refine below_set ?_ GE492.out)|exact HB.out)),fun _=>(by (with_reducible repeat (first|apply Kd.R_alloc|apply Kd.R_drewN|apply Kd.R_drew));exact HO497.out),fun _=>(by (with_reducible repeat (first|apply Kd.R_alloc|apply Kd.R_drewN|apply Kd.R_drew));exact HO500.out),fun _=>(by (with_reducible repeat (first|apply Kd.R_alloc|apply Kd.R_drewN|apply Kd.R_drew));exact HO504.out),fun _=>rfl,fun h0_=>absurd ((hoff 18 (by kernel_rfl)).symm.trans h0_) (by decide),fun h0_=>absurd ((hoff 19 (by kernel_rfl)).symm.trans h0_) (by decide),fun h0_=>absurd ((hoff 21 (by kernel_rfl)).symm.trans h0_) (by decide)⟩
        refine steps_cons ?_ ?_
        ·rintro b a w' ⟨v496,v499,v503,m17_,m18_,m19_,m21_,ha,Q_BK492,Q_HB,Q_HO497,Q_HO500,Q_HO504,Q_X17_,Q_X18_,Q_X19_,Q_X21_⟩ hb_ hon hoff
         refine ⟨_,rfl,fun K hK=>?_⟩
         have e55:a.tmps[55]?=some (m17_):=by rw [ha];exact putSel_on (e:=(17,55,m17_)) 10 rfl rfl (hon 17 (by kernel_rfl)) rfl
         rw [Q_X17_ (hon 17 (by kernel_rfl))] at e55
         replace ha:=Aside0.mk ha
         have BK492:=Aside0.mk Q_BK492
         have HB:=Aside0.mk Q_HB
         have HO497:=Aside0.mk (Q_HO497 (hon 0 (by kernel_rfl)))
         have HO500:=Aside0.mk (Q_HO500 (hon 16 (by kernel_rfl)))
         have HO504:=Aside0.mk (Q_HO504 (hon 17 (by kernel_rfl)))
         refine value_ (w1:=w') (v:=.tuple #[v503,.int .i64 t502]) (by rfl) rfl ?_ ?_
         ·go_simp
          (try simp only [i64_w])
          try rfl
         refine hK.out _ _ ⟨v496,v499,v503,m17_,(.tuple #[v503,.int .i64 t502]),m19_,m21_,(by rw [ha.out];exact putSel_upk 11 hb_ rfl rfl rfl),Q_BK492,Q_HB,Q_HO497,Q_HO500,Q_HO504,Q_X17_,fun _=>rfl,fun h0_=>absurd ((hoff 19 (by kernel_rfl)).symm.trans h0_) (by decide),fun h0_=>absurd ((hoff 21 (by kernel_rfl)).symm.trans h0_) (by decide)⟩
        refine steps_cons ?_ ?_
        ·rintro b a w' ⟨v496,v499,v503,m17_,m18_,m19_,m21_,ha,Q_BK492,Q_HB,Q_HO497,Q_HO500,Q_HO504,Q_X17_,Q_X18_,Q_X19_,Q_X21_⟩ hb_ hon hoff
         refine ⟨_,rfl,fun K hK=>?_⟩
         have e37:a.tmps[37]?=some (m18_):=by rw [ha];exact putSel_on (e:=(18,37,m18_)) 11 rfl rfl (hon 18 (by kernel_rfl)) rfl
         rw [Q_X18_ (hon 18 (by kernel_rfl))] at e37
         replace ha:=Aside0.mk ha
         have BK492:=Aside0.mk Q_BK492
         have HB:=Aside0.mk Q_HB
         have HO497:=Aside0.mk (Q_HO497 (hon 0 (by kernel_rfl)))
         have HO500:=Aside0.mk (Q_HO500 (hon 16 (by kernel_rfl)))
         have HO504:=Aside0.mk (Q_HO504 (hon 17 (by kernel_rfl)))
         obtain ⟨Ao19_0,co19_0,eo_⟩:=Kd.R_slice HO504.out
         subst eo_
         refine value_ (w1:=w') (v:=.slice Ao19_0 t501.length co19_0) (by rfl) rfl ?_ ?_
         ·go_simp
          (try simp only [i64_w])
          try rfl
         refine hK.out _ _ ⟨v496,v499,.slice Ao19_0 t501.length co19_0,m17_,m18_,(.slice Ao19_0 t501.length co19_0),m21_,(by rw [ha.out];exact putSel_upk 12 hb_ rfl rfl rfl),Q_BK492,Q_HB,Q_HO497,Q_HO500,Q_HO504,Q_X17_,Q_X18_,fun _=>rfl,fun h0_=>absurd ((hoff 21 (by kernel_rfl)).symm.trans h0_) (by decide)⟩
        refine steps_cons ?_ ?_
        ·rintro b a w' ⟨v496,v499,v503,m17_,m18_,m19_,m21_,ha,Q_BK492,Q_HB,Q_HO497,Q_HO500,Q_HO504,Q_X17_,Q_X18_,Q_X19_,Q_X21_⟩ hb_ hon hoff
         refine ⟨_,rfl,fun K hK=>?_⟩
         have e37:a.tmps[37]?=some (m18_):=by rw [ha];exact putSel_on (e:=(18,37,m18_)) 11 rfl rfl (hon 18 (by kernel_rfl)) rfl
         rw [Q_X18_ (hon 18 (by kernel_rfl))] at e37
         replace ha:=Aside0.mk ha
         have BK492:=Aside0.mk Q_BK492
         have HB:=Aside0.mk Q_HB
         have HO497:=Aside0.mk (Q_HO497 (hon 0 (by kernel_rfl)))
         have HO500:=Aside0.mk (Q_HO500 (hon 16 (by kernel_rfl)))
         have HO504:=Aside0.mk (Q_HO504 (hon 17 (by kernel_rfl)))
         obtain ⟨Ao20_0,co20_0,eo_⟩:=Kd.R_slice HO504.out
         subst eo_
         refine value_ (w1:=w') (v:=.int .i64 t502) (by rfl) rfl ?_ ?_
         ·go_simp
          (try simp only [i64_w])
          try rfl
         refine hK.out _ _ ⟨v496,v499,.slice Ao20_0 t501.length co20_0,m17_,m18_,m19_,m21_,(by rw [ha.out];exact putSel_upk 13 hb_ rfl rfl rfl),Q_BK492,Q_HB,Q_HO497,Q_HO500,Q_HO504,Q_X17_,Q_X18_,Q_X19_,Q_X21_⟩
        refine steps_cons ?_ ?_
        ·rintro b a w' ⟨v496,v499,v503,m17_,m18_,m19_,m21_,ha,Q_BK492,Q_HB,Q_HO497,Q_HO500,Q_HO504,Q_X17_,Q_X18_,Q_X19_,Q_X21_⟩ hb_ hon hoff
         refine ⟨_,rfl,fun K hK=>?_⟩
         have e56:a.tmps[56]?=some (m19_):=by rw [ha];exact putSel_on (e:=(19,56,m19_)) 12 rfl rfl (hon 19 (by kernel_rfl)) rfl
         rw [Q_X19_ (hon 19 (by kernel_rfl))] at e56
         replace ha:=Aside0.mk ha
         have BK492:=Aside0.mk Q_BK492
         have HB:=Aside0.mk Q_HB
         have HO497:=Aside0.mk (Q_HO497 (hon 0 (by kernel_rfl)))
         have HO500:=Aside0.mk (Q_HO500 (hon 16 (by kernel_rfl)))
         have HO504:=Aside0.mk (Q_HO504 (hon 17 (by kernel_rfl)))
         refine value_ (w1:=w') (v:=v503) (by rfl) rfl ?_ ?_
         ·go_simp
          (try simp only [i64_w])
          try rfl
         refine hK.out _ _ ⟨v496,v499,v503,m17_,m18_,m19_,(v503),(by rw [ha.out];exact putSel_upk 14 hb_ rfl rfl rfl),Q_BK492,Q_HB,Q_HO497,Q_HO500,Q_HO504,Q_X17_,Q_X18_,Q_X19_,fun _=>rfl⟩
        refine steps_cons ?_ ?_
        ·rintro b a w' ⟨v496,v499,v503,m17_,m18_,m19_,m21_,ha,Q_BK492,Q_HB,Q_HO497,Q_HO500,Q_HO504,Q_X17_,Q_X18_,Q_X19_,Q_X21_⟩ hb_ hon hoff
         refine ⟨_,rfl,fun K hK=>?_⟩
         have e57:a.tmps[57]?=some (.int .i64 t502):=by rw [ha];exact putSel_on (e:=(20,57,.int .i64 t502)) 13 rfl rfl (hon 20 (by kernel_rfl)) rfl
         replace ha:=Aside0.mk ha
         have BK492:=Aside0.mk Q_BK492
         have HB:=Aside0.mk Q_HB
         have HO497:=Aside0.mk (Q_HO497 (hon 0 (by kernel_rfl)))
         have HO500:=Aside0.mk (Q_HO500 (hon 16 (by kernel_rfl)))
         have HO504:=Aside0.mk (Q_HO504 (hon 17 (by kernel_rfl)))
         refine value_ (w1:=w') (v:=.int .i64 t502) (by rfl) rfl ?_ ?_
         ·go_simp
          (try simp only [i64_w])
          try rfl
         refine hK.out _ _ ⟨v496,v499,v503,m17_,m18_,m19_,m21_,(by rw [ha.out];exact putSel_upk 15 hb_ rfl rfl rfl),Q_BK492,Q_HB,Q_HO497,Q_HO500,Q_HO504,Q_X17_,Q_X18_,Q_X19_,Q_X21_⟩
        exact steps_nil
       rintro b a w32 hall ⟨v496,v499,v503,m17_,m18_,m19_,m21_,ha,Q_BK492,Q_HB,Q_HO497,Q_HO500,Q_HO504,Q_X17_,Q_X18_,Q_X19_,Q_X21_⟩
       clear BK492 HB
       have hb0_:=hall 0 (by kernel_rfl)
       have hb3_:=hall 3 (by kernel_rfl)
       have hb4_:=hall 4 (by kernel_rfl)
       have hb7_:=hall 7 (by kernel_rfl)
       have hb8_:=hall 8 (by kernel_rfl)
       have hb11_:=hall 11 (by kernel_rfl)
       have hb12_:=hall 12 (by kernel_rfl)
       have hb14_:=hall 14 (by kernel_rfl)
       have hb15_:=hall 15 (by kernel_rfl)
       have hb16_:=hall 16 (by kernel_rfl)
       have hb17_:=hall 17 (by kernel_rfl)
       have hb18_:=hall 18 (by kernel_rfl)
       have hb19_:=hall 19 (by kernel_rfl)
       have hb20_:=hall 20 (by kernel_rfl)
       have hb21_:=hall 21 (by kernel_rfl)
       have hb22_:=hall 22 (by kernel_rfl)
       subst ha
       obtain rfl:=Q_X17_ hb17_
       obtain rfl:=Q_X18_ hb18_
       obtain rfl:=Q_X19_ hb19_
       obtain rfl:=Q_X21_ hb21_
       simp only [putSel,hb0_,hb3_,hb4_,hb7_,hb8_,hb11_,hb12_,hb14_,hb15_,hb16_,hb17_,hb18_,hb19_,hb20_,hb21_,hb22_,if_true,Act.put,List.setIfInBounds_toArray,List.set_cons_zero,List.set_cons_succ]
       have BK492:=Aside0.mk Q_BK492
       clear Q_BK492
       have HB:=Aside0.mk Q_HB
       clear Q_HB
       have HO497:=Aside0.mk (Q_HO497 hb0_)
       clear Q_HO497
       have HO500:=Aside0.mk (Q_HO500 hb16_)
       clear Q_HO500
       have HO504:=Aside0.mk (Q_HO504 hb17_)
       clear Q_HO504 hall hb0_ hb3_ hb4_ hb7_ hb8_ hb11_ hb12_ hb14_ hb15_ hb16_ hb17_ hb18_ hb19_ hb20_ hb21_ hb22_
       try go_wp2
       go_loopg [6] kj19 (fun kq v6 w'=>∃ (x6_3:List Int),Aside0 (slipwayref11_EncodeSuper.l0 kq x6_3=some (r1,r2))∧Aside0 (kq≤kj19)∧Aside0 (Kd.R (Kd.int .u8) 5 w' w.heap.size (fun _=>True) v6 x6_3)∧Aside0 (w'.heap[gb492]?=some (.cells #[.int .i64 a0_0,.int .i64 a0_1,.int .i64 a0_2,.bool a0_3,.int .i64 a0_4] 63 (0,0)))∧Aside0 (Below w.heap.size w w'))
       case atStart=>exact ⟨(t501),H',⟨Nat.le_refl _⟩,⟨by (with_reducible repeat (first|apply Kd.R_alloc|apply Kd.R_drewN|apply Kd.R_drew));exact HO504.out⟩,⟨by (with_reducible repeat (first|refine blk_drewN ?_ _|refine blk_drew ?_|refine blk_alloc ?_ _));exact BK492.out⟩,⟨by repeat (first|(with_reducible first|exact HB.out|apply below_alloc|apply pw_below_drewN|apply below_drew1|refine below_set ?_ GE492.out)|exact HB.out)⟩⟩
       case round =>
        clear H'
        try clear c1
        try clear c2
        try clear p2
        try clear c3
        try clear c4
        try clear c5
        try clear c8
        try clear c8b0
        try clear c11
        try clear c11b0
        try clear c14
        try clear c14b0
        try clear c19
        try clear c22
        try clear hcz21_0
        try clear hcz21_1
        try clear hcz21_2
        try clear hcz21_3
        try clear hcz21_4
        try clear hfz21_0
        try clear hfz21_1
        try clear hfz21_2
        try clear hfz21_3
        try clear hfz21_4
        try clear p2
        obtain ⟨x6_3,HA,HK3,HO_6,BK492,HB⟩:=hrel
        cases gk with
        | zero=>exact absurd HA.out (by simp [slipwayref11_EncodeSuper.l0])
        | succ k3 =>
         have H:=HA.out
         clear HA
         simp only [slipwayref11_EncodeSuper.l0] at H
         by_cases c33:(x6_3.length:Int) < 252
         ·rw [if_pos c33] at H
          have c33b0:decide ((x6_3.length:Int) < 252)=true:=decide_eq_true c33
          have c33b1:decide (x6_3.length < 252)=true:=decide_eq_true (by omega)
          clear c33
          by_cases c34:x6_3.length < 140737488355328
          ·rw [if_pos c34] at H
           have LMc34:=Aside0.mk c34
           clear c34
           obtain ⟨y505,hy505⟩:∃ y_:List Int,y_=(x6_3 ++ [0]):=⟨_,rfl⟩
           replace H:(slipwayref11_EncodeSuper.l0 k3 y505)=some (r1,r2):=by first|(rw [hy505];with_reducible exact H)|(have H2_:=(Option.bind_some _ _).symm.trans H;rw [hy505];with_reducible exact H2_)|(have H2_:=(Option.bind_some _ _).symm.trans H;with_reducible exact H2_)|with_reducible exact H|(rw [hy505];exact H)|exact H
           have Ny505:=Aside0.mk hy505
           clear hy505
           have H':=Aside0.mk H
           clear H
           obtain ⟨Ao35,co35,eo35⟩:=Kd.R_slice HO_6.out
           subst eo35
           go_wp2_with (first|((with_reducible refine gate_builtin (b:=.append) (xs:=#[.tmp 61,.tmp 62]) rfl ?_);at_builtin;refine Kd.R_append (Kd.int .u8) (w0:=w) w.heap.size rfl (.tmp 61) (.tmp 62) 48 5 (.int .u8 0) 1 rfl Try.underlying48 info5 rfl (by decide) (by omega) (.slice Ao35 x6_3.length co35) x6_3 0 [.int .u8 0] (fun _=>True) (fun _=>False) rfl rfl ?aP (fun _ hk=>hk.elim) ?aF ?aO ?aB ?aS ?aL ?_;(case aP=>exact rfl);(case aB=>exact (by repeat (first|(with_reducible first|exact HB.out|apply below_alloc|apply pw_below_drewN|apply below_drew1|refine below_set ?_ GE492.out)|exact HB.out)));(case aF=>exact (fun _ _=>trivial));(case aO=>exact (by (with_reducible repeat (first|apply Kd.R_alloc|apply Kd.R_drewN|apply Kd.R_drew));exact HO_6.out));(case aS=>exact (below_size (by repeat (first|(with_reducible first|exact HB.out|apply below_alloc|apply pw_below_drewN|apply below_drew1|refine below_set ?_ GE492.out)|exact HB.out))));(case aL=>have:=LMc34.out;omega);intro v506 w36 ho hb hg hat;rw [← Ny505.out] at ho;have n0_:=Aside0.mk (blk_grown (g:=gb492) (o:=.cells #[.int .i64 a0_0,.int .i64 a0_1,.int .i64 a0_2,.bool a0_3,.int .i64 a0_4] 63 (0,0)) (by (with_reducible repeat (first|refine blk_drewN ?_ _|refine blk_drew ?_|refine blk_alloc ?_ _));exact BK492.out) hg (Kd.R_ne HO_6.out BK492.out (by decide)));have n1_:=Aside0.mk (hb);have n2_:=Aside0.mk (ho);clear BK492 HB HO_6;have BK492:=n0_;have HB:=n1_;have HO507:=n2_;clear n0_ n1_ n2_;clear ho hb hg hat))
           go_roundg k3
           case measure=>have:=HJ3.out;have:=HJ19.out;have:=HK3.out;omega
           case rel=>exact ⟨(y505),H',⟨by have:=HJ3.out;have:=HJ19.out;have:=HK3.out;omega⟩,⟨by (with_reducible repeat (first|apply Kd.R_alloc|apply Kd.R_drewN|apply Kd.R_drew));exact HO507.out⟩,⟨by (with_reducible repeat (first|refine blk_drewN ?_ _|refine blk_drew ?_|refine blk_alloc ?_ _));exact BK492.out⟩,⟨by repeat (first|(with_reducible first|exact HB.out|apply below_alloc|apply pw_below_drewN|apply below_drew1|refine below_set ?_ GE492.out)|exact HB.out)⟩⟩
          ·rw [if_neg c34] at H
           exact absurd H (by simp)
         ·rw [if_neg c33] at H
          have c33b0:decide ((x6_3.length:Int) < 252)=false:=decide_eq_false c33
          have c33b1:decide (x6_3.length < 252)=false:=decide_eq_false (by omega)
          clear c33
          replace H:=Option.bind_eq_some_iff.mp H
          obtain ⟨⟨t508,t509⟩,A370,H⟩:=H
          replace H:(some (t508,t509))=some (r1,r2):=H
          have A37:=Aside0.mk A370
          clear A370
          simp only [Option.some.injEq,Prod.mk.injEq] at H
          obtain ⟨rfl,rfl⟩:=H
          obtain ⟨Ao38,co38,eo38⟩:=Kd.R_slice HO_6.out
          subst eo38
          go_wp2_with (first|((with_reducible refine gate_callee (f:=57) rfl ?_);refine goesL_ (some 65) rfl rfl Try.func57 (by kernel_rfl) rfl #[.slice Ao38 x6_3.length co38] rfl (by (try simp only [List.map_toArray,List.map_cons,List.map_nil]);first|done|rfl|(simp only [List.length_drop,List.length_take];rfl)) ?_;(with_reducible refine (slipwayref01_Seal.calls k3 _ _ x6_3 t508 t509 _ ?side1 ?side2 A37.out).mono ?_);(case side1=>repeat (first|exact (Kd.R_reads' HO_6.out).2.2|(with_reducible refine Kd.C_alloc ?_ _)|(with_reducible refine Kd.C_drewN ?_ _)|(with_reducible refine Kd.C_drew ?_)));(case side2=>exact (Kd.R_reads' HO_6.out).2.1);rintro e w39 ⟨v510,rfl,ho0,hb⟩;refine ⟨_,rfl,?_⟩;have n0_:=Aside0.mk (Kd.R_elder' (by (with_reducible repeat (first|apply Kd.R_alloc|apply Kd.R_drewN|apply Kd.R_drew));exact HO_6.out) (Kd.R_base ho0) hb);have n1_:=Aside0.mk (Kd.R_lower (Kd.R_new' ho0 (Kd.R_lt (by (with_reducible repeat (first|apply Kd.R_alloc|apply Kd.R_drewN|apply Kd.R_drew));exact HO_6.out))) (below_size (by repeat (first|(with_reducible first|exact HB.out|apply below_alloc|apply pw_below_drewN|apply below_drew1|refine below_set ?_ GE492.out)|exact HB.out))));have n2_:=Aside0.mk (blk_below (g:=gb492) (o:=.cells #[.int .i64 a0_0,.int .i64 a0_1,.int .i64 a0_2,.bool a0_3,.int .i64 a0_4] 63 (0,0)) (by (with_reducible repeat (first|refine blk_drewN ?_ _|refine blk_drew ?_|refine blk_alloc ?_ _));exact BK492.out) hb);have n3_:=Aside0.mk (below_step (by repeat (first|(with_reducible first|exact HB.out|apply below_alloc|apply pw_below_drewN|apply below_drew1|refine below_set ?_ GE492.out)|exact HB.out)) hb);clear HO_6 BK492 HB;have HO_6:=n0_;have HO511:=n1_;have BK492:=n2_;have HB:=n3_;clear n0_ n1_ n2_ n3_;(try clear hb);(try clear hb2);(try clear hk);(try clear hi);(try clear ho0)))
          go_ret2
          exact ⟨_,by first|rfl|(simp [errW_none,errW_some] <;> rfl)|(simp [*,errW_none,errW_some] <;> rfl),by (with_reducible repeat (first|apply Kd.R_alloc|apply Kd.R_drewN|apply Kd.R_drew));exact Kd.R_mono HO511.out (fun _ hk=>trivial),by repeat (first|(with_reducible first|exact HB.out|apply below_alloc|apply pw_below_drewN|apply below_drew1|refine below_set ?_ GE492.out)|exact HB.out)⟩
 ·rw [if_neg c3] at H
  have c3b0:(t493 == 0)=false:=beq_eq_false_iff_ne.mpr c3
  have c3b1:(t493 != 0)=true:=bne_iff_ne.mpr c3
  simp only [Option.some.injEq,Prod.mk.injEq] at H
  obtain ⟨rfl,rfl⟩:=H
  go_enter Try.func41,Try.ntmps41
  go_wp2_with (first|((with_reducible refine gate_dst (N:=1) rfl ?_);refine box_event ?hg (N:=1) ?hd (cs:=#[.int .i64 a0_0,.int .i64 a0_1,.int .i64 a0_2,.bool a0_3,.int .i64 a0_4]) (t:=63) ?hr ?_;(case hd=>rfl);(case hg=>rfl);(case hr=>first|(go_simp;done)|(go_simp;rfl));intro gb492 hg w40 hbox hb;have n0_:=Aside0.mk (below_step (by repeat (first|(with_reducible first|exact HB.out|apply below_alloc|apply pw_below_drewN|apply below_drew1)|exact HB.out)) hb);have n1_:=Aside0.mk (hbox);have n2_:=Aside0.mk ((by rw [hg];exact (below_size (by repeat (first|(with_reducible first|exact HB.out|apply below_alloc|apply pw_below_drewN|apply below_drew1)|exact HB.out))):w.heap.size≤gb492));have n3_:=Aside0.mk ((by rw [hg];exact (below_size (by repeat (first|(with_reducible first|exact HB.out|apply below_alloc|apply pw_below_drewN|apply below_drew1)|exact HB.out))):w.heap.size≤gb492));clear HB;have HB:=n0_;have BK492:=n1_;have GW492:=n2_;have GE492:=n3_;clear n0_ n1_ n2_ n3_;clear hb hbox hg;have hcz41_0:w40.cell? ⟨gb492,0,none⟩=some (.int .i64 a0_0):=(blk_cell BK492.out 0).trans rfl;have hcz41_1:w40.cell? ⟨gb492,1,none⟩=some (.int .i64 a0_1):=(blk_cell BK492.out 1).trans rfl;have hcz41_2:w40.cell? ⟨gb492,2,none⟩=some (.int .i64 a0_2):=(blk_cell BK492.out 2).trans rfl;have hcz41_3:w40.cell? ⟨gb492,3,none⟩=some (.bool a0_3):=(blk_cell BK492.out 3).trans rfl;have hcz41_4:w40.cell? ⟨gb492,4,none⟩=some (.int .i64 a0_4):=(blk_cell BK492.out 4).trans rfl;have hfz41_0:=blk_frozen BK492.out 0;have hfz41_1:=blk_frozen BK492.out 1;have hfz41_2:=blk_frozen BK492.out 2;have hfz41_3:=blk_frozen BK492.out 3;have hfz41_4:=blk_frozen BK492.out 4)|((with_reducible refine gate_callee (f:=16) rfl ?_);refine goesL_ (some 10) rfl rfl Try.func16 (by kernel_rfl) rfl #[.agg #[.int .i64 a0_0,.int .i64 a0_1]] rfl (by (try simp only [List.map_toArray,List.map_cons,List.map_nil]);first|done|rfl|(simp only [List.length_drop,List.length_take];rfl)) ?_;(with_reducible refine (slipwayref11_Check.calls k a0_0 a0_1 t493 _ A2.out).mono ?_);rintro e w42 ⟨rfl,hb⟩;refine ⟨_,rfl,?_⟩;have n0_:=Aside0.mk (blk_below (g:=gb492) (o:=.cells #[.int .i64 a0_0,.int .i64 a0_1,.int .i64 a0_2,.bool a0_3,.int .i64 a0_4] 63 (0,0)) (by (with_reducible repeat (first|refine blk_drewN ?_ _|refine blk_drew ?_|refine blk_alloc ?_ _));exact BK492.out) hb);have n1_:=Aside0.mk (below_step (by repeat (first|(with_reducible first|exact HB.out|apply below_alloc|apply pw_below_drewN|apply below_drew1|refine below_set ?_ GE492.out)|exact HB.out)) hb);clear BK492 HB;have BK492:=n0_;have HB:=n1_;clear n0_ n1_;(try clear hb);(try clear hb2);(try clear hk);(try clear hi)))
  go_ret2
  exact ⟨_,by first|rfl|(simp [errW_none,errW_some] <;> rfl)|(simp [*,errW_none,errW_some] <;> rfl),by first|exact Kd.R_nil _ _ _ _ _|exact Kd.N_nil _ _ _ _ _|exact Kd.V_nil _ _ _ _ _|exact Kd.Q_nil _ _ _ _ _|exact Kd.S_nil _ _ _ _ _,by repeat (first|(with_reducible first|exact HB.out|apply below_alloc|apply pw_below_drewN|apply below_drew1|refine below_set ?_ GE492.out)|exact HB.out)⟩
end Go.Proofs.Ytbdnmdmfnopihaa.Print
end
