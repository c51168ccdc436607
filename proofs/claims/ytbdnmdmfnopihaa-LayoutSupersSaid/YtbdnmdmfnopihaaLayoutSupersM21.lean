/- Texts of the proof of LayoutSupers, part 21. -/
import Derived.Test.YtbdnmdmfnopihaaLayoutSupersM17
import Derived.Test.YtbdnmdmfnopihaaLayoutSupersM18
import Derived.Test.YtbdnmdmfnopihaaLayoutSupersM19
import Derived.Test.YtbdnmdmfnopihaaLayoutSupersM20
section
namespace Go.Proofs.Ytbdnmdmfnopihaa.Print
open Go.RowKit Go.Proofs.YtbdnmdmfnopihaaW.PrintWords Go.Proofs.YtbdnmdmfnopihaaW.PrintLast Go.Proofs.YtbdnmdmfnopihaaW.PrintMore
attribute [local go_sem] max2_int min2_int max_two min_two max_three min_three max_four min_four   -- for this text's walks alone
attribute [local go_sem ↓] Go.Proofs.Ytbdnmdmfnopihaa.Sem.isSome_setCell
attribute [local go_sem] Go.Instr.field Go.asAgg
set_option linter.unusedVariables false
set_option linter.unusedSimpArgs false
def slipwayref11_DecodeSuper.j0:Nat → List Int → List Int → Bool → Option (Int × Int × Int × Bool × Int × Int)
 | 0,_,_,_=>none
 | k + 1,x0,x4,x21=>if x21=true then (some (0,0,0,false,0,111)) else ((slipwayref11_superWidths.f).bind fun t568=>(if 23≤(x4.length:Int) then ((slipwayref01_Unpack.f k t568 (x4.take 23)).bind fun bt575=>(if 5 < (bt575.1.length:Int) then (if (rd bt575.1 5) > 1152921504606846976 then (some (0,0,0,false,0,111)) else (if 1 < (bt575.1.length:Int) then (if 2 < (bt575.1.length:Int) then (if 3 < (bt575.1.length:Int) then (if 4 < (bt575.1.length:Int) then ((slipwayref11_EncodeSuper.f k (wrap64 (rd bt575.1 1)) (wrap64 (rd bt575.1 2)) (wrap64 (rd bt575.1 4)) ((rd bt575.1 3) == 1) (wrap64 (rd bt575.1 5))).bind fun bt586=>(if bt586.2=0 then (if (strOfNums bt586.1).toList=(strOfNums x0).toList then (some (wrap64 (rd bt575.1 1),wrap64 (rd bt575.1 2),wrap64 (rd bt575.1 4),((rd bt575.1 3) == 1),wrap64 (rd bt575.1 5),0)) else (some (0,0,0,false,0,111))) else (some (0,0,0,false,0,111)))) else (none)) else (none)) else (none)) else (none))) else (none))) else (none)))
def slipwayref11_DecodeSuper.f (k:Nat) (l0:List Int):Option (Int × Int × Int × Bool × Int × Int):=(slipwayref01_Open.f k l0).bind fun bt564=>(if bt564.2=0 then (slipwayref11_DecodeSuper.j0 k l0 bt564.1 ((bt564.1.length:Int) != 252)) else (slipwayref11_DecodeSuper.j0 k l0 bt564.1 true))
def slipwayref11_DecodeSuper.T4:Bool × List (List Nat × List Nat):=(true,[([],[]),([],[]),([1],[1]),([0,2,0],[0,2]),([3],[3]),([4],[4]),([4],[4]),([5,3,0,1,2,3,4,5],[5]),([6,7,0,1,2,3,4,5,6,7],[6])])
def slipwayref11_DecodeSuper.B4:List Nat:=[0,0,2,7,15,31,31,63,255]
theorem slipwayref11_DecodeSuper.tab4:rtab .any (opsOf Try.f43 4)=slipwayref11_DecodeSuper.T4:=by kernel_rfl
theorem slipwayref11_DecodeSuper.bits4:waitsOk slipwayref11_DecodeSuper.T4.2 slipwayref11_DecodeSuper.B4=true:=by kernel_rfl
def slipwayref11_DecodeSuper.T7:Bool × List (List Nat × List Nat):=(true,[([],[]),([0],[0]),([1],[1]),([2],[2]),([],[]),([4],[4]),([5],[5]),([6],[6]),([3,7],[3,7]),([],[]),([9],[9]),([10],[10]),([11],[11]),([],[]),([13],[13]),([14],[14]),([15],[15]),([],[]),([17],[17]),([18],[18]),([19],[19]),([8,12,16,20],[8,12,16,20]),([],[]),([22,21,0,1,2,3,4,5,6,7,8,9,10,11,12,13,14,15,16,17,18,19,20,21,22],[21,22])])
def slipwayref11_DecodeSuper.B7:List Nat:=[0,1,3,7,0,16,48,112,255,0,512,1536,3584,0,8192,24576,57344,0,131072,393216,917504,2097151,0,8388607]
theorem slipwayref11_DecodeSuper.tab7:rtab .any (opsOf Try.f43 7)=slipwayref11_DecodeSuper.T7:=by kernel_rfl
theorem slipwayref11_DecodeSuper.bits7:waitsOk slipwayref11_DecodeSuper.T7.2 slipwayref11_DecodeSuper.B7=true:=by kernel_rfl
set_option maxHeartbeats 8000000 in
set_option maxRecDepth 100000 in
theorem slipwayref11_DecodeSuper.calls (k:Nat) (A0:Option Addr) (c0:Nat) (l0:List Int) (r1:Int) (r2:Int) (r3:Int) (r4:Bool) (r5:Int) (r6:Int) (w:World) (hr0:Kd.C (Kd.int .u8) w A0 l0.length l0) (hc0:l0.length≤c0) (h:slipwayref11_DecodeSuper.f k l0=some (r1,r2,r3,r4,r5,r6)) :
  Calls Try.prog 43 #[.slice A0 l0.length c0] w fun e w'=>e=.returned (.tuple #[.agg #[.int .i64 r1,.int .i64 r2,.int .i64 r3,.bool r4,.int .i64 r5],.int .i64 r6])∧Below w.heap.size w w':=by
 have hu63:=Try.underlying63
 have hu24:=Try.underlying24
 have HR0:=Aside0.mk hr0
 have HC0:=Aside0.mk hc0
 clear hr0 hc0
 have HB:=Aside0.mk (Below.refl w.heap.size w)
 have H:((slipwayref01_Open.f k l0).bind fun bt564=>(if bt564.2=0 then (slipwayref11_DecodeSuper.j0 k l0 bt564.1 ((bt564.1.length:Int) != 252)) else (slipwayref11_DecodeSuper.j0 k l0 bt564.1 true)))=some (r1,r2,r3,r4,r5,r6):=h
 clear h
 replace H:=Option.bind_eq_some_iff.mp H
 obtain ⟨⟨t564,t565⟩,A20,H⟩:=H
 replace H:(if t565=0 then (slipwayref11_DecodeSuper.j0 k l0 t564 ((t564.length:Int) != 252)) else (slipwayref11_DecodeSuper.j0 k l0 t564 true))=some (r1,r2,r3,r4,r5,r6):=H
 have A2:=Aside0.mk A20
 clear A20
 have HC3:=Aside0.mk H
 clear H
 go_enter Try.func43,Try.ntmps43
 go_upto_region 2 with (first|((with_reducible refine gate_dst (N:=2) rfl ?_);(try (refine gate_guard (by rfl) ?_;dsimp only));refine box_event ?hg (N:=2) ?hd (cs:=#[.int .i64 0,.int .i64 0,.int .i64 0,.bool false,.int .i64 0]) (t:=63) ?hr ?_;(case hd=>rfl);(case hg=>rfl);(case hr=>first|(go_simp;done)|(go_simp;rfl));intro gb563 hg w4 hbox hb;have n0_:=Aside0.mk (below_step (by repeat (first|(with_reducible first|exact HB.out|apply below_alloc|apply pw_below_drewN|apply below_drew1)|exact HB.out)) hb);have n1_:=Aside0.mk (hbox);have n2_:=Aside0.mk ((by rw [hg];exact (below_size (by repeat (first|(with_reducible first|exact HB.out|apply below_alloc|apply pw_below_drewN|apply below_drew1)|exact HB.out))):w.heap.size≤gb563));have n3_:=Aside0.mk ((by rw [hg];exact (below_size (by repeat (first|(with_reducible first|exact HB.out|apply below_alloc|apply pw_below_drewN|apply below_drew1)|exact HB.out))):w.heap.size≤gb563));clear HB;have HB:=n0_;have BK563:=n1_;have GW563:=n2_;have GE563:=n3_;clear n0_ n1_ n2_ n3_;clear hb hbox hg)|((with_reducible refine gate_callee (f:=60) rfl ?_);refine goesL_ (some 12) rfl rfl Try.func60 (by kernel_rfl) rfl #[.slice A0 l0.length c0] rfl (by (try simp only [List.map_toArray,List.map_cons,List.map_nil]);first|done|rfl|(simp only [List.length_drop,List.length_take];rfl)) ?_;(with_reducible refine (slipwayref01_Open.calls k _ _ l0 t564 t565 _ ?side1 ?side2 A2.out).mono ?_);(case side1=>repeat (first|exact (Kd.C_below HR0.out HB.out)|(with_reducible refine Kd.C_alloc ?_ _)|(with_reducible refine Kd.C_drewN ?_ _)|(with_reducible refine Kd.C_drew ?_)));(case side2=>exact HC0.out);rintro e w5 ⟨v566,rfl,ho0,hb⟩;refine ⟨_,rfl,?_⟩;have n0_:=Aside0.mk (Kd.R_lower ho0 (below_size (by repeat (first|(with_reducible first|exact HB.out|apply below_alloc|apply pw_below_drewN|apply below_drew1|refine below_set ?_ GE563.out)|exact HB.out))));have n1_:=Aside0.mk (blk_below (g:=gb563) (o:=.cells #[.int .i64 0,.int .i64 0,.int .i64 0,.bool false,.int .i64 0] 63 (0,0)) (by (with_reducible repeat (first|refine blk_drewN ?_ _|refine blk_drew ?_|refine blk_alloc ?_ _));exact BK563.out) hb);have n2_:=Aside0.mk (below_step (by repeat (first|(with_reducible first|exact HB.out|apply below_alloc|apply pw_below_drewN|apply below_drew1|refine below_set ?_ GE563.out)|exact HB.out)) hb);clear BK563 HB;have HO567:=n0_;have BK563:=n1_;have HB:=n2_;clear n0_ n1_ n2_;(try clear hb);(try clear hb2);(try clear hk);(try clear hi);(try clear ho0)))
 (try simp only [Act.put,List.setIfInBounds_toArray,List.set_cons_zero,List.set_cons_succ])
 go_cut [21] (fun v21 wc=>∃ (kq:Nat) (x21_2:Bool),v21=.bool x21_2∧Aside0 (slipwayref11_DecodeSuper.j0 kq l0 t564 x21_2=some (r1,r2,r3,r4,r5,r6))∧Aside0 (kq≤k)∧Aside0 (Kd.R (Kd.int .u8) 5 wc w.heap.size (fun _=>True) v566 t564)∧Aside0 (wc.heap[gb563]?=some (.cells #[.int .i64 0,.int .i64 0,.int .i64 0,.bool false,.int .i64 0] 63 (0,0)))∧Aside0 (Below w.heap.size w wc))
 case first =>
  have H:=HC3.out
  clear HC3
  by_cases c6:t565=0
  ·rw [if_pos c6] at H
   have c6b0:(t565 == 0)=true:=beq_iff_eq.mpr c6
   have c6b1:(t565 != 0)=false:=bne_eq_false_iff_eq.mpr c6
   clear c6
   (first|rw [c6b0]|(simp only [i64_w,i32_w];rw [c6b0])|skip)
   have H':=Aside0.mk H
   clear H
   obtain ⟨Ao7,co7,eo7⟩:=Kd.R_slice HO567.out
   subst eo7
   go_wp2
   go_meet
   case rel=>exact ⟨_,(((t564.length:Int) != 252)),(by first|rfl|(simp;done)|(simp [*];done)),H',⟨by first|omega|exact Nat.le_refl _⟩,⟨by (with_reducible repeat (first|apply Kd.R_alloc|apply Kd.R_drewN|apply Kd.R_drew));exact HO567.out⟩,⟨by (with_reducible repeat (first|refine blk_drewN ?_ _|refine blk_drew ?_|refine blk_alloc ?_ _));exact BK563.out⟩,⟨by repeat (first|(with_reducible first|exact HB.out|apply below_alloc|apply pw_below_drewN|apply below_drew1|refine below_set ?_ GE563.out)|exact HB.out)⟩⟩
  ·rw [if_neg c6] at H
   have c6b0:(t565 == 0)=false:=beq_eq_false_iff_ne.mpr c6
   have c6b1:(t565 != 0)=true:=bne_iff_ne.mpr c6
   (first|rw [c6b0]|(simp only [i64_w,i32_w];rw [c6b0])|skip)
   have H':=Aside0.mk H
   clear H
   go_wp2
   go_meet
   case rel=>exact ⟨_,(true),(by first|rfl|(simp;done)|(simp [*];done)),H',⟨by first|omega|exact Nat.le_refl _⟩,⟨by (with_reducible repeat (first|apply Kd.R_alloc|apply Kd.R_drewN|apply Kd.R_drew));exact HO567.out⟩,⟨by (with_reducible repeat (first|refine blk_drewN ?_ _|refine blk_drew ?_|refine blk_alloc ?_ _));exact BK563.out⟩,⟨by repeat (first|(with_reducible first|exact HB.out|apply below_alloc|apply pw_below_drewN|apply below_drew1|refine below_set ?_ GE563.out)|exact HB.out)⟩⟩
 case rest =>
  clear HC3
  try clear p2
  try clear c4
  try clear c6
  try clear c6b0
  try clear c6b1
  obtain ⟨kq,x21_2,rfl,HA,HJ2,HO_4,BK563,HB⟩:=hcut
  cases kq with
  | zero=>exact absurd HA.out (by simp [slipwayref11_DecodeSuper.j0])
  | succ kj2 =>
   have H:=HA.out
   clear HA
   simp only [slipwayref11_DecodeSuper.j0] at H
   by_cases c8:x21_2=true
   ·subst c8
    have H1:(some (0,0,0,false,0,111))=some (r1,r2,r3,r4,r5,r6):=by rw [if_pos rfl] at H;exact H
    clear H
    have H:=H1
    clear H1
    simp only [Option.some.injEq,Prod.mk.injEq] at H
    obtain ⟨rfl,rfl,rfl,rfl,rfl,rfl⟩:=H
    have hcz9_0:wc.cell? ⟨gb563,0,none⟩=some (.int .i64 0):=(blk_cell BK563.out 0).trans rfl
    have hcz9_1:wc.cell? ⟨gb563,1,none⟩=some (.int .i64 0):=(blk_cell BK563.out 1).trans rfl
    have hcz9_2:wc.cell? ⟨gb563,2,none⟩=some (.int .i64 0):=(blk_cell BK563.out 2).trans rfl
    have hcz9_3:wc.cell? ⟨gb563,3,none⟩=some (.bool false):=(blk_cell BK563.out 3).trans rfl
    have hcz9_4:wc.cell? ⟨gb563,4,none⟩=some (.int .i64 0):=(blk_cell BK563.out 4).trans rfl
    have hfz9_0:=blk_frozen BK563.out 0
    have hfz9_1:=blk_frozen BK563.out 1
    have hfz9_2:=blk_frozen BK563.out 2
    have hfz9_3:=blk_frozen BK563.out 3
    have hfz9_4:=blk_frozen BK563.out 4
    go_wp2
    refine bodyPost_ret (results_ct rfl _ _ gb563 63 #[.int .i64 0,.int .i64 0,.int .i64 0,.bool false,.int .i64 0] (0,0) _ rfl (by (with_reducible repeat (first|refine blk_drewN ?_ _|refine blk_drew ?_|refine blk_alloc ?_ _));refine blk_put (cs:=#[.int .i64 0,.int .i64 0,.int .i64 0,.bool false,.int .i64 0]) ?_ 4 _ rfl;(with_reducible repeat (first|refine blk_drewN ?_ _|refine blk_drew ?_|refine blk_alloc ?_ _));refine blk_put (cs:=#[.int .i64 0,.int .i64 0,.int .i64 0,.bool false,.int .i64 0]) ?_ 3 _ rfl;(with_reducible repeat (first|refine blk_drewN ?_ _|refine blk_drew ?_|refine blk_alloc ?_ _));refine blk_put (cs:=#[.int .i64 0,.int .i64 0,.int .i64 0,.bool false,.int .i64 0]) ?_ 2 _ rfl;(with_reducible repeat (first|refine blk_drewN ?_ _|refine blk_drew ?_|refine blk_alloc ?_ _));refine blk_put (cs:=#[.int .i64 0,.int .i64 0,.int .i64 0,.bool false,.int .i64 0]) ?_ 1 _ rfl;(with_reducible repeat (first|refine blk_drewN ?_ _|refine blk_drew ?_|refine blk_alloc ?_ _));refine blk_put (cs:=#[.int .i64 0,.int .i64 0,.int .i64 0,.bool false,.int .i64 0]) ?_ 0 _ rfl;(with_reducible repeat (first|refine blk_drewN ?_ _|refine blk_drew ?_|refine blk_alloc ?_ _));exact BK563.out) Try.underlying63 rfl (by kernel_rfl)) rfl ?_
    exact ⟨by first|rfl|(simp [errW_none,errW_some] <;> rfl)|(simp [*,errW_none,errW_some] <;> rfl),by repeat (first|(with_reducible first|exact HB.out|apply below_alloc|apply pw_below_drewN|apply below_drew1|refine below_set ?_ GE563.out)|exact HB.out)⟩
   ·replace c8:=Bool.eq_false_iff.mpr c8
    subst c8
    have H1:((slipwayref11_superWidths.f).bind fun t568=>(if 23≤(t564.length:Int) then ((slipwayref01_Unpack.f kj2 t568 (t564.take 23)).bind fun bt575=>(if 5 < (bt575.1.length:Int) then (if (rd bt575.1 5) > 1152921504606846976 then (some (0,0,0,false,0,111)) else (if 1 < (bt575.1.length:Int) then (if 2 < (bt575.1.length:Int) then (if 3 < (bt575.1.length:Int) then (if 4 < (bt575.1.length:Int) then ((slipwayref11_EncodeSuper.f kj2 (wrap64 (rd bt575.1 1)) (wrap64 (rd bt575.1 2)) (wrap64 (rd bt575.1 4)) ((rd bt575.1 3) == 1) (wrap64 (rd bt575.1 5))).bind fun bt586=>(if bt586.2=0 then (if (strOfNums bt586.1).toList=(strOfNums l0).toList then (some (wrap64 (rd bt575.1 1),wrap64 (rd bt575.1 2),wrap64 (rd bt575.1 4),((rd bt575.1 3) == 1),wrap64 (rd bt575.1 5),0)) else (some (0,0,0,false,0,111))) else (some (0,0,0,false,0,111)))) else (none)) else (none)) else (none)) else (none))) else (none))) else (none)))=some (r1,r2,r3,r4,r5,r6):=by rw [if_neg (show ¬ (false=true) by decide)] at H;exact H
    clear H
    have H:=H1
    clear H1
    replace H:=Option.bind_eq_some_iff.mp H
    obtain ⟨t568,A100,H⟩:=H
    replace H:(if 23≤(t564.length:Int) then ((slipwayref01_Unpack.f kj2 t568 (t564.take 23)).bind fun bt575=>(if 5 < (bt575.1.length:Int) then (if (rd bt575.1 5) > 1152921504606846976 then (some (0,0,0,false,0,111)) else (if 1 < (bt575.1.length:Int) then (if 2 < (bt575.1.length:Int) then (if 3 < (bt575.1.length:Int) then (if 4 < (bt575.1.length:Int) then ((slipwayref11_EncodeSuper.f kj2 (wrap64 (rd bt575.1 1)) (wrap64 (rd bt575.1 2)) (wrap64 (rd bt575.1 4)) ((rd bt575.1 3) == 1) (wrap64 (rd bt575.1 5))).bind fun bt586=>(if bt586.2=0 then (if (strOfNums bt586.1).toList=(strOfNums l0).toList then (some (wrap64 (rd bt575.1 1),wrap64 (rd bt575.1 2),wrap64 (rd bt575.1 4),((rd bt575.1 3) == 1),wrap64 (rd bt575.1 5),0)) else (some (0,0,0,false,0,111))) else (some (0,0,0,false,0,111)))) else (none)) else (none)) else (none)) else (none))) else (none))) else (none))=some (r1,r2,r3,r4,r5,r6):=H
    have A10:=Aside0.mk A100
    clear A100
    by_cases c11:23≤(t564.length:Int)
    ·rw [if_pos c11] at H
     have c11b0:=eq_true c11
     have c11b1:decide (23≤(t564.length:Int))=true:=decide_eq_true c11
     clear c11
     obtain ⟨y571,hy571⟩:∃ y_:List Int,y_=(t564.take 23):=⟨_,rfl⟩
     replace H:((slipwayref01_Unpack.f kj2 t568 y571).bind fun bt575=>(if 5 < (bt575.1.length:Int) then (if (rd bt575.1 5) > 1152921504606846976 then (some (0,0,0,false,0,111)) else (if 1 < (bt575.1.length:Int) then (if 2 < (bt575.1.length:Int) then (if 3 < (bt575.1.length:Int) then (if 4 < (bt575.1.length:Int) then ((slipwayref11_EncodeSuper.f kj2 (wrap64 (rd bt575.1 1)) (wrap64 (rd bt575.1 2)) (wrap64 (rd bt575.1 4)) ((rd bt575.1 3) == 1) (wrap64 (rd bt575.1 5))).bind fun bt586=>(if bt586.2=0 then (if (strOfNums bt586.1).toList=(strOfNums l0).toList then (some (wrap64 (rd bt575.1 1),wrap64 (rd bt575.1 2),wrap64 (rd bt575.1 4),((rd bt575.1 3) == 1),wrap64 (rd bt575.1 5),0)) else (some (0,0,0,false,0,111))) else (some (0,0,0,false,0,111)))) else (none)) else (none)) else (none)) else (none))) else (none)))=some (r1,r2,r3,r4,r5,r6):=by first|(rw [hy571];with_reducible exact H)|(have H2_:=(Option.bind_some _ _).symm.trans H;rw [hy571];with_reducible exact H2_)|(have H2_:=(Option.bind_some _ _).symm.trans H;with_reducible exact H2_)|with_reducible exact H|(rw [hy571];exact H)|exact H
     have Ny571:=Aside0.mk hy571
     clear hy571
     replace H:=Option.bind_eq_some_iff.mp H
     obtain ⟨⟨t575,t576⟩,A120,H⟩:=H
     replace H:(if 5 < (t575.length:Int) then (if (rd t575 5) > 1152921504606846976 then (some (0,0,0,false,0,111)) else (if 1 < (t575.length:Int) then (if 2 < (t575.length:Int) then (if 3 < (t575.length:Int) then (if 4 < (t575.length:Int) then ((slipwayref11_EncodeSuper.f kj2 (wrap64 (rd t575 1)) (wrap64 (rd t575 2)) (wrap64 (rd t575 4)) ((rd t575 3) == 1) (wrap64 (rd t575 5))).bind fun bt586=>(if bt586.2=0 then (if (strOfNums bt586.1).toList=(strOfNums l0).toList then (some (wrap64 (rd t575 1),wrap64 (rd t575 2),wrap64 (rd t575 4),((rd t575 3) == 1),wrap64 (rd t575 5),0)) else (some (0,0,0,false,0,111))) else (some (0,0,0,false,0,111)))) else (none)) else (none)) else (none)) else (none))) else (none))=some (r1,r2,r3,r4,r5,r6):=H
     have A12:=Aside0.mk A120
     clear A120
     by_cases c13:5 < (t575.length:Int)
     ·rw [if_pos c13] at H
      have c13b0:decide (5 < (t575.length:Int))=true:=decide_eq_true c13
      have c13b1:decide (5 < t575.length)=true:=decide_eq_true (by omega)
      clear c13
      by_cases c14:(rd t575 5) > 1152921504606846976
      ·rw [if_pos c14] at H
       have c14b0:decide (1152921504606846976 < (rd t575 5))=true:=decide_eq_true c14
       clear c14
       simp only [Option.some.injEq,Prod.mk.injEq] at H
       obtain ⟨rfl,rfl,rfl,rfl,rfl,rfl⟩:=H
       try go_wp2
       have n0_:=Aside0.mk (Kd.R_drew HO_4.out)
       have n1_:=Aside0.mk (blk_drew BK563.out)
       have n2_:=Aside0.mk (below_drew1 HB.out)
       clear HO_4 BK563 HB
       have HO_4:=n0_
       have BK563:=n1_
       have HB:=n2_
       clear n0_ n1_ n2_
       obtain ⟨Ao17,co17,eo17⟩:=Kd.R_slice HO_4.out
       (first|subst eo17|(injection eo17 with f1_ f2_ f3_;have f4_:=f1_.symm;have f5_:=f3_.symm;clear f1_ f2_ f3_;subst f4_;subst f5_))
       have q16:(23:Int)≤((t564.length:Int):Int):=of_decide_eq_true (by first|(with_reducible assumption)|assumption)
       obtain ⟨i016,hi016,_,hsz16,_⟩:=info_parts info5
       have hroom16:t564.length≤co17:=(Kd.R_reads' HO_4.out).2.1
       have hC16:Kd.C (Kd.int .u8) _ Ao17 t564.length t564:=(Kd.R_reads' HO_4.out).2.2
       have hcut16:=cut_to (P:=Try.prog) 48 5 .i64 Try.underlying48 hi016 Ao17 t564.length co17 23 (by omega) q16 hroom16
       have hr16:=Kd.C_take (m:=23) hC16 (by omega)
       have hy16:y571.length=(23:Int).toNat:=(by rw [Ny571.out,List.length_take];omega)
       rw [← Ny571.out] at hr16
       rw [← hy16] at hcut16
       have HR574:=Aside0.mk hr16
       have HC574:=Aside0.mk (show y571.length≤co17 from by omega)
       clear hr16 hC16 hroom16 hi016 hsz16
       have KY16:=Aside0.mk hy16
       clear hy16
       have KL16:=Aside0.mk (show 23≤t564.length from by omega)
       replace q16:=eq_true q16
       refine start_ (n:=9) (S:=fun w'=>True) (ds:=[]) #[false,false,false,false,false,false,false,false,false] (by kernel_rfl) rfl rfl trivial (fun hHeld=>?_);refine with_tabW slipwayref11_DecodeSuper.tab4 slipwayref11_DecodeSuper.bits4 (fun HT_ HW_=>?_)
       generalize wc.drew=w15 at HO_4 BK563 HB HR574 hHeld ⊢
       refine pure_ (i:=1) (N:=some 25) (v:=?_) (a':=?_) #[false,true,false,false,false,false,false,false,false] rfl rfl (any_of HT_.out (by kernel_rfl)) (fun _ _ _ h=>h) (Or.inl ⟨by rfl,?_⟩) ?_ ?_
       rotate_left
       ·intro w'
        go_simp
        with_reducible rfl
       rotate_left
       ·simp only [Act.put,List.setIfInBounds_toArray,List.set_cons_zero,List.set_cons_succ,i64_w,i32_w]
        rfl
       refine pure_ (i:=2) (N:=some 26) (v:=?_) (a':=?_) #[false,true,true,false,false,false,false,false,false] rfl rfl (any_of HT_.out (by kernel_rfl)) (fun _ _ _ h=>h) (Or.inl ⟨by rfl,?_⟩) ?_ ?_
       rotate_left
       ·intro w'
        go_simp
        with_reducible rfl
       rotate_left
       ·simp only [Act.put,List.setIfInBounds_toArray,List.set_cons_zero,List.set_cons_succ,i64_w,i32_w]
        rfl
       refine one_ (i:=0) (N:=some 24) #[true,true,true,false,false,false,false,false,false] rfl rfl (one_of HT_.out (by kernel_rfl)) (by decide) (fun K hK=>?_)
       refine goes_ Try.func56 (by kernel_rfl) rfl #[] (by rfl) rfl rfl (by (try simp only [List.map_toArray,List.map_cons,List.map_nil]);first|done|rfl|(simp only [List.length_drop,List.length_take];rfl)) ?_
       with_reducible refine (slipwayref11_superWidths.calls  t568 _ A10.out).mono ?_
       rintro e w18 ⟨v569,rfl,ho0,hb⟩
       refine ⟨_,rfl,?_⟩
       have n0_:=Aside0.mk (Kd.R_below (by (with_reducible repeat (first|apply Kd.R_alloc|apply Kd.R_drewN|apply Kd.R_drew));exact HO_4.out) hb)
       have n1_:=Aside0.mk (Kd.R_lower ho0 (below_size (by repeat (first|(with_reducible first|exact HB.out|apply below_alloc|apply pw_below_drewN|apply below_drew1|refine below_set ?_ GE563.out)|exact HB.out))))
       have n2_:=Aside0.mk (blk_below (g:=gb563) (o:=.cells #[.int .i64 0,.int .i64 0,.int .i64 0,.bool false,.int .i64 0] 63 (0,0)) (by (with_reducible repeat (first|refine blk_drewN ?_ _|refine blk_drew ?_|refine blk_alloc ?_ _));exact BK563.out) hb)
       have n3_:=Aside0.mk (Kd.C_below (by repeat (first|(with_reducible exact HR574.out)|(with_reducible refine Kd.C_alloc ?_ _)|(with_reducible refine Kd.C_drewN ?_ _)|(with_reducible refine Kd.C_drew ?_)|exact HR574.out)) hb)
       have n4_:=Aside0.mk (below_step (by repeat (first|(with_reducible first|exact HB.out|apply below_alloc|apply pw_below_drewN|apply below_drew1|refine below_set ?_ GE563.out)|exact HB.out)) hb)
       clear HO_4 BK563 HR574 HB
       have HO_4:=n0_
       have HO570:=n1_
       have BK563:=n2_
       have HR574:=n3_
       have HB:=n4_
       clear n0_ n1_ n2_ n3_ n4_
       (try clear hb)
       (try clear hb2)
       (try clear hk)
       (try clear hi)
       (try clear ho0)
       obtain ⟨Ao19,co19,eo19⟩:=Kd.R_slice HO570.out
       (first|subst eo19|(injection eo19 with f1_ f2_ f3_;have f4_:=f1_.symm;have f5_:=f3_.symm;clear f1_ f2_ f3_;subst f4_;subst f5_))
       refine hK.out _ _ trivial (fun hHeld=>?_)
       clear hK K
       refine norm_ (a':=?_) ?_ ?_
       rotate_left
       ·show Act.put _ (some 24) _=_
        simp only [Act.put,List.setIfInBounds_toArray,List.set_cons_zero,List.set_cons_succ,i64_w,i32_w]
        rfl
       refine one_ (i:=3) (N:=some 27) #[true,true,true,true,false,false,false,false,false] rfl rfl (one_of HT_.out (by kernel_rfl)) (by decide) (fun K hK=>?_)
       refine goes_ Try.func52 (by kernel_rfl) rfl #[.slice Ao19 t568.length co19,.slice Ao17 y571.length co17] (by rfl) rfl rfl (by (try simp only [List.map_toArray,List.map_cons,List.map_nil]);first|done|rfl|(simp only [List.length_drop,List.length_take];rfl)) ?_
       with_reducible refine (slipwayref01_Unpack.calls kj2 _ _ t568 _ _ y571 t575 t576 _ ?side1 ?side2 ?side3 ?side4 A12.out).mono ?_
       (case side1=>repeat (first|exact (Kd.R_reads' HO570.out).2.2|(with_reducible refine Kd.C_alloc ?_ _)|(with_reducible refine Kd.C_drewN ?_ _)|(with_reducible refine Kd.C_drew ?_)))
       (case side2=>exact (Kd.R_reads' HO570.out).2.1)
       (case side3=>repeat (first|exact (by repeat (first|(with_reducible exact HR574.out)|(with_reducible refine Kd.C_alloc ?_ _)|(with_reducible refine Kd.C_drewN ?_ _)|(with_reducible refine Kd.C_drew ?_)|exact HR574.out))|(with_reducible refine Kd.C_alloc ?_ _)|(with_reducible refine Kd.C_drewN ?_ _)|(with_reducible refine Kd.C_drew ?_)))
       (case side4=>exact HC574.out)
       rintro e w20 ⟨v577,rfl,ho0,hb⟩
       refine ⟨_,rfl,?_⟩
       have n0_:=Aside0.mk (Kd.R_below (by (with_reducible repeat (first|apply Kd.R_alloc|apply Kd.R_drewN|apply Kd.R_drew));exact HO_4.out) hb)
       have n1_:=Aside0.mk (Kd.R_below (by (with_reducible repeat (first|apply Kd.R_alloc|apply Kd.R_drewN|apply Kd.R_drew));exact HO570.out) hb)
       have n2_:=Aside0.mk (Kd.R_lower ho0 (below_size (by repeat (first|(with_reducible first|exact HB.out|apply below_alloc|apply pw_below_drewN|apply below_drew1|refine below_set ?_ GE563.out)|exact HB.out))))
       have n3_:=Aside0.mk (blk_below (g:=gb563) (o:=.cells #[.int .i64 0,.int .i64 0,.int .i64 0,.bool false,.int .i64 0] 63 (0,0)) (by (with_reducible repeat (first|refine blk_drewN ?_ _|refine blk_drew ?_|refine blk_alloc ?_ _));exact BK563.out) hb)
       have n4_:=Aside0.mk (Kd.C_below (by repeat (first|(with_reducible exact HR574.out)|(with_reducible refine Kd.C_alloc ?_ _)|(with_reducible refine Kd.C_drewN ?_ _)|(with_reducible refine Kd.C_drew ?_)|exact HR574.out)) hb)
       have n5_:=Aside0.mk (below_step (by repeat (first|(with_reducible first|exact HB.out|apply below_alloc|apply pw_below_drewN|apply below_drew1|refine below_set ?_ GE563.out)|exact HB.out)) hb)
       clear HO_4 HO570 BK563 HR574 HB
       have HO_4:=n0_
       have HO570:=n1_
       have HO578:=n2_
       have BK563:=n3_
       have HR574:=n4_
       have HB:=n5_
       clear n0_ n1_ n2_ n3_ n4_ n5_
       (try clear hb)
       (try clear hb2)
       (try clear hk)
       (try clear hi)
       (try clear ho0)
       refine hK.out _ _ trivial (fun hHeld=>?_)
       clear hK K
       refine norm_ (a':=?_) ?_ ?_
       rotate_left
       ·show Act.put _ (some 27) _=_
        simp only [Act.put,List.setIfInBounds_toArray,List.set_cons_zero,List.set_cons_succ,i64_w,i32_w]
        rfl
       refine pure_ (i:=4) (N:=some 23) (v:=?_) (a':=?_) #[true,true,true,true,true,false,false,false,false] rfl rfl (any_of HT_.out (by kernel_rfl)) (fun _ _ _ h=>h) (Or.inl ⟨by rfl,?_⟩) ?_ ?_
       rotate_left
       ·intro w'
        go_simp
        with_reducible rfl
       rotate_left
       ·simp only [Act.put,List.setIfInBounds_toArray,List.set_cons_zero,List.set_cons_succ,i64_w,i32_w]
        rfl
       refine pure_ (i:=5) (N:=some 28) (v:=?_) (a':=?_) #[true,true,true,true,true,true,false,false,false] rfl rfl (any_of HT_.out (by kernel_rfl)) (fun _ _ _ h=>h) (Or.inl ⟨by rfl,?_⟩) ?_ ?_
       rotate_left
       ·intro w'
        go_simp
        with_reducible rfl
       rotate_left
       ·simp only [Act.put,List.setIfInBounds_toArray,List.set_cons_zero,List.set_cons_succ,i64_w,i32_w]
        rfl
       refine pure_ (i:=6) (N:=some 29) (v:=?_) (a':=?_) #[true,true,true,true,true,true,true,false,false] rfl rfl (any_of HT_.out (by kernel_rfl)) (fun _ _ _ h=>h) (Or.inl ⟨by rfl,?_⟩) ?_ ?_
       rotate_left
       ·intro w'
        go_simp
        with_reducible rfl
       rotate_left
       ·simp only [Act.put,List.setIfInBounds_toArray,List.set_cons_zero,List.set_cons_succ,i64_w,i32_w]
        rfl
       refine pure_ (i:=7) (N:=some 6) (v:=?_) (a':=?_) #[true,true,true,true,true,true,true,true,false] rfl rfl (any_of HT_.out (by kernel_rfl)) (fun _ _ _ h=>h) (Or.inl ⟨by rfl,?_⟩) ?_ ?_
       rotate_left
       ·intro w'
        go_simp
        with_reducible rfl
       rotate_left
       ·simp only [Act.put,List.setIfInBounds_toArray,List.set_cons_zero,List.set_cons_succ,i64_w,i32_w]
        rfl
       refine pure_ (i:=8) (N:=some 7) (v:=?_) (a':=?_) #[true,true,true,true,true,true,true,true,true] rfl rfl (any_of HT_.out (by kernel_rfl)) (fun _ _ _ h=>h) (Or.inl ⟨by rfl,?_⟩) ?_ ?_
       rotate_left
       ·intro w'
        go_simp
        with_reducible rfl
       rotate_left
       ·simp only [Act.put,List.setIfInBounds_toArray,List.set_cons_zero,List.set_cons_succ,i64_w,i32_w]
        rfl
       refine done_ (done_of HT_.out (by kernel_rfl)) ?_
       obtain ⟨Ao21,co21,eo21⟩:=Kd.R_slice HO578.out
       subst eo21
       have p579:0≤(5:Int):=(by omega)
       have q579:5 < (t575.length:Int):=of_decide_eq_true (by first|(with_reducible assumption)|assumption)
       obtain ⟨ad579,e579,hx579_0⟩:=Kd.at_int (Kd.R_reads' HO578.out).2.2 5 p579 q579
       cases e579
       (try simp only [show (5:Int).toNat=5 from rfl,Nat.reduceMul,Nat.reduceEqDiff,Go.Addr.add,↓reduceIte] at hx579_0)
       have qi579:(5 < t575.length)=True:=eq_true (by omega)
       (try rw [show ((5:Int)).toNat=5 from rfl] at hx579_0)
       replace p579:=eq_true p579
       replace q579:=eq_true q579
       have hcz22_0:w20.cell? ⟨gb563,0,none⟩=some (.int .i64 0):=(blk_cell BK563.out 0).trans rfl
       have hcz22_1:w20.cell? ⟨gb563,1,none⟩=some (.int .i64 0):=(blk_cell BK563.out 1).trans rfl
       have hcz22_2:w20.cell? ⟨gb563,2,none⟩=some (.int .i64 0):=(blk_cell BK563.out 2).trans rfl
       have hcz22_3:w20.cell? ⟨gb563,3,none⟩=some (.bool false):=(blk_cell BK563.out 3).trans rfl
       have hcz22_4:w20.cell? ⟨gb563,4,none⟩=some (.int .i64 0):=(blk_cell BK563.out 4).trans rfl
       have hfz22_0:=blk_frozen BK563.out 0
       have hfz22_1:=blk_frozen BK563.out 1
       have hfz22_2:=blk_frozen BK563.out 2
       have hfz22_3:=blk_frozen BK563.out 3
       have hfz22_4:=blk_frozen BK563.out 4
       try go_wp2
       refine bodyPost_ret (results_ct rfl _ _ gb563 63 #[.int .i64 0,.int .i64 0,.int .i64 0,.bool false,.int .i64 0] (0,0) _ rfl (by (with_reducible repeat (first|refine blk_drewN ?_ _|refine blk_drew ?_|refine blk_alloc ?_ _));refine blk_put (cs:=#[.int .i64 0,.int .i64 0,.int .i64 0,.bool false,.int .i64 0]) ?_ 4 _ rfl;(with_reducible repeat (first|refine blk_drewN ?_ _|refine blk_drew ?_|refine blk_alloc ?_ _));refine blk_put (cs:=#[.int .i64 0,.int .i64 0,.int .i64 0,.bool false,.int .i64 0]) ?_ 3 _ rfl;(with_reducible repeat (first|refine blk_drewN ?_ _|refine blk_drew ?_|refine blk_alloc ?_ _));refine blk_put (cs:=#[.int .i64 0,.int .i64 0,.int .i64 0,.bool false,.int .i64 0]) ?_ 2 _ rfl;(with_reducible repeat (first|refine blk_drewN ?_ _|refine blk_drew ?_|refine blk_alloc ?_ _));refine blk_put (cs:=#[.int .i64 0,.int .i64 0,.int .i64 0,.bool false,.int .i64 0]) ?_ 1 _ rfl;(with_reducible repeat (first|refine blk_drewN ?_ _|refine blk_drew ?_|refine blk_alloc ?_ _));refine blk_put (cs:=#[.int .i64 0,.int .i64 0,.int .i64 0,.bool false,.int .i64 0]) ?_ 0 _ rfl;(with_reducible repeat (first|refine blk_drewN ?_ _|refine blk_drew ?_|refine blk_alloc ?_ _));exact BK563.out) Try.underlying63 rfl (by kernel_rfl)) rfl ?_
       exact ⟨by first|rfl|(simp [errW_none,errW_some] <;> rfl)|(simp [*,errW_none,errW_some] <;> rfl),by repeat (first|(with_reducible first|exact HB.out|apply below_alloc|apply pw_below_drewN|apply below_drew1|refine below_set ?_ GE563.out)|exact HB.out)⟩
      ·rw [if_neg c14] at H
       have c14b0:decide (1152921504606846976 < (rd t575 5))=false:=decide_eq_false c14
       clear c14
       by_cases c23:1 < (t575.length:Int)
       ·rw [if_pos c23] at H
        have c23b0:decide (1 < (t575.length:Int))=true:=decide_eq_true c23
        have c23b1:decide (1 < t575.length)=true:=decide_eq_true (by omega)
        clear c23
        by_cases c24:2 < (t575.length:Int)
        ·rw [if_pos c24] at H
         have c24b0:decide (2 < (t575.length:Int))=true:=decide_eq_true c24
         have c24b1:decide (2 < t575.length)=true:=decide_eq_true (by omega)
         clear c24
         by_cases c25:3 < (t575.length:Int)
         ·rw [if_pos c25] at H
          have c25b0:decide (3 < (t575.length:Int))=true:=decide_eq_true c25
          have c25b1:decide (3 < t575.length)=true:=decide_eq_true (by omega)
          clear c25
          by_cases c26:4 < (t575.length:Int)
          ·rw [if_pos c26] at H
           have c26b0:decide (4 < (t575.length:Int))=true:=decide_eq_true c26
           have c26b1:decide (4 < t575.length)=true:=decide_eq_true (by omega)
           clear c26
           replace H:=Option.bind_eq_some_iff.mp H
           obtain ⟨⟨t586,t589⟩,A270,H⟩:=H
           replace H:(if t589=0 then (if (strOfNums t586).toList=(strOfNums l0).toList then (some (wrap64 (rd t575 1),wrap64 (rd t575 2),wrap64 (rd t575 4),((rd t575 3) == 1),wrap64 (rd t575 5),0)) else (some (0,0,0,false,0,111))) else (some (0,0,0,false,0,111)))=some (r1,r2,r3,r4,r5,r6):=H
           have A27:=Aside0.mk A270
           clear A270
           by_cases c28:t589=0
           ·rw [if_pos c28] at H
            have c28b0:(t589 == 0)=true:=beq_iff_eq.mpr c28
            have c28b1:(t589 != 0)=false:=bne_eq_false_iff_eq.mpr c28
            clear c28
            by_cases c29:(strOfNums t586).toList=(strOfNums l0).toList
            ·rw [if_pos c29] at H
             have c29b0:((strOfNums t586).toList == (strOfNums l0).toList)=true:=beq_iff_eq.mpr c29
             have c29b1:((strOfNums t586).toList != (strOfNums l0).toList)=false:=bne_eq_false_iff_eq.mpr c29
             clear c29
             simp only [Option.some.injEq,Prod.mk.injEq] at H
             obtain ⟨rfl,rfl,rfl,rfl,rfl,rfl⟩:=H
             try go_wp2
             have n0_:=Aside0.mk (Kd.R_drew HO_4.out)
             have n1_:=Aside0.mk (blk_drew BK563.out)
             have n2_:=Aside0.mk (below_drew1 HB.out)
             clear HO_4 BK563 HB
             have HO_4:=n0_
             have BK563:=n1_
             have HB:=n2_
             clear n0_ n1_ n2_
             obtain ⟨Ao32,co32,eo32⟩:=Kd.R_slice HO_4.out
             (first|subst eo32|(injection eo32 with f1_ f2_ f3_;have f4_:=f1_.symm;have f5_:=f3_.symm;clear f1_ f2_ f3_;subst f4_;subst f5_))
             have q31:(23:Int)≤((t564.length:Int):Int):=of_decide_eq_true (by first|(with_reducible assumption)|assumption)
             obtain ⟨i031,hi031,_,hsz31,_⟩:=info_parts info5
             have hroom31:t564.length≤co32:=(Kd.R_reads' HO_4.out).2.1
             have hC31:Kd.C (Kd.int .u8) _ Ao32 t564.length t564:=(Kd.R_reads' HO_4.out).2.2
             have hcut31:=cut_to (P:=Try.prog) 48 5 .i64 Try.underlying48 hi031 Ao32 t564.length co32 23 (by omega) q31 hroom31
             have hr31:=Kd.C_take (m:=23) hC31 (by omega)
             have hy31:y571.length=(23:Int).toNat:=(by rw [Ny571.out,List.length_take];omega)
             rw [← Ny571.out] at hr31
             rw [← hy31] at hcut31
             have HR574:=Aside0.mk hr31
             have HC574:=Aside0.mk (show y571.length≤co32 from by omega)
             clear hr31 hC31 hroom31 hi031 hsz31
             have KY31:=Aside0.mk hy31
             clear hy31
             have KL31:=Aside0.mk (show 23≤t564.length from by omega)
             replace q31:=eq_true q31
             refine start_ (n:=9) (S:=fun w'=>True) (ds:=[]) #[false,false,false,false,false,false,false,false,false] (by kernel_rfl) rfl rfl trivial (fun hHeld=>?_);refine with_tabW slipwayref11_DecodeSuper.tab4 slipwayref11_DecodeSuper.bits4 (fun HT_ HW_=>?_)
             generalize wc.drew=w30 at HO_4 BK563 HB HR574 hHeld ⊢
             refine pure_ (i:=1) (N:=some 25) (v:=?_) (a':=?_) #[false,true,false,false,false,false,false,false,false] rfl rfl (any_of HT_.out (by kernel_rfl)) (fun _ _ _ h=>h) (Or.inl ⟨by rfl,?_⟩) ?_ ?_
             rotate_left
             ·intro w'
              go_simp
              with_reducible rfl
             rotate_left
             ·simp only [Act.put,List.setIfInBounds_toArray,List.set_cons_zero,List.set_cons_succ,i64_w,i32_w]
              rfl
             refine pure_ (i:=2) (N:=some 26) (v:=?_) (a':=?_) #[false,true,true,false,false,false,false,false,false] rfl rfl (any_of HT_.out (by kernel_rfl)) (fun _ _ _ h=>h) (Or.inl ⟨by rfl,?_⟩) ?_ ?_
             rotate_left
             ·intro w'
              go_simp
              with_reducible rfl
             rotate_left
             ·simp only [Act.put,List.setIfInBounds_toArray,List.set_cons_zero,List.set_cons_succ,i64_w,i32_w]
              rfl
             refine one_ (i:=0) (N:=some 24) #[true,true,true,false,false,false,false,false,false] rfl rfl (one_of HT_.out (by kernel_rfl)) (by decide) (fun K hK=>?_)
             refine goes_ Try.func56 (by kernel_rfl) rfl #[] (by rfl) rfl rfl (by (try simp only [List.map_toArray,List.map_cons,List.map_nil]);first|done|rfl|(simp only [List.length_drop,List.length_take];rfl)) ?_
             with_reducible refine (slipwayref11_superWidths.calls  t568 _ A10.out).mono ?_
             rintro e w33 ⟨v569,rfl,ho0,hb⟩
             refine ⟨_,rfl,?_⟩
             have n0_:=Aside0.mk (Kd.R_below (by (with_reducible repeat (first|apply Kd.R_alloc|apply Kd.R_drewN|apply Kd.R_drew));exact HO_4.out) hb)
             have n1_:=Aside0.mk (Kd.R_lower ho0 (below_size (by repeat (first|(with_reducible first|exact HB.out|apply below_alloc|apply pw_below_drewN|apply below_drew1|refine below_set ?_ GE563.out)|exact HB.out))))
             have n2_:=Aside0.mk (blk_below (g:=gb563) (o:=.cells #[.int .i64 0,.int .i64 0,.int .i64 0,.bool false,.int .i64 0] 63 (0,0)) (by (with_reducible repeat (first|refine blk_drewN ?_ _|refine blk_drew ?_|refine blk_alloc ?_ _));exact BK563.out) hb)
             have n3_:=Aside0.mk (Kd.C_below (by repeat (first|(with_reducible exact HR574.out)|(with_reducible refine Kd.C_alloc ?_ _)|(with_reducible refine Kd.C_drewN ?_ _)|(with_reducible refine Kd.C_drew ?_)|exact HR574.out)) hb)
             have n4_:=Aside0.mk (below_step (by repeat (first|(with_reducible first|exact HB.out|apply below_alloc|apply pw_below_drewN|apply below_drew1|refine below_set ?_ GE563.out)|exact HB.out)) hb)
             clear HO_4 BK563 HR574 HB
             have HO_4:=n0_
             have HO570:=n1_
             have BK563:=n2_
             have HR574:=n3_
             have HB:=n4_
             clear n0_ n1_ n2_ n3_ n4_
             (try clear hb)
             (try clear hb2)
             (try clear hk)
             (try clear hi)
             (try clear ho0)
             obtain ⟨Ao34,co34,eo34⟩:=Kd.R_slice HO570.out
             (first|subst eo34|(injection eo34 with f1_ f2_ f3_;have f4_:=f1_.symm;have f5_:=f3_.symm;clear f1_ f2_ f3_;subst f4_;subst f5_))
             refine hK.out _ _ trivial (fun hHeld=>?_)
             clear hK K
             refine norm_ (a':=?_) ?_ ?_
             rotate_left
             ·show Act.put _ (some 24) _=_
              simp only [Act.put,List.setIfInBounds_toArray,List.set_cons_zero,List.set_cons_succ,i64_w,i32_w]
              rfl
             refine one_ (i:=3) (N:=some 27) #[true,true,true,true,false,false,false,false,false] rfl rfl (one_of HT_.out (by kernel_rfl)) (by decide) (fun K hK=>?_)
             refine goes_ Try.func52 (by kernel_rfl) rfl #[.slice Ao34 t568.length co34,.slice Ao32 y571.length co32] (by rfl) rfl rfl (by (try simp only [List.map_toArray,List.map_cons,List.map_nil]);first|done|rfl|(simp only [List.length_drop,List.length_take];rfl)) ?_
             with_reducible refine (slipwayref01_Unpack.calls kj2 _ _ t568 _ _ y571 t575 t576 _ ?side1 ?side2 ?side3 ?side4 A12.out).mono ?_
             (case side1=>repeat (first|exact (Kd.R_reads' HO570.out).2.2|(with_reducible refine Kd.C_alloc ?_ _)|(with_reducible refine Kd.C_drewN ?_ _)|(with_reducible refine Kd.C_drew ?_)))
             (case side2=>exact (Kd.R_reads' HO570.out).2.1)
             (case side3=>repeat (first|exact (by repeat (first|(with_reducible exact HR574.out)|(with_reducible refine Kd.C_alloc ?_ _)|(with_reducible refine Kd.C_drewN ?_ _)|(with_reducible refine Kd.C_drew ?_)|exact HR574.out))|(with_reducible refine Kd.C_alloc ?_ _)|(with_reducible refine Kd.C_drewN ?_ _)|(with_reducible refine Kd.C_drew ?_)))
             (case side4=>exact HC574.out)
             rintro e w35 ⟨v577,rfl,ho0,hb⟩
             refine ⟨_,rfl,?_⟩
             have n0_:=Aside0.mk (Kd.R_below (by (with_reducible repeat (first|apply Kd.R_alloc|apply Kd.R_drewN|apply Kd.R_drew));exact HO_4.out) hb)
             have n1_:=Aside0.mk (Kd.R_below (by (with_reducible repeat (first|apply Kd.R_alloc|apply Kd.R_drewN|apply Kd.R_drew));exact HO570.out) hb)
             have n2_:=Aside0.mk (Kd.R_lower ho0 (below_size (by repeat (first|(with_reducible first|exact HB.out|apply below_alloc|apply pw_below_drewN|apply below_drew1|refine below_set ?_ GE563.out)|exact HB.out))))
             have n3_:=Aside0.mk (blk_below (g:=gb563) (o:=.cells #[.int .i64 0,.int .i64 0,.int .i64 0,.bool false,.int .i64 0] 63 (0,0)) (by (with_reducible repeat (first|refine blk_drewN ?_ _|refine blk_drew ?_|refine blk_alloc ?_ _));exact BK563.out) hb)
             have n4_:=Aside0.mk (Kd.C_below (by repeat (first|(with_reducible exact HR574.out)|(with_reducible refine Kd.C_alloc ?_ _)|(with_reducible refine Kd.C_drewN ?_ _)|(with_reducible refine Kd.C_drew ?_)|exact HR574.out)) hb)
             have n5_:=Aside0.mk (below_step (by repeat (first|(with_reducible first|exact HB.out|apply below_alloc|apply pw_below_drewN|apply below_drew1|refine below_set ?_ GE563.out)|exact HB.out)) hb)
             clear HO_4 HO570 BK563 HR574 HB
             have HO_4:=n0_
             have HO570:=n1_
             have HO578:=n2_
             have BK563:=n3_
             have HR574:=n4_
             have HB:=n5_
             clear n0_ n1_ n2_ n3_ n4_ n5_
             (try clear hb)
             (try clear hb2)
             (try clear hk)
             (try clear hi)
             (try clear ho0)
             refine hK.out _ _ trivial (fun hHeld=>?_)
             clear hK K
             refine norm_ (a':=?_) ?_ ?_
             rotate_left
             ·show Act.put _ (some 27) _=_
              simp only [Act.put,List.setIfInBounds_toArray,List.set_cons_zero,List.set_cons_succ,i64_w,i32_w]
              rfl
             refine pure_ (i:=4) (N:=some 23) (v:=?_) (a':=?_) #[true,true,true,true,true,false,false,false,false] rfl rfl (any_of HT_.out (by kernel_rfl)) (fun _ _ _ h=>h) (Or.inl ⟨by rfl,?_⟩) ?_ ?_
             rotate_left
             ·intro w'
              go_simp
              with_reducible rfl
             rotate_left
             ·simp only [Act.put,List.setIfInBounds_toArray,List.set_cons_zero,List.set_cons_succ,i64_w,i32_w]
              rfl
             refine pure_ (i:=5) (N:=some 28) (v:=?_) (a':=?_) #[true,true,true,true,true,true,false,false,false] rfl rfl (any_of HT_.out (by kernel_rfl)) (fun _ _ _ h=>h) (Or.inl ⟨by rfl,?_⟩) ?_ ?_
             rotate_left
             ·intro w'
              go_simp
              with_reducible rfl
             rotate_left
             ·simp only [Act.put,List.setIfInBounds_toArray,List.set_cons_zero,List.set_cons_succ,i64_w,i32_w]
              rfl
             refine pure_ (i:=6) (N:=some 29) (v:=?_) (a':=?_) #[true,true,true,true,true,true,true,false,false] rfl rfl (any_of HT_.out (by kernel_rfl)) (fun _ _ _ h=>h) (Or.inl ⟨by rfl,?_⟩) ?_ ?_
             rotate_left
             ·intro w'
              go_simp
              with_reducible rfl
             rotate_left
             ·simp only [Act.put,List.setIfInBounds_toArray,List.set_cons_zero,List.set_cons_succ,i64_w,i32_w]
              rfl
             refine pure_ (i:=7) (N:=some 6) (v:=?_) (a':=?_) #[true,true,true,true,true,true,true,true,false] rfl rfl (any_of HT_.out (by kernel_rfl)) (fun _ _ _ h=>h) (Or.inl ⟨by rfl,?_⟩) ?_ ?_
             rotate_left
             ·intro w'
              go_simp
              with_reducible rfl
             rotate_left
             ·simp only [Act.put,List.setIfInBounds_toArray,List.set_cons_zero,List.set_cons_succ,i64_w,i32_w]
              rfl
             refine pure_ (i:=8) (N:=some 7) (v:=?_) (a':=?_) #[true,true,true,true,true,true,true,true,true] rfl rfl (any_of HT_.out (by kernel_rfl)) (fun _ _ _ h=>h) (Or.inl ⟨by rfl,?_⟩) ?_ ?_
             rotate_left
             ·intro w'
              go_simp
              with_reducible rfl
             rotate_left
             ·simp only [Act.put,List.setIfInBounds_toArray,List.set_cons_zero,List.set_cons_succ,i64_w,i32_w]
              rfl
             refine done_ (done_of HT_.out (by kernel_rfl)) ?_
             obtain ⟨Ao36,co36,eo36⟩:=Kd.R_slice HO578.out
             subst eo36
             have p579:0≤(5:Int):=(by omega)
             have q579:5 < (t575.length:Int):=of_decide_eq_true (by first|(with_reducible assumption)|assumption)
             obtain ⟨ad579,e579,hx579_0⟩:=Kd.at_int (Kd.R_reads' HO578.out).2.2 5 p579 q579
             cases e579
             (try simp only [show (5:Int).toNat=5 from rfl,Nat.reduceMul,Nat.reduceEqDiff,Go.Addr.add,↓reduceIte] at hx579_0)
             have qi579:(5 < t575.length)=True:=eq_true (by omega)
             (try rw [show ((5:Int)).toNat=5 from rfl] at hx579_0)
             replace p579:=eq_true p579
             replace q579:=eq_true q579
             try go_wp2
             have n0_:=Aside0.mk (Kd.R_drew HO_4.out)
             have n1_:=Aside0.mk (Kd.R_drew HO570.out)
             have n2_:=Aside0.mk (Kd.R_drew HO578.out)
             have n3_:=Aside0.mk (blk_drew BK563.out)
             have n4_:=Aside0.mk (Kd.C_drew HR574.out)
             have n5_:=Aside0.mk (below_drew1 HB.out)
             clear HO_4 HO570 HO578 BK563 HR574 HB
             have HO_4:=n0_
             have HO570:=n1_
             have HO578:=n2_
             have BK563:=n3_
             have HR574:=n4_
             have HB:=n5_
             clear n0_ n1_ n2_ n3_ n4_ n5_
             have p580:0≤(1:Int):=(by omega)
             have q580:1 < (t575.length:Int):=of_decide_eq_true (by first|(with_reducible assumption)|assumption)
             obtain ⟨ad580,e580,hx580_0⟩:=Kd.at_int (Kd.R_reads' HO578.out).2.2 1 p580 q580
             obtain rfl:ad579=ad580:=(by injection e580)
             (try simp only [show (1:Int).toNat=1 from rfl,Nat.reduceMul,Nat.reduceEqDiff,Go.Addr.add,↓reduceIte] at hx580_0)
             have qi580:(1 < t575.length)=True:=eq_true (by omega)
             (try rw [show ((1:Int)).toNat=1 from rfl] at hx580_0)
             replace p580:=eq_true p580
             replace q580:=eq_true q580
             have p581:0≤(2:Int):=(by omega)
             have q581:2 < (t575.length:Int):=of_decide_eq_true (by first|(with_reducible assumption)|assumption)
             obtain ⟨ad581,e581,hx581_0⟩:=Kd.at_int (Kd.R_reads' HO578.out).2.2 2 p581 q581
             obtain rfl:ad579=ad581:=(by injection e581)
             (try simp only [show (2:Int).toNat=2 from rfl,Nat.reduceMul,Nat.reduceEqDiff,Go.Addr.add,↓reduceIte] at hx581_0)
             have qi581:(2 < t575.length)=True:=eq_true (by omega)
             (try rw [show ((2:Int)).toNat=2 from rfl] at hx581_0)
             replace p581:=eq_true p581
             replace q581:=eq_true q581
             have p582:0≤(3:Int):=(by omega)
             have q582:3 < (t575.length:Int):=of_decide_eq_true (by first|(with_reducible assumption)|assumption)
             obtain ⟨ad582,e582,hx582_0⟩:=Kd.at_int (Kd.R_reads' HO578.out).2.2 3 p582 q582
             obtain rfl:ad579=ad582:=(by injection e582)
             (try simp only [show (3:Int).toNat=3 from rfl,Nat.reduceMul,Nat.reduceEqDiff,Go.Addr.add,↓reduceIte] at hx582_0)
             have qi582:(3 < t575.length)=True:=eq_true (by omega)
             (try rw [show ((3:Int)).toNat=3 from rfl] at hx582_0)
             replace p582:=eq_true p582
             replace q582:=eq_true q582
             have p583:0≤(4:Int):=(by omega)
             have q583:4 < (t575.length:Int):=of_decide_eq_true (by first|(with_reducible assumption)|assumption)
             obtain ⟨ad583,e583,hx583_0⟩:=Kd.at_int (Kd.R_reads' HO578.out).2.2 4 p583 q583
             obtain rfl:ad579=ad583:=(by injection e583)
             (try simp only [show (4:Int).toNat=4 from rfl,Nat.reduceMul,Nat.reduceEqDiff,Go.Addr.add,↓reduceIte] at hx583_0)
             have qi583:(4 < t575.length)=True:=eq_true (by omega)
             (try rw [show ((4:Int)).toNat=4 from rfl] at hx583_0)
             replace p583:=eq_true p583
             replace q583:=eq_true q583
             have p584:0≤(5:Int):=(by omega)
             have q584:5 < (t575.length:Int):=of_decide_eq_true (by first|(with_reducible assumption)|assumption)
             obtain ⟨ad584,e584,hx584_0⟩:=Kd.at_int (Kd.R_reads' HO578.out).2.2 5 p584 q584
             obtain rfl:ad579=ad584:=(by injection e584)
             (try simp only [show (5:Int).toNat=5 from rfl,Nat.reduceMul,Nat.reduceEqDiff,Go.Addr.add,↓reduceIte] at hx584_0)
             have qi584:(5 < t575.length)=True:=eq_true (by omega)
             (try rw [show ((5:Int)).toNat=5 from rfl] at hx584_0)
             replace p584:=eq_true p584
             replace q584:=eq_true q584
             refine start_ (n:=24) (S:=fun w'=>w'.cell? ⟨ad579.block,ad579.off + 1,none⟩=some (.int .u64 (rd t575 1))∧w'.cell? ⟨ad579.block,ad579.off + 2,none⟩=some (.int .u64 (rd t575 2))∧w'.cell? ⟨ad579.block,ad579.off + 3,none⟩=some (.int .u64 (rd t575 3))∧w'.cell? ⟨ad579.block,ad579.off + 4,none⟩=some (.int .u64 (rd t575 4))∧w'.cell? ⟨ad579.block,ad579.off + 5,none⟩=some (.int .u64 (rd t575 5))) (ds:=[]) #[false,false,false,false,false,false,false,false,false,false,false,false,false,false,false,false,false,false,false,false,false,false,false,false] (by kernel_rfl) rfl rfl ⟨hx580_0,hx581_0,hx582_0,hx583_0,hx584_0⟩ (fun hHeld=>?_);refine with_tabW slipwayref11_DecodeSuper.tab7 slipwayref11_DecodeSuper.bits7 (fun HT_ HW_=>?_)
             generalize w35.drew=w37 at HO_4 HO570 HO578 BK563 HR574 HB hx580_0 hx581_0 hx582_0 hx583_0 hx584_0 hHeld ⊢
             refine pure_ (i:=0) (N:=some 35) (v:=?_) (a':=?_) #[true,false,false,false,false,false,false,false,false,false,false,false,false,false,false,false,false,false,false,false,false,false,false,false] rfl rfl (any_of HT_.out (by kernel_rfl)) (fun _ _ _ h=>h) (Or.inl ⟨by rfl,?_⟩) ?_ ?_
             rotate_left
             ·intro w'
              go_simp
              with_reducible rfl
             rotate_left
             ·simp only [Act.put,List.setIfInBounds_toArray,List.set_cons_zero,List.set_cons_succ,i64_w,i32_w]
              rfl
             refine pure_ (i:=1) (N:=some 36) (v:=?_) (a':=?_) #[true,true,false,false,false,false,false,false,false,false,false,false,false,false,false,false,false,false,false,false,false,false,false,false] rfl rfl (any_of HT_.out (by kernel_rfl)) (fun _ _ _ h=>h) (Or.inl ⟨by rfl,?_⟩) ?_ ?_
             rotate_left
             ·intro w'
              go_simp
              with_reducible rfl
             rotate_left
             ·simp only [Act.put,List.setIfInBounds_toArray,List.set_cons_zero,List.set_cons_succ,i64_w,i32_w]
              rfl
             refine pure_ (i:=4) (N:=some 39) (v:=?_) (a':=?_) #[true,true,false,false,true,false,false,false,false,false,false,false,false,false,false,false,false,false,false,false,false,false,false,false] rfl rfl (any_of HT_.out (by kernel_rfl)) (fun _ _ _ h=>h) (Or.inl ⟨by rfl,?_⟩) ?_ ?_
             rotate_left
             ·intro w'
              go_simp
              with_reducible rfl
             rotate_left
             ·simp only [Act.put,List.setIfInBounds_toArray,List.set_cons_zero,List.set_cons_succ,i64_w,i32_w]
              rfl
             refine pure_ (i:=5) (N:=some 40) (v:=?_) (a':=?_) #[true,true,false,false,true,true,false,false,false,false,false,false,false,false,false,false,false,false,false,false,false,false,false,false] rfl rfl (any_of HT_.out (by kernel_rfl)) (fun _ _ _ h=>h) (Or.inl ⟨by rfl,?_⟩) ?_ ?_
             rotate_left
             ·intro w'
              go_simp
              with_reducible rfl
             rotate_left
             ·simp only [Act.put,List.setIfInBounds_toArray,List.set_cons_zero,List.set_cons_succ,i64_w,i32_w]
              rfl
             refine pure_ (i:=9) (N:=some 44) (v:=?_) (a':=?_) #[true,true,false,false,true,true,false,false,false,true,false,false,false,false,false,false,false,false,false,false,false,false,false,false] rfl rfl (any_of HT_.out (by kernel_rfl)) (fun _ _ _ h=>h) (Or.inl ⟨by rfl,?_⟩) ?_ ?_
             rotate_left
             ·intro w'
              go_simp
              with_reducible rfl
             rotate_left
             ·simp only [Act.put,List.setIfInBounds_toArray,List.set_cons_zero,List.set_cons_succ,i64_w,i32_w]
              rfl
             refine pure_ (i:=10) (N:=some 45) (v:=?_) (a':=?_) #[true,true,false,false,true,true,false,false,false,true,true,false,false,false,false,false,false,false,false,false,false,false,false,false] rfl rfl (any_of HT_.out (by kernel_rfl)) (fun _ _ _ h=>h) (Or.inl ⟨by rfl,?_⟩) ?_ ?_
             rotate_left
             ·intro w'
              go_simp
              with_reducible rfl
             rotate_left
             ·simp only [Act.put,List.setIfInBounds_toArray,List.set_cons_zero,List.set_cons_succ,i64_w,i32_w]
              rfl
             refine pure_ (i:=13) (N:=some 48) (v:=?_) (a':=?_) #[true,true,false,false,true,true,false,false,false,true,true,false,false,true,false,false,false,false,false,false,false,false,false,false] rfl rfl (any_of HT_.out (by kernel_rfl)) (fun _ _ _ h=>h) (Or.inl ⟨by rfl,?_⟩) ?_ ?_
             rotate_left
             ·intro w'
              go_simp
              with_reducible rfl
             rotate_left
             ·simp only [Act.put,List.setIfInBounds_toArray,List.set_cons_zero,List.set_cons_succ,i64_w,i32_w]
              rfl
             refine pure_ (i:=14) (N:=some 49) (v:=?_) (a':=?_) #[true,true,false,false,true,true,false,false,false,true,true,false,false,true,true,false,false,false,false,false,false,false,false,false] rfl rfl (any_of HT_.out (by kernel_rfl)) (fun _ _ _ h=>h) (Or.inl ⟨by rfl,?_⟩) ?_ ?_
             rotate_left
             ·intro w'
              go_simp
              with_reducible rfl
             rotate_left
             ·simp only [Act.put,List.setIfInBounds_toArray,List.set_cons_zero,List.set_cons_succ,i64_w,i32_w]
              rfl
             refine pure_ (i:=17) (N:=some 52) (v:=?_) (a':=?_) #[true,true,false,false,true,true,false,false,false,true,true,false,false,true,true,false,false,true,false,false,false,false,false,false] rfl rfl (any_of HT_.out (by kernel_rfl)) (fun _ _ _ h=>h) (Or.inl ⟨by rfl,?_⟩) ?_ ?_
             rotate_left
             ·intro w'
              go_simp
              with_reducible rfl
             rotate_left
             ·simp only [Act.put,List.setIfInBounds_toArray,List.set_cons_zero,List.set_cons_succ,i64_w,i32_w]
              rfl
             refine pure_ (i:=18) (N:=some 53) (v:=?_) (a':=?_) #[true,true,false,false,true,true,false,false,false,true,true,false,false,true,true,false,false,true,true,false,false,false,false,false] rfl rfl (any_of HT_.out (by kernel_rfl)) (fun _ _ _ h=>h) (Or.inl ⟨by rfl,?_⟩) ?_ ?_
             rotate_left
             ·intro w'
              go_simp
              with_reducible rfl
             rotate_left
             ·simp only [Act.put,List.setIfInBounds_toArray,List.set_cons_zero,List.set_cons_succ,i64_w,i32_w]
              rfl
             refine take_ (i:=2) (N:=some 37) (v:=?_) (a':=?_) #[true,true,true,false,true,true,false,false,false,true,true,false,false,true,true,false,false,true,true,false,false,false,false,false] rfl rfl (take_ofW HT_.out HW_.out (by kernel_rfl)) (fun _ _ _ h=>h) (Or.inl ⟨by rfl,?_⟩) hHeld ?_ ?_
             rotate_left
             ·rintro w' ⟨s0,s1,s2,s3,s4⟩
              go_simp
              with_reducible rfl
             rotate_left
             ·simp only [Act.put,List.setIfInBounds_toArray,List.set_cons_zero,List.set_cons_succ,i64_w,i32_w]
              rfl
             refine pure_ (i:=3) (N:=some 38) (v:=?_) (a':=?_) #[true,true,true,true,true,true,false,false,false,true,true,false,false,true,true,false,false,true,true,false,false,false,false,false] rfl rfl (any_of HT_.out (by kernel_rfl)) (fun _ _ _ h=>h) (Or.inl ⟨by rfl,?_⟩) ?_ ?_
             rotate_left
             ·intro w'
              go_simp
              with_reducible rfl
             rotate_left
             ·simp only [Act.put,List.setIfInBounds_toArray,List.set_cons_zero,List.set_cons_succ,i64_w,i32_w]
              rfl
             refine take_ (i:=6) (N:=some 41) (v:=?_) (a':=?_) #[true,true,true,true,true,true,true,false,false,true,true,false,false,true,true,false,false,true,true,false,false,false,false,false] rfl rfl (take_ofW HT_.out HW_.out (by kernel_rfl)) (fun _ _ _ h=>h) (Or.inl ⟨by rfl,?_⟩) hHeld ?_ ?_
             rotate_left
             ·rintro w' ⟨s0,s1,s2,s3,s4⟩
              go_simp
              with_reducible rfl
             rotate_left
             ·simp only [Act.put,List.setIfInBounds_toArray,List.set_cons_zero,List.set_cons_succ,i64_w,i32_w]
              rfl
             refine pure_ (i:=7) (N:=some 42) (v:=?_) (a':=?_) #[true,true,true,true,true,true,true,true,false,true,true,false,false,true,true,false,false,true,true,false,false,false,false,false] rfl rfl (any_of HT_.out (by kernel_rfl)) (fun _ _ _ h=>h) (Or.inl ⟨by rfl,?_⟩) ?_ ?_
             rotate_left
             ·intro w'
              go_simp
              with_reducible rfl
             rotate_left
             ·simp only [Act.put,List.setIfInBounds_toArray,List.set_cons_zero,List.set_cons_succ,i64_w,i32_w]
              rfl
             refine pure_ (i:=8) (N:=some 43) (v:=?_) (a':=?_) #[true,true,true,true,true,true,true,true,true,true,true,false,false,true,true,false,false,true,true,false,false,false,false,false] rfl rfl (any_of HT_.out (by kernel_rfl)) (fun _ _ _ h=>h) (Or.inl ⟨by rfl,?_⟩) ?_ ?_
             rotate_left
             ·intro w'
              go_simp
              with_reducible rfl
             rotate_left
             ·simp only [Act.put,List.setIfInBounds_toArray,List.set_cons_zero,List.set_cons_succ,i64_w,i32_w]
              rfl
             refine take_ (i:=11) (N:=some 46) (v:=?_) (a':=?_) #[true,true,true,true,true,true,true,true,true,true,true,true,false,true,true,false,false,true,true,false,false,false,false,false] rfl rfl (take_ofW HT_.out HW_.out (by kernel_rfl)) (fun _ _ _ h=>h) (Or.inl ⟨by rfl,?_⟩) hHeld ?_ ?_
             rotate_left
             ·rintro w' ⟨s0,s1,s2,s3,s4⟩
              go_simp
              with_reducible rfl
             rotate_left
             ·simp only [Act.put,List.setIfInBounds_toArray,List.set_cons_zero,List.set_cons_succ,i64_w,i32_w]
              rfl
             refine pure_ (i:=12) (N:=some 47) (v:=?_) (a':=?_) #[true,true,true,true,true,true,true,true,true,true,true,true,true,true,true,false,false,true,true,false,false,false,false,false] rfl rfl (any_of HT_.out (by kernel_rfl)) (fun _ _ _ h=>h) (Or.inl ⟨by rfl,?_⟩) ?_ ?_
             rotate_left
             ·intro w'
              go_simp
              with_reducible rfl
             rotate_left
             ·simp only [Act.put,List.setIfInBounds_toArray,List.set_cons_zero,List.set_cons_succ,i64_w,i32_w]
              rfl
             refine take_ (i:=15) (N:=some 50) (v:=?_) (a':=?_) #[true,true,true,true,true,true,true,true,true,true,true,true,true,true,true,true,false,true,true,false,false,false,false,false] rfl rfl (take_ofW HT_.out HW_.out (by kernel_rfl)) (fun _ _ _ h=>h) (Or.inl ⟨by rfl,?_⟩) hHeld ?_ ?_
             rotate_left
             ·rintro w' ⟨s0,s1,s2,s3,s4⟩
              go_simp
              with_reducible rfl
             rotate_left
             ·simp only [Act.put,List.setIfInBounds_toArray,List.set_cons_zero,List.set_cons_succ,i64_w,i32_w]
              rfl
             refine pure_ (i:=16) (N:=some 51) (v:=?_) (a':=?_) #[true,true,true,true,true,true,true,true,true,true,true,true,true,true,true,true,true,true,true,false,false,false,false,false] rfl rfl (any_of HT_.out (by kernel_rfl)) (fun _ _ _ h=>h) (Or.inl ⟨by rfl,?_⟩) ?_ ?_
             rotate_left
             ·intro w'
              go_simp
              with_reducible rfl
             rotate_left
             ·simp only [Act.put,List.setIfInBounds_toArray,List.set_cons_zero,List.set_cons_succ,i64_w,i32_w]
              rfl
             refine take_ (i:=19) (N:=some 54) (v:=?_) (a':=?_) #[true,true,true,true,true,true,true,true,true,true,true,true,true,true,true,true,true,true,true,true,false,false,false,false] rfl rfl (take_ofW HT_.out HW_.out (by kernel_rfl)) (fun _ _ _ h=>h) (Or.inl ⟨by rfl,?_⟩) hHeld ?_ ?_
             rotate_left
             ·rintro w' ⟨s0,s1,s2,s3,s4⟩
              go_simp
              with_reducible rfl
             rotate_left
             ·simp only [Act.put,List.setIfInBounds_toArray,List.set_cons_zero,List.set_cons_succ,i64_w,i32_w]
              rfl
             refine pure_ (i:=20) (N:=some 55) (v:=?_) (a':=?_) #[true,true,true,true,true,true,true,true,true,true,true,true,true,true,true,true,true,true,true,true,true,false,false,false] rfl rfl (any_of HT_.out (by kernel_rfl)) (fun _ _ _ h=>h) (Or.inl ⟨by rfl,?_⟩) ?_ ?_
             rotate_left
             ·intro w'
              go_simp
              with_reducible rfl
             rotate_left
             ·simp only [Act.put,List.setIfInBounds_toArray,List.set_cons_zero,List.set_cons_succ,i64_w,i32_w]
              rfl
             refine pure_ (i:=21) (N:=some 56) (v:=?_) (a':=?_) #[true,true,true,true,true,true,true,true,true,true,true,true,true,true,true,true,true,true,true,true,true,true,false,false] rfl rfl (any_of HT_.out (by kernel_rfl)) (fun _ _ _ h=>h) (Or.inl ⟨by rfl,?_⟩) ?_ ?_
             rotate_left
             ·intro w'
              go_simp
              with_reducible rfl
             rotate_left
             ·simp only [Act.put,List.setIfInBounds_toArray,List.set_cons_zero,List.set_cons_succ,i64_w,i32_w]
              rfl
             refine one_ (i:=22) (N:=some 8) #[true,true,true,true,true,true,true,true,true,true,true,true,true,true,true,true,true,true,true,true,true,true,true,false] rfl rfl (one_of HT_.out (by kernel_rfl)) (by decide) (fun K hK=>?_)
             refine box_step ?hg (N:=8) ?hd (cs:=#[.int .i64 0,.int .i64 0,.int .i64 0,.bool false,.int .i64 0]) (t:=63) ?hr ?_;(case hd=>rfl);(case hg=>rfl);(case hr=>first|(go_simp;done)|(go_simp;rfl))
             intro gb585 hg w38 hbox hb
             have HS0_:=(hb.cell (World.block_lt_of_cell? _ _ (hHeld.1))).trans (hHeld.1)
             have HS1_:=(hb.cell (World.block_lt_of_cell? _ _ (hHeld.2.1))).trans (hHeld.2.1)
             have HS2_:=(hb.cell (World.block_lt_of_cell? _ _ (hHeld.2.2.1))).trans (hHeld.2.2.1)
             have HS3_:=(hb.cell (World.block_lt_of_cell? _ _ (hHeld.2.2.2.1))).trans (hHeld.2.2.2.1)
             have HS4_:=(hb.cell (World.block_lt_of_cell? _ _ (hHeld.2.2.2.2))).trans (hHeld.2.2.2.2)
             have n0_:=Aside0.mk (Kd.R_below (by (with_reducible repeat (first|apply Kd.R_alloc|apply Kd.R_drewN|apply Kd.R_drew));exact HO_4.out) hb)
             have n1_:=Aside0.mk (Kd.R_below (by (with_reducible repeat (first|apply Kd.R_alloc|apply Kd.R_drewN|apply Kd.R_drew));exact HO570.out) hb)
             have n2_:=Aside0.mk (Kd.R_below (by (with_reducible repeat (first|apply Kd.R_alloc|apply Kd.R_drewN|apply Kd.R_drew));exact HO578.out) hb)
             have n3_:=Aside0.mk (blk_below (g:=gb563) (o:=.cells #[.int .i64 0,.int .i64 0,.int .i64 0,.bool false,.int .i64 0] 63 (0,0)) (by (with_reducible repeat (first|refine blk_drewN ?_ _|refine blk_drew ?_|refine blk_alloc ?_ _));exact BK563.out) hb)
             have n4_:=Aside0.mk (Kd.C_below (by repeat (first|(with_reducible exact HR574.out)|(with_reducible refine Kd.C_alloc ?_ _)|(with_reducible refine Kd.C_drewN ?_ _)|(with_reducible refine Kd.C_drew ?_)|exact HR574.out)) hb)
             have n5_:=Aside0.mk (below_step (by repeat (first|(with_reducible first|exact HB.out|apply below_alloc|apply pw_below_drewN|apply below_drew1|refine below_set ?_ GE563.out)|exact HB.out)) hb)
             have n6_:=Aside0.mk (hbox)
             have n7_:=Aside0.mk ((by rw [hg];exact (below_size (by repeat (first|(with_reducible first|exact HB.out|apply below_alloc|apply pw_below_drewN|apply below_drew1|refine below_set ?_ GE563.out)|exact HB.out))):w.heap.size≤gb585))
             have n8_:=Aside0.mk ((by rw [hg];exact (below_size (by repeat (first|(with_reducible first|exact HB.out|apply below_alloc|apply pw_below_drewN|apply below_drew1|refine below_set ?_ GE563.out)|exact HB.out))):w.heap.size≤gb585))
             have n9_:=Aside0.mk ((by rw [hg];exact Nat.ne_of_lt (blk_lt (g:=gb563) (o:=.cells #[.int .i64 0,.int .i64 0,.int .i64 0,.bool false,.int .i64 0] 63 (0,0)) (by (with_reducible repeat (first|refine blk_drewN ?_ _|refine blk_drew ?_|refine blk_alloc ?_ _));exact BK563.out)):gb563≠gb585))
             have n10_:=Aside0.mk ((by rw [hg];exact Nat.ne_of_gt (blk_lt (g:=gb563) (o:=.cells #[.int .i64 0,.int .i64 0,.int .i64 0,.bool false,.int .i64 0] 63 (0,0)) (by (with_reducible repeat (first|refine blk_drewN ?_ _|refine blk_drew ?_|refine blk_alloc ?_ _));exact BK563.out)):gb585≠gb563))
             clear HO_4 HO570 HO578 BK563 HR574 HB
             have HO_4:=n0_
             have HO570:=n1_
             have HO578:=n2_
             have BK563:=n3_
             have HR574:=n4_
             have HB:=n5_
             have BK585:=n6_
             have GW585:=n7_
             have GE585:=n8_
             have NB563_585:=n9_
             have NB585_563:=n10_
             clear n0_ n1_ n2_ n3_ n4_ n5_ n6_ n7_ n8_ n9_ n10_ hb hbox hg
             refine hK.out _ _ ⟨HS0_,HS1_,HS2_,HS3_,HS4_⟩ (fun hHeld=>?_)
             clear hK K
             refine norm_ (a':=?_) ?_ ?_
             rotate_left
             ·show Act.put _ (some 8) _=_
              simp only [Act.put,List.setIfInBounds_toArray,List.set_cons_zero,List.set_cons_succ,i64_w,i32_w]
              rfl
             refine one_ (i:=23) (N:=none) #[true,true,true,true,true,true,true,true,true,true,true,true,true,true,true,true,true,true,true,true,true,true,true,true] rfl rfl (one_of HT_.out (by kernel_rfl)) (by decide) (fun K hK=>?_)
             have hs39:w38.cell? ⟨gb585,0,none⟩=some (.int .i64 0):=(blk_cell BK585.out 0).trans rfl
             have hfs39:=blk_frozen BK585.out 0
             have hns39_0:=NB563_585.out
             have hms39_0:=NB585_563.out
             have hs40:w38.cell? ⟨gb585,1,none⟩=some (.int .i64 0):=(blk_cell BK585.out 1).trans rfl
             have hfs40:=blk_frozen BK585.out 1
             have hns40_0:=NB563_585.out
             have hms40_0:=NB585_563.out
             have hs41:w38.cell? ⟨gb585,2,none⟩=some (.int .i64 0):=(blk_cell BK585.out 2).trans rfl
             have hfs41:=blk_frozen BK585.out 2
             have hns41_0:=NB563_585.out
             have hms41_0:=NB585_563.out
             have hs42:w38.cell? ⟨gb585,3,none⟩=some (.bool false):=(blk_cell BK585.out 3).trans rfl
             have hfs42:=blk_frozen BK585.out 3
             have hns42_0:=NB563_585.out
             have hms42_0:=NB585_563.out
             have hs43:w38.cell? ⟨gb585,4,none⟩=some (.int .i64 0):=(blk_cell BK585.out 4).trans rfl
             have hfs43:=blk_frozen BK585.out 4
             have hns43_0:=NB563_585.out
             have hms43_0:=NB585_563.out
             refine skip_ (w1:=?_) (by rfl) rfl ?_ ?_
             rotate_left
             ·go_simp
              rfl
             have NEF0_:=Kd.own_blk (Kd.R_ne HO578.out BK585.out (by decide))
             refine hK.out _ _ ⟨?_,?_,?_,?_,?_⟩ ?_
             ·exact ((Go.Proofs.Ytbdnmdmfnopihaa.Sem.far5 (g:=gb585) (by first|exact NEF0_|(rw [add_block];exact NEF0_))).trans (hHeld.1))
             ·exact ((Go.Proofs.Ytbdnmdmfnopihaa.Sem.far5 (g:=gb585) (by first|exact NEF0_|(rw [add_block];exact NEF0_))).trans (hHeld.2.1))
             ·exact ((Go.Proofs.Ytbdnmdmfnopihaa.Sem.far5 (g:=gb585) (by first|exact NEF0_|(rw [add_block];exact NEF0_))).trans (hHeld.2.2.1))
             ·exact ((Go.Proofs.Ytbdnmdmfnopihaa.Sem.far5 (g:=gb585) (by first|exact NEF0_|(rw [add_block];exact NEF0_))).trans (hHeld.2.2.2.1))
             ·exact ((Go.Proofs.Ytbdnmdmfnopihaa.Sem.far5 (g:=gb585) (by first|exact NEF0_|(rw [add_block];exact NEF0_))).trans (hHeld.2.2.2.2))
             intro hHeld
             clear hK K
             refine done_ (done_of HT_.out (by kernel_rfl)) ?_
             have hnb44:=NB585_563.out
             have hnc44:=NB563_585.out
             have hcz45_0:w38.cell? ⟨gb585,0,none⟩=some (.int .i64 0):=(blk_cell BK585.out 0).trans rfl
             have hcz45_1:w38.cell? ⟨gb585,1,none⟩=some (.int .i64 0):=(blk_cell BK585.out 1).trans rfl
             have hcz45_2:w38.cell? ⟨gb585,2,none⟩=some (.int .i64 0):=(blk_cell BK585.out 2).trans rfl
             have hcz45_3:w38.cell? ⟨gb585,3,none⟩=some (.bool false):=(blk_cell BK585.out 3).trans rfl
             have hcz45_4:w38.cell? ⟨gb585,4,none⟩=some (.int .i64 0):=(blk_cell BK585.out 4).trans rfl
             have hfz45_0:=blk_frozen BK585.out 0
             have hfz45_1:=blk_frozen BK585.out 1
             have hfz45_2:=blk_frozen BK585.out 2
             have hfz45_3:=blk_frozen BK585.out 3
             have hfz45_4:=blk_frozen BK585.out 4
             try go_wp2_with (first|((with_reducible refine gate_callee (f:=41) rfl ?_);refine goesL_ (some 59) rfl rfl Try.func41 (by kernel_rfl) rfl #[.agg #[.int .i64 (wrap64 (rd t575 1)),.int .i64 (wrap64 (rd t575 2)),.int .i64 (wrap64 (rd t575 4)),.bool ((rd t575 3) == 1),.int .i64 (wrap64 (rd t575 5))]] rfl (by (try simp only [List.map_toArray,List.map_cons,List.map_nil]);first|done|rfl|(simp only [List.length_drop,List.length_take];rfl)) ?_;(with_reducible refine (slipwayref11_EncodeSuper.calls kj2 (wrap64 (rd t575 1)) (wrap64 (rd t575 2)) (wrap64 (rd t575 4)) ((rd t575 3) == 1) (wrap64 (rd t575 5)) t586 t589 _ A27.out).mono ?_);rintro e w46 ⟨v587,rfl,ho0,hb⟩;refine ⟨_,rfl,?_⟩;have n0_:=Aside0.mk (Kd.R_elder' (by (with_reducible repeat (first|apply Kd.R_alloc|apply Kd.R_drewN|apply Kd.R_drew));exact (Kd.R_mono (Kd.R_far (p:=⟨gb585,4,none⟩) (Kd.R_far (p:=⟨gb585,3,none⟩) (Kd.R_far (p:=⟨gb585,2,none⟩) (Kd.R_far (p:=⟨gb585,1,none⟩) (Kd.R_far (p:=⟨gb585,0,none⟩) (Kd.R_types HO_4.out BK585.out (by decide)) (fun _ hk=>hk.2) (.int .i64 (wrap64 (rd t575 1)))) (fun _ hk=>hk.2) (.int .i64 (wrap64 (rd t575 2)))) (fun _ hk=>hk.2) (.int .i64 (wrap64 (rd t575 4)))) (fun _ hk=>hk.2) (.bool ((rd t575 3) == 1))) (fun _ hk=>hk.2) (.int .i64 (wrap64 (rd t575 5)))) (fun _ h_=>h_.1))) (Kd.R_base ho0) hb);have n1_:=Aside0.mk (Kd.R_below (by (with_reducible repeat (first|apply Kd.R_alloc|apply Kd.R_drewN|apply Kd.R_drew));exact (Kd.R_mono (Kd.R_far (p:=⟨gb585,4,none⟩) (Kd.R_far (p:=⟨gb585,3,none⟩) (Kd.R_far (p:=⟨gb585,2,none⟩) (Kd.R_far (p:=⟨gb585,1,none⟩) (Kd.R_far (p:=⟨gb585,0,none⟩) (Kd.R_types HO570.out BK585.out (by decide)) (fun _ hk=>hk.2) (.int .i64 (wrap64 (rd t575 1)))) (fun _ hk=>hk.2) (.int .i64 (wrap64 (rd t575 2)))) (fun _ hk=>hk.2) (.int .i64 (wrap64 (rd t575 4)))) (fun _ hk=>hk.2) (.bool ((rd t575 3) == 1))) (fun _ hk=>hk.2) (.int .i64 (wrap64 (rd t575 5)))) (fun _ h_=>h_.1))) hb);have n2_:=Aside0.mk (Kd.R_below (by (with_reducible repeat (first|apply Kd.R_alloc|apply Kd.R_drewN|apply Kd.R_drew));exact (Kd.R_mono (Kd.R_far (p:=⟨gb585,4,none⟩) (Kd.R_far (p:=⟨gb585,3,none⟩) (Kd.R_far (p:=⟨gb585,2,none⟩) (Kd.R_far (p:=⟨gb585,1,none⟩) (Kd.R_far (p:=⟨gb585,0,none⟩) (Kd.R_types HO578.out BK585.out (by decide)) (fun _ hk=>hk.2) (.int .i64 (wrap64 (rd t575 1)))) (fun _ hk=>hk.2) (.int .i64 (wrap64 (rd t575 2)))) (fun _ hk=>hk.2) (.int .i64 (wrap64 (rd t575 4)))) (fun _ hk=>hk.2) (.bool ((rd t575 3) == 1))) (fun _ hk=>hk.2) (.int .i64 (wrap64 (rd t575 5)))) (fun _ h_=>h_.1))) hb);have n3_:=Aside0.mk (Kd.R_lower (Kd.R_new' ho0 (Kd.R_lt (by (with_reducible repeat (first|apply Kd.R_alloc|apply Kd.R_drewN|apply Kd.R_drew));exact (Kd.R_mono (Kd.R_far (p:=⟨gb585,4,none⟩) (Kd.R_far (p:=⟨gb585,3,none⟩) (Kd.R_far (p:=⟨gb585,2,none⟩) (Kd.R_far (p:=⟨gb585,1,none⟩) (Kd.R_far (p:=⟨gb585,0,none⟩) (Kd.R_types HO_4.out BK585.out (by decide)) (fun _ hk=>hk.2) (.int .i64 (wrap64 (rd t575 1)))) (fun _ hk=>hk.2) (.int .i64 (wrap64 (rd t575 2)))) (fun _ hk=>hk.2) (.int .i64 (wrap64 (rd t575 4)))) (fun _ hk=>hk.2) (.bool ((rd t575 3) == 1))) (fun _ hk=>hk.2) (.int .i64 (wrap64 (rd t575 5)))) (fun _ h_=>h_.1))))) (below_size (by repeat (first|(with_reducible first|exact HB.out|apply below_alloc|apply pw_below_drewN|apply below_drew1|refine below_set ?_ GE563.out|refine below_set ?_ GE585.out)|exact HB.out))));have n4_:=Aside0.mk (blk_below (g:=gb563) (o:=.cells #[.int .i64 0,.int .i64 0,.int .i64 0,.bool false,.int .i64 0] 63 (0,0)) (by (with_reducible repeat (first|refine blk_drewN ?_ _|refine blk_drew ?_|refine blk_alloc ?_ _));refine blk_far ?_ NB563_585.out _;(with_reducible repeat (first|refine blk_drewN ?_ _|refine blk_drew ?_|refine blk_alloc ?_ _));refine blk_far ?_ NB563_585.out _;(with_reducible repeat (first|refine blk_drewN ?_ _|refine blk_drew ?_|refine blk_alloc ?_ _));refine blk_far ?_ NB563_585.out _;(with_reducible repeat (first|refine blk_drewN ?_ _|refine blk_drew ?_|refine blk_alloc ?_ _));refine blk_far ?_ NB563_585.out _;(with_reducible repeat (first|refine blk_drewN ?_ _|refine blk_drew ?_|refine blk_alloc ?_ _));refine blk_far ?_ NB563_585.out _;(with_reducible repeat (first|refine blk_drewN ?_ _|refine blk_drew ?_|refine blk_alloc ?_ _));exact BK563.out) hb);have n5_:=Aside0.mk (blk_below (g:=gb585) (o:=.cells #[.int .i64 (wrap64 (rd t575 1)),.int .i64 (wrap64 (rd t575 2)),.int .i64 (wrap64 (rd t575 4)),.bool ((rd t575 3) == 1),.int .i64 (wrap64 (rd t575 5))] 63 (0,0)) (by (with_reducible repeat (first|refine blk_drewN ?_ _|refine blk_drew ?_|refine blk_alloc ?_ _));refine blk_put (cs:=#[.int .i64 (wrap64 (rd t575 1)),.int .i64 (wrap64 (rd t575 2)),.int .i64 (wrap64 (rd t575 4)),.bool ((rd t575 3) == 1),.int .i64 0]) ?_ 4 _ rfl;(with_reducible repeat (first|refine blk_drewN ?_ _|refine blk_drew ?_|refine blk_alloc ?_ _));refine blk_put (cs:=#[.int .i64 (wrap64 (rd t575 1)),.int .i64 (wrap64 (rd t575 2)),.int .i64 (wrap64 (rd t575 4)),.bool false,.int .i64 0]) ?_ 3 _ rfl;(with_reducible repeat (first|refine blk_drewN ?_ _|refine blk_drew ?_|refine blk_alloc ?_ _));refine blk_put (cs:=#[.int .i64 (wrap64 (rd t575 1)),.int .i64 (wrap64 (rd t575 2)),.int .i64 0,.bool false,.int .i64 0]) ?_ 2 _ rfl;(with_reducible repeat (first|refine blk_drewN ?_ _|refine blk_drew ?_|refine blk_alloc ?_ _));refine blk_put (cs:=#[.int .i64 (wrap64 (rd t575 1)),.int .i64 0,.int .i64 0,.bool false,.int .i64 0]) ?_ 1 _ rfl;(with_reducible repeat (first|refine blk_drewN ?_ _|refine blk_drew ?_|refine blk_alloc ?_ _));refine blk_put (cs:=#[.int .i64 0,.int .i64 0,.int .i64 0,.bool false,.int .i64 0]) ?_ 0 _ rfl;(with_reducible repeat (first|refine blk_drewN ?_ _|refine blk_drew ?_|refine blk_alloc ?_ _));exact BK585.out) hb);have n6_:=Aside0.mk (below_step (by repeat (first|(with_reducible first|exact HB.out|apply below_alloc|apply pw_below_drewN|apply below_drew1|refine below_set ?_ GE563.out|refine below_set ?_ GE585.out)|exact HB.out)) hb);have n7_:=Aside0.mk ((show Kd.C (Kd.int .u8) w46 Ao32 y571.length y571 from by rw [Ny571.out];exact Kd.C_take (m:=23) ((Kd.R_reads' n0_.out).2.2) KL31.out));clear HO_4 HO570 HO578 BK563 BK585 HB HR574;have HO_4:=n0_;have HO570:=n1_;have HO578:=n2_;have HO588:=n3_;have BK563:=n4_;have BK585:=n5_;have HB:=n6_;have HR574:=n7_;clear n0_ n1_ n2_ n3_ n4_ n5_ n6_ n7_;(try clear hb);(try clear hb2);(try clear hk);(try clear hi);(try clear ho0);have hcv47:=own_string (P:=Try.prog) Try.underlying48 Try.underlying5 Try.underlying9 (Kd.own_of_R HO588.out);have hcv48:=Kd.C_string (P:=Try.prog) (A:=A0) (c:=c0) Try.underlying48 Try.underlying5 Try.underlying9 (Kd.C_below HR0.out HB.out);have hcz49_0:w46.cell? ⟨gb585,0,none⟩=some (.int .i64 (wrap64 (rd t575 1))):=(blk_cell BK585.out 0).trans rfl;have hcz49_1:w46.cell? ⟨gb585,1,none⟩=some (.int .i64 (wrap64 (rd t575 2))):=(blk_cell BK585.out 1).trans rfl;have hcz49_2:w46.cell? ⟨gb585,2,none⟩=some (.int .i64 (wrap64 (rd t575 4))):=(blk_cell BK585.out 2).trans rfl;have hcz49_3:w46.cell? ⟨gb585,3,none⟩=some (.bool ((rd t575 3) == 1)):=(blk_cell BK585.out 3).trans rfl;have hcz49_4:w46.cell? ⟨gb585,4,none⟩=some (.int .i64 (wrap64 (rd t575 5))):=(blk_cell BK585.out 4).trans rfl;have hfz49_0:=blk_frozen BK585.out 0;have hfz49_1:=blk_frozen BK585.out 1;have hfz49_2:=blk_frozen BK585.out 2;have hfz49_3:=blk_frozen BK585.out 3;have hfz49_4:=blk_frozen BK585.out 4;have hcz50_0:w46.cell? ⟨gb563,0,none⟩=some (.int .i64 0):=(blk_cell BK563.out 0).trans rfl;have hcz50_1:w46.cell? ⟨gb563,1,none⟩=some (.int .i64 0):=(blk_cell BK563.out 1).trans rfl;have hcz50_2:w46.cell? ⟨gb563,2,none⟩=some (.int .i64 0):=(blk_cell BK563.out 2).trans rfl;have hcz50_3:w46.cell? ⟨gb563,3,none⟩=some (.bool false):=(blk_cell BK563.out 3).trans rfl;have hcz50_4:w46.cell? ⟨gb563,4,none⟩=some (.int .i64 0):=(blk_cell BK563.out 4).trans rfl;have hfz50_0:=blk_frozen BK563.out 0;have hfz50_1:=blk_frozen BK563.out 1;have hfz50_2:=blk_frozen BK563.out 2;have hfz50_3:=blk_frozen BK563.out 3;have hfz50_4:=blk_frozen BK563.out 4))
             refine bodyPost_ret (results_ct rfl _ _ gb563 63 #[.int .i64 (wrap64 (rd t575 1)),.int .i64 (wrap64 (rd t575 2)),.int .i64 (wrap64 (rd t575 4)),.bool ((rd t575 3) == 1),.int .i64 (wrap64 (rd t575 5))] (0,0) _ rfl (by (with_reducible repeat (first|refine blk_drewN ?_ _|refine blk_drew ?_|refine blk_alloc ?_ _));refine blk_put (cs:=#[.int .i64 (wrap64 (rd t575 1)),.int .i64 (wrap64 (rd t575 2)),.int .i64 (wrap64 (rd t575 4)),.bool ((rd t575 3) == 1),.int .i64 0]) ?_ 4 _ rfl;(with_reducible repeat (first|refine blk_drewN ?_ _|refine blk_drew ?_|refine blk_alloc ?_ _));refine blk_put (cs:=#[.int .i64 (wrap64 (rd t575 1)),.int .i64 (wrap64 (rd t575 2)),.int .i64 (wrap64 (rd t575 4)),.bool false,.int .i64 0]) ?_ 3 _ rfl;(with_reducible repeat (first|refine blk_drewN ?_ _|refine blk_drew ?_|refine blk_alloc ?_ _));refine blk_put (cs:=#[.int .i64 (wrap64 (rd t575 1)),.int .i64 (wrap64 (rd t575 2)),.int .i64 0,.bool false,.int .i64 0]) ?_ 2 _ rfl;(with_reducible repeat (first|refine blk_drewN ?_ _|refine blk_drew ?_|refine blk_alloc ?_ _));refine blk_put (cs:=#[.int .i64 (wrap64 (rd t575 1)),.int .i64 0,.int .i64 0,.bool false,.int .i64 0]) ?_ 1 _ rfl;(with_reducible repeat (first|refine blk_drewN ?_ _|refine blk_drew ?_|refine blk_alloc ?_ _));refine blk_put (cs:=#[.int .i64 0,.int .i64 0,.int .i64 0,.bool false,.int .i64 0]) ?_ 0 _ rfl;(with_reducible repeat (first|refine blk_drewN ?_ _|refine blk_drew ?_|refine blk_alloc ?_ _));exact BK563.out) Try.underlying63 rfl (by kernel_rfl)) rfl ?_
             exact ⟨by first|rfl|(simp [errW_none,errW_some] <;> rfl)|(simp [*,errW_none,errW_some] <;> rfl),by repeat (first|(with_reducible first|exact HB.out|apply below_alloc|apply pw_below_drewN|apply below_drew1|refine below_set ?_ GE563.out|refine below_set ?_ GE585.out)|exact HB.out)⟩
            ·rw [if_neg c29] at H
             have c29b0:((strOfNums t586).toList == (strOfNums l0).toList)=false:=beq_eq_false_iff_ne.mpr c29
             have c29b1:((strOfNums t586).toList != (strOfNums l0).toList)=true:=bne_iff_ne.mpr c29
             simp only [Option.some.injEq,Prod.mk.injEq] at H
             obtain ⟨rfl,rfl,rfl,rfl,rfl,rfl⟩:=H
             try go_wp2
             have n0_:=Aside0.mk (Kd.R_drew HO_4.out)
             have n1_:=Aside0.mk (blk_drew BK563.out)
             have n2_:=Aside0.mk (below_drew1 HB.out)
             clear HO_4 BK563 HB
             have HO_4:=n0_
             have BK563:=n1_
             have HB:=n2_
             clear n0_ n1_ n2_
             obtain ⟨Ao53,co53,eo53⟩:=Kd.R_slice HO_4.out
             (first|subst eo53|(injection eo53 with f1_ f2_ f3_;have f4_:=f1_.symm;have f5_:=f3_.symm;clear f1_ f2_ f3_;subst f4_;subst f5_))
             have q52:(23:Int)≤((t564.length:Int):Int):=of_decide_eq_true (by first|(with_reducible assumption)|assumption)
             obtain ⟨i052,hi052,_,hsz52,_⟩:=info_parts info5
             have hroom52:t564.length≤co53:=(Kd.R_reads' HO_4.out).2.1
             have hC52:Kd.C (Kd.int .u8) _ Ao53 t564.length t564:=(Kd.R_reads' HO_4.out).2.2
             have hcut52:=cut_to (P:=Try.prog) 48 5 .i64 Try.underlying48 hi052 Ao53 t564.length co53 23 (by omega) q52 hroom52
             have hr52:=Kd.C_take (m:=23) hC52 (by omega)
             have hy52:y571.length=(23:Int).toNat:=(by rw [Ny571.out,List.length_take];omega)
             rw [← Ny571.out] at hr52
             rw [← hy52] at hcut52
             have HR574:=Aside0.mk hr52
             have HC574:=Aside0.mk (show y571.length≤co53 from by omega)
             clear hr52 hC52 hroom52 hi052 hsz52
             have KY52:=Aside0.mk hy52
             clear hy52
             have KL52:=Aside0.mk (show 23≤t564.length from by omega)
             replace q52:=eq_true q52
             refine start_ (n:=9) (S:=fun w'=>True) (ds:=[]) #[false,false,false,false,false,false,false,false,false] (by kernel_rfl) rfl rfl trivial (fun hHeld=>?_);refine with_tabW slipwayref11_DecodeSuper.tab4 slipwayref11_DecodeSuper.bits4 (fun HT_ HW_=>?_)
             generalize wc.drew=w51 at HO_4 BK563 HB HR574 hHeld ⊢
             refine pure_ (i:=1) (N:=some 25) (v:=?_) (a':=?_) #[false,true,false,false,false,false,false,false,false] rfl rfl (any_of HT_.out (by kernel_rfl)) (fun _ _ _ h=>h) (Or.inl ⟨by rfl,?_⟩) ?_ ?_
             rotate_left
             ·intro w'
              go_simp
              with_reducible rfl
             rotate_left
             ·simp only [Act.put,List.setIfInBounds_toArray,List.set_cons_zero,List.set_cons_succ,i64_w,i32_w]
              rfl
             refine pure_ (i:=2) (N:=some 26) (v:=?_) (a':=?_) #[false,true,true,false,false,false,false,false,false] rfl rfl (any_of HT_.out (by kernel_rfl)) (fun _ _ _ h=>h) (Or.inl ⟨by rfl,?_⟩) ?_ ?_
             rotate_left
             ·intro w'
              go_simp
              with_reducible rfl
             rotate_left
             ·simp only [Act.put,List.setIfInBounds_toArray,List.set_cons_zero,List.set_cons_succ,i64_w,i32_w]
              rfl
             refine one_ (i:=0) (N:=some 24) #[true,true,true,false,false,false,false,false,false] rfl rfl (one_of HT_.out (by kernel_rfl)) (by decide) (fun K hK=>?_)
             refine goes_ Try.func56 (by kernel_rfl) rfl #[] (by rfl) rfl rfl (by (try simp only [List.map_toArray,List.map_cons,List.map_nil]);first|done|rfl|(simp only [List.length_drop,List.length_take];rfl)) ?_
             with_reducible refine (slipwayref11_superWidths.calls  t568 _ A10.out).mono ?_
             rintro e w54 ⟨v569,rfl,ho0,hb⟩
             refine ⟨_,rfl,?_⟩
             have n0_:=Aside0.mk (Kd.R_below (by (with_reducible repeat (first|apply Kd.R_alloc|apply Kd.R_drewN|apply Kd.R_drew));exact HO_4.out) hb)
             have n1_:=Aside0.mk (Kd.R_lower ho0 (below_size (by repeat (first|(with_reducible first|exact HB.out|apply below_alloc|apply pw_below_drewN|apply below_drew1|refine below_set ?_ GE563.out)|exact HB.out))))
             have n2_:=Aside0.mk (blk_below (g:=gb563) (o:=.cells #[.int .i64 0,.int .i64 0,.int .i64 0,.bool false,.int .i64 0] 63 (0,0)) (by (with_reducible repeat (first|refine blk_drewN ?_ _|refine blk_drew ?_|refine blk_alloc ?_ _));exact BK563.out) hb)
             have n3_:=Aside0.mk (Kd.C_below (by repeat (first|(with_reducible exact HR574.out)|(with_reducible refine Kd.C_alloc ?_ _)|(with_reducible refine Kd.C_drewN ?_ _)|(with_reducible refine Kd.C_drew ?_)|exact HR574.out)) hb)
             have n4_:=Aside0.mk (below_step (by repeat (first|(with_reducible first|exact HB.out|apply below_alloc|apply pw_below_drewN|apply below_drew1|refine below_set ?_ GE563.out)|exact HB.out)) hb)
             clear HO_4 BK563 HR574 HB
             have HO_4:=n0_
             have HO570:=n1_
             have BK563:=n2_
             have HR574:=n3_
             have HB:=n4_
             clear n0_ n1_ n2_ n3_ n4_
             (try clear hb)
             (try clear hb2)
             (try clear hk)
             (try clear hi)
             (try clear ho0)
             obtain ⟨Ao55,co55,eo55⟩:=Kd.R_slice HO570.out
             (first|subst eo55|(injection eo55 with f1_ f2_ f3_;have f4_:=f1_.symm;have f5_:=f3_.symm;clear f1_ f2_ f3_;subst f4_;subst f5_))
             refine hK.out _ _ trivial (fun hHeld=>?_)
             clear hK K
             refine norm_ (a':=?_) ?_ ?_
             rotate_left
             ·show Act.put _ (some 24) _=_
              simp only [Act.put,List.setIfInBounds_toArray,List.set_cons_zero,List.set_cons_succ,i64_w,i32_w]
              rfl
             refine one_ (i:=3) (N:=some 27) #[true,true,true,true,false,false,false,false,false] rfl rfl (one_of HT_.out (by kernel_rfl)) (by decide) (fun K hK=>?_)
             refine goes_ Try.func52 (by kernel_rfl) rfl #[.slice Ao55 t568.length co55,.slice Ao53 y571.length co53] (by rfl) rfl rfl (by (try simp only [List.map_toArray,List.map_cons,List.map_nil]);first|done|rfl|(simp only [List.length_drop,List.length_take];rfl)) ?_
             with_reducible refine (slipwayref01_Unpack.calls kj2 _ _ t568 _ _ y571 t575 t576 _ ?side1 ?side2 ?side3 ?side4 A12.out).mono ?_
             (case side1=>repeat (first|exact (Kd.R_reads' HO570.out).2.2|(with_reducible refine Kd.C_alloc ?_ _)|(with_reducible refine Kd.C_drewN ?_ _)|(with_reducible refine Kd.C_drew ?_)))
             (case side2=>exact (Kd.R_reads' HO570.out).2.1)
             (case side3=>repeat (first|exact (by repeat (first|(with_reducible exact HR574.out)|(with_reducible refine Kd.C_alloc ?_ _)|(with_reducible refine Kd.C_drewN ?_ _)|(with_reducible refine Kd.C_drew ?_)|exact HR574.out))|(with_reducible refine Kd.C_alloc ?_ _)|(with_reducible refine Kd.C_drewN ?_ _)|(with_reducible refine Kd.C_drew ?_)))
             (case side4=>exact HC574.out)
             rintro e w56 ⟨v577,rfl,ho0,hb⟩
             refine ⟨_,rfl,?_⟩
             have n0_:=Aside0.mk (Kd.R_below (by (with_reducible repeat (first|apply Kd.R_alloc|apply Kd.R_drewN|apply Kd.R_drew));exact HO_4.out) hb)
             have n1_:=Aside0.mk (Kd.R_below (by (with_reducible repeat (first|apply Kd.R_alloc|apply Kd.R_drewN|apply Kd.R_drew));exact HO570.out) hb)
             have n2_:=Aside0.mk (Kd.R_lower ho0 (below_size (by repeat (first|(with_reducible first|exact HB.out|apply below_alloc|apply pw_below_drewN|apply below_drew1|refine below_set ?_ GE563.out)|exact HB.out))))
             have n3_:=Aside0.mk (blk_below (g:=gb563) (o:=.cells #[.int .i64 0,.int .i64 0,.int .i64 0,.bool false,.int .i64 0] 63 (0,0)) (by (with_reducible repeat (first|refine blk_drewN ?_ _|refine blk_drew ?_|refine blk_alloc ?_ _));exact BK563.out) hb)
             have n4_:=Aside0.mk (Kd.C_below (by repeat (first|(with_reducible exact HR574.out)|(with_reducible refine Kd.C_alloc ?_ _)|(with_reducible refine Kd.C_drewN ?_ _)|(with_reducible refine Kd.C_drew ?_)|exact HR574.out)) hb)
             have n5_:=Aside0.mk (below_step (by repeat (first|(with_reducible first|exact HB.out|apply below_alloc|apply pw_below_drewN|apply below_drew1|refine below_set ?_ GE563.out)|exact HB.out)) hb)
             clear HO_4 HO570 BK563 HR574 HB
             have HO_4:=n0_
             have HO570:=n1_
             have HO578:=n2_
             have BK563:=n3_
             have HR574:=n4_
             have HB:=n5_
             clear n0_ n1_ n2_ n3_ n4_ n5_
             (try clear hb)
             (try clear hb2)
             (try clear hk)
             (try clear hi)
             (try clear ho0)
             refine hK.out _ _ trivial (fun hHeld=>?_)
             clear hK K
             refine norm_ (a':=?_) ?_ ?_
             rotate_left
             ·show Act.put _ (some 27) _=_
              simp only [Act.put,List.setIfInBounds_toArray,List.set_cons_zero,List.set_cons_succ,i64_w,i32_w]
              rfl
             refine pure_ (i:=4) (N:=some 23) (v:=?_) (a':=?_) #[true,true,true,true,true,false,false,false,false] rfl rfl (any_of HT_.out (by kernel_rfl)) (fun _ _ _ h=>h) (Or.inl ⟨by rfl,?_⟩) ?_ ?_
             rotate_left
             ·intro w'
              go_simp
              with_reducible rfl
             rotate_left
             ·simp only [Act.put,List.setIfInBounds_toArray,List.set_cons_zero,List.set_cons_succ,i64_w,i32_w]
              rfl
             refine pure_ (i:=5) (N:=some 28) (v:=?_) (a':=?_) #[true,true,true,true,true,true,false,false,false] rfl rfl (any_of HT_.out (by kernel_rfl)) (fun _ _ _ h=>h) (Or.inl ⟨by rfl,?_⟩) ?_ ?_
             rotate_left
             ·intro w'
              go_simp
              with_reducible rfl
             rotate_left
             ·simp only [Act.put,List.setIfInBounds_toArray,List.set_cons_zero,List.set_cons_succ,i64_w,i32_w]
              rfl
             refine pure_ (i:=6) (N:=some 29) (v:=?_) (a':=?_) #[true,true,true,true,true,true,true,false,false] rfl rfl (any_of HT_.out (by kernel_rfl)) (fun _ _ _ h=>h) (Or.inl ⟨by rfl,?_⟩) ?_ ?_
             rotate_left
             ·intro w'
              go_simp
              with_reducible rfl
             rotate_left
             ·simp only [Act.put,List.setIfInBounds_toArray,List.set_cons_zero,List.set_cons_succ,i64_w,i32_w]
              rfl
             refine pure_ (i:=7) (N:=some 6) (v:=?_) (a':=?_) #[true,true,true,true,true,true,true,true,false] rfl rfl (any_of HT_.out (by kernel_rfl)) (fun _ _ _ h=>h) (Or.inl ⟨by rfl,?_⟩) ?_ ?_
             rotate_left
             ·intro w'
              go_simp
              with_reducible rfl
             rotate_left
             ·simp only [Act.put,List.setIfInBounds_toArray,List.set_cons_zero,List.set_cons_succ,i64_w,i32_w]
              rfl
             refine pure_ (i:=8) (N:=some 7) (v:=?_) (a':=?_) #[true,true,true,true,true,true,true,true,true] rfl rfl (any_of HT_.out (by kernel_rfl)) (fun _ _ _ h=>h) (Or.inl ⟨by rfl,?_⟩) ?_ ?_
             rotate_left
             ·intro w'
              go_simp
              with_reducible rfl
             rotate_left
             ·simp only [Act.put,List.setIfInBounds_toArray,List.set_cons_zero,List.set_cons_succ,i64_w,i32_w]
              rfl
             refine done_ (done_of HT_.out (by kernel_rfl)) ?_
             obtain ⟨Ao57,co57,eo57⟩:=Kd.R_slice HO578.out
             subst eo57
             have p579:0≤(5:Int):=(by omega)
             have q579:5 < (t575.length:Int):=of_decide_eq_true (by first|(with_reducible assumption)|assumption)
             obtain ⟨ad579,e579,hx579_0⟩:=Kd.at_int (Kd.R_reads' HO578.out).2.2 5 p579 q579
             cases e579
             (try simp only [show (5:Int).toNat=5 from rfl,Nat.reduceMul,Nat.reduceEqDiff,Go.Addr.add,↓reduceIte] at hx579_0)
             have qi579:(5 < t575.length)=True:=eq_true (by omega)
             (try rw [show ((5:Int)).toNat=5 from rfl] at hx579_0)
             replace p579:=eq_true p579
             replace q579:=eq_true q579
             try go_wp2
             have n0_:=Aside0.mk (Kd.R_drew HO_4.out)
             have n1_:=Aside0.mk (Kd.R_drew HO570.out)
             have n2_:=Aside0.mk (Kd.R_drew HO578.out)
             have n3_:=Aside0.mk (blk_drew BK563.out)
             have n4_:=Aside0.mk (Kd.C_drew HR574.out)
             have n5_:=Aside0.mk (below_drew1 HB.out)
             clear HO_4 HO570 HO578 BK563 HR574 HB
             have HO_4:=n0_
             have HO570:=n1_
             have HO578:=n2_
             have BK563:=n3_
             have HR574:=n4_
             have HB:=n5_
             clear n0_ n1_ n2_ n3_ n4_ n5_
             have p580:0≤(1:Int):=(by omega)
             have q580:1 < (t575.length:Int):=of_decide_eq_true (by first|(with_reducible assumption)|assumption)
             obtain ⟨ad580,e580,hx580_0⟩:=Kd.at_int (Kd.R_reads' HO578.out).2.2 1 p580 q580
             obtain rfl:ad579=ad580:=(by injection e580)
             (try simp only [show (1:Int).toNat=1 from rfl,Nat.reduceMul,Nat.reduceEqDiff,Go.Addr.add,↓reduceIte] at hx580_0)
             have qi580:(1 < t575.length)=True:=eq_true (by omega)
             (try rw [show ((1:Int)).toNat=1 from rfl] at hx580_0)
             replace p580:=eq_true p580
             replace q580:=eq_true q580
             have p581:0≤(2:Int):=(by omega)
             have q581:2 < (t575.length:Int):=of_decide_eq_true (by first|(with_reducible assumption)|assumption)
             obtain ⟨ad581,e581,hx581_0⟩:=Kd.at_int (Kd.R_reads' HO578.out).2.2 2 p581 q581
             obtain rfl:ad579=ad581:=(by injection e581)
             (try simp only [show (2:Int).toNat=2 from rfl,Nat.reduceMul,Nat.reduceEqDiff,Go.Addr.add,↓reduceIte] at hx581_0)
             have qi581:(2 < t575.length)=True:=eq_true (by omega)
             (try rw [show ((2:Int)).toNat=2 from rfl] at hx581_0)
             replace p581:=eq_true p581
             replace q581:=eq_true q581
             have p582:0≤(3:Int):=(by omega)
             have q582:3 < (t575.length:Int):=of_decide_eq_true (by first|(with_reducible assumption)|assumption)
             obtain ⟨ad582,e582,hx582_0⟩:=Kd.at_int (Kd.R_reads' HO578.out).2.2 3 p582 q582
             obtain rfl:ad579=ad582:=(by injection e582)
             (try simp only [show (3:Int).toNat=3 from rfl,Nat.reduceMul,Nat.reduceEqDiff,Go.Addr.add,↓reduceIte] at hx582_0)
             have qi582:(3 < t575.length)=True:=eq_true (by omega)
             (try rw [show ((3:Int)).toNat=3 from rfl] at hx582_0)
             replace p582:=eq_true p582
             replace q582:=eq_true q582
             have p583:0≤(4:Int):=(by omega)
             have q583:4 < (t575.length:Int):=of_decide_eq_true (by first|(with_reducible assumption)|assumption)
             obtain ⟨ad583,e583,hx583_0⟩:=Kd.at_int (Kd.R_reads' HO578.out).2.2 4 p583 q583
             obtain rfl:ad579=ad583:=(by injection e583)
             (try simp only [show (4:Int).toNat=4 from rfl,Nat.reduceMul,Nat.reduceEqDiff,Go.Addr.add,↓reduceIte] at hx583_0)
             have qi583:(4 < t575.length)=True:=eq_true (by omega)
             (try rw [show ((4:Int)).toNat=4 from rfl] at hx583_0)
             replace p583:=eq_true p583
             replace q583:=eq_true q583
             have p584:0≤(5:Int):=(by omega)
             have q584:5 < (t575.length:Int):=of_decide_eq_true (by first|(with_reducible assumption)|assumption)
             obtain ⟨ad584,e584,hx584_0⟩:=Kd.at_int (Kd.R_reads' HO578.out).2.2 5 p584 q584
             obtain rfl:ad579=ad584:=(by injection e584)
             (try simp only [show (5:Int).toNat=5 from rfl,Nat.reduceMul,Nat.reduceEqDiff,Go.Addr.add,↓reduceIte] at hx584_0)
             have qi584:(5 < t575.length)=True:=eq_true (by omega)
             (try rw [show ((5:Int)).toNat=5 from rfl] at hx584_0)
             replace p584:=eq_true p584
             replace q584:=eq_true q584
             refine start_ (n:=24) (S:=fun w'=>w'.cell? ⟨ad579.block,ad579.off + 1,none⟩=some (.int .u64 (rd t575 1))∧w'.cell? ⟨ad579.block,ad579.off + 2,none⟩=some (.int .u64 (rd t575 2))∧w'.cell? ⟨ad579.block,ad579.off + 3,none⟩=some (.int .u64 (rd t575 3))∧w'.cell? ⟨ad579.block,ad579.off + 4,none⟩=some (.int .u64 (rd t575 4))∧w'.cell? ⟨ad579.block,ad579.off + 5,none⟩=some (.int .u64 (rd t575 5))) (ds:=[]) #[false,false,false,false,false,false,false,false,false,false,false,false,false,false,false,false,false,false,false,false,false,false,false,false] (by kernel_rfl) rfl rfl ⟨hx580_0,hx581_0,hx582_0,hx583_0,hx584_0⟩ (fun hHeld=>?_);refine with_tabW slipwayref11_DecodeSuper.tab7 slipwayref11_DecodeSuper.bits7 (fun HT_ HW_=>?_)
             generalize w56.drew=w58 at HO_4 HO570 HO578 BK563 HR574 HB hx580_0 hx581_0 hx582_0 hx583_0 hx584_0 hHeld ⊢
             refine pure_ (i:=0) (N:=some 35) (v:=?_) (a':=?_) #[true,false,false,false,false,false,false,false,false,false,false,false,false,false,false,false,false,false,false,false,false,false,false,false] rfl rfl (any_of HT_.out (by kernel_rfl)) (fun _ _ _ h=>h) (Or.inl ⟨by rfl,?_⟩) ?_ ?_
             rotate_left
             ·intro w'
              go_simp
              with_reducible rfl
             rotate_left
             ·simp only [Act.put,List.setIfInBounds_toArray,List.set_cons_zero,List.set_cons_succ,i64_w,i32_w]
              rfl
             refine pure_ (i:=1) (N:=some 36) (v:=?_) (a':=?_) #[true,true,false,false,false,false,false,false,false,false,false,false,false,false,false,false,false,false,false,false,false,false,false,false] rfl rfl (any_of HT_.out (by kernel_rfl)) (fun _ _ _ h=>h) (Or.inl ⟨by rfl,?_⟩) ?_ ?_
             rotate_left
             ·intro w'
              go_simp
              with_reducible rfl
             rotate_left
             ·simp only [Act.put,List.setIfInBounds_toArray,List.set_cons_zero,List.set_cons_succ,i64_w,i32_w]
              rfl
             refine pure_ (i:=4) (N:=some 39) (v:=?_) (a':=?_) #[true,true,false,false,true,false,false,false,false,false,false,false,false,false,false,false,false,false,false,false,false,false,false,false] rfl rfl (any_of HT_.out (by kernel_rfl)) (fun _ _ _ h=>h) (Or.inl ⟨by rfl,?_⟩) ?_ ?_
             rotate_left
             ·intro w'
              go_simp
              with_reducible rfl
             rotate_left
             ·simp only [Act.put,List.setIfInBounds_toArray,List.set_cons_zero,List.set_cons_succ,i64_w,i32_w]
              rfl
             refine pure_ (i:=5) (N:=some 40) (v:=?_) (a':=?_) #[true,true,false,false,true,true,false,false,false,false,false,false,false,false,false,false,false,false,false,false,false,false,false,false] rfl rfl (any_of HT_.out (by kernel_rfl)) (fun _ _ _ h=>h) (Or.inl ⟨by rfl,?_⟩) ?_ ?_
             rotate_left
             ·intro w'
              go_simp
              with_reducible rfl
             rotate_left
             ·simp only [Act.put,List.setIfInBounds_toArray,List.set_cons_zero,List.set_cons_succ,i64_w,i32_w]
              rfl
             refine pure_ (i:=9) (N:=some 44) (v:=?_) (a':=?_) #[true,true,false,false,true,true,false,false,false,true,false,false,false,false,false,false,false,false,false,false,false,false,false,false] rfl rfl (any_of HT_.out (by kernel_rfl)) (fun _ _ _ h=>h) (Or.inl ⟨by rfl,?_⟩) ?_ ?_
             rotate_left
             ·intro w'
              go_simp
              with_reducible rfl
             rotate_left
             ·simp only [Act.put,List.setIfInBounds_toArray,List.set_cons_zero,List.set_cons_succ,i64_w,i32_w]
              rfl
             refine pure_ (i:=10) (N:=some 45) (v:=?_) (a':=?_) #[true,true,false,false,true,true,false,false,false,true,true,false,false,false,false,false,false,false,false,false,false,false,false,false] rfl rfl (any_of HT_.out (by kernel_rfl)) (fun _ _ _ h=>h) (Or.inl ⟨by rfl,?_⟩) ?_ ?_
             rotate_left
             ·intro w'
              go_simp
              with_reducible rfl
             rotate_left
             ·simp only [Act.put,List.setIfInBounds_toArray,List.set_cons_zero,List.set_cons_succ,i64_w,i32_w]
              rfl
             refine pure_ (i:=13) (N:=some 48) (v:=?_) (a':=?_) #[true,true,false,false,true,true,false,false,false,true,true,false,false,true,false,false,false,false,false,false,false,false,false,false] rfl rfl (any_of HT_.out (by kernel_rfl)) (fun _ _ _ h=>h) (Or.inl ⟨by rfl,?_⟩) ?_ ?_
             rotate_left
             ·intro w'
              go_simp
              with_reducible rfl
             rotate_left
             ·simp only [Act.put,List.setIfInBounds_toArray,List.set_cons_zero,List.set_cons_succ,i64_w,i32_w]
              rfl
             refine pure_ (i:=14) (N:=some 49) (v:=?_) (a':=?_) #[true,true,false,false,true,true,false,false,false,true,true,false,false,true,true,false,false,false,false,false,false,false,false,false] rfl rfl (any_of HT_.out (by kernel_rfl)) (fun _ _ _ h=>h) (Or.inl ⟨by rfl,?_⟩) ?_ ?_
             rotate_left
             ·intro w'
              go_simp
              with_reducible rfl
             rotate_left
             ·simp only [Act.put,List.setIfInBounds_toArray,List.set_cons_zero,List.set_cons_succ,i64_w,i32_w]
              rfl
             refine pure_ (i:=17) (N:=some 52) (v:=?_) (a':=?_) #[true,true,false,false,true,true,false,false,false,true,true,false,false,true,true,false,false,true,false,false,false,false,false,false] rfl rfl (any_of HT_.out (by kernel_rfl)) (fun _ _ _ h=>h) (Or.inl ⟨by rfl,?_⟩) ?_ ?_
             rotate_left
             ·intro w'
              go_simp
              with_reducible rfl
             rotate_left
             ·simp only [Act.put,List.setIfInBounds_toArray,List.set_cons_zero,List.set_cons_succ,i64_w,i32_w]
              rfl
             refine pure_ (i:=18) (N:=some 53) (v:=?_) (a':=?_) #[true,true,false,false,true,true,false,false,false,true,true,false,false,true,true,false,false,true,true,false,false,false,false,false] rfl rfl (any_of HT_.out (by kernel_rfl)) (fun _ _ _ h=>h) (Or.inl ⟨by rfl,?_⟩) ?_ ?_
             rotate_left
             ·intro w'
              go_simp
              with_reducible rfl
             rotate_left
             ·simp only [Act.put,List.setIfInBounds_toArray,List.set_cons_zero,List.set_cons_succ,i64_w,i32_w]
              rfl
             refine take_ (i:=2) (N:=some 37) (v:=?_) (a':=?_) #[true,true,true,false,true,true,false,false,false,true,true,false,false,true,true,false,false,true,true,false,false,false,false,false] rfl rfl (take_ofW HT_.out HW_.out (by kernel_rfl)) (fun _ _ _ h=>h) (Or.inl ⟨by rfl,?_⟩) hHeld ?_ ?_
             rotate_left
             ·rintro w' ⟨s0,s1,s2,s3,s4⟩
              go_simp
              with_reducible rfl
             rotate_left
             ·simp only [Act.put,List.setIfInBounds_toArray,List.set_cons_zero,List.set_cons_succ,i64_w,i32_w]
              rfl
             refine pure_ (i:=3) (N:=some 38) (v:=?_) (a':=?_) #[true,true,true,true,true,true,false,false,false,true,true,false,false,true,true,false,false,true,true,false,false,false,false,false] rfl rfl (any_of HT_.out (by kernel_rfl)) (fun _ _ _ h=>h) (Or.inl ⟨by rfl,?_⟩) ?_ ?_
             rotate_left
             ·intro w'
              go_simp
              with_reducible rfl
             rotate_left
             ·simp only [Act.put,List.setIfInBounds_toArray,List.set_cons_zero,List.set_cons_succ,i64_w,i32_w]
              rfl
             refine take_ (i:=6) (N:=some 41) (v:=?_) (a':=?_) #[true,true,true,true,true,true,true,false,false,true,true,false,false,true,true,false,false,true,true,false,false,false,false,false] rfl rfl (take_ofW HT_.out HW_.out (by kernel_rfl)) (fun _ _ _ h=>h) (Or.inl ⟨by rfl,?_⟩) hHeld ?_ ?_
             rotate_left
             ·rintro w' ⟨s0,s1,s2,s3,s4⟩
              go_simp
              with_reducible rfl
             rotate_left
             ·simp only [Act.put,List.setIfInBounds_toArray,List.set_cons_zero,List.set_cons_succ,i64_w,i32_w]
              rfl
             refine pure_ (i:=7) (N:=some 42) (v:=?_) (a':=?_) #[true,true,true,true,true,true,true,true,false,true,true,false,false,true,true,false,false,true,true,false,false,false,false,false] rfl rfl (any_of HT_.out (by kernel_rfl)) (fun _ _ _ h=>h) (Or.inl ⟨by rfl,?_⟩) ?_ ?_
             rotate_left
             ·intro w'
              go_simp
              with_reducible rfl
             rotate_left
             ·simp only [Act.put,List.setIfInBounds_toArray,List.set_cons_zero,List.set_cons_succ,i64_w,i32_w]
              rfl
             refine pure_ (i:=8) (N:=some 43) (v:=?_) (a':=?_) #[true,true,true,true,true,true,true,true,true,true,true,false,false,true,true,false,false,true,true,false,false,false,false,false] rfl rfl (any_of HT_.out (by kernel_rfl)) (fun _ _ _ h=>h) (Or.inl ⟨by rfl,?_⟩) ?_ ?_
             rotate_left
             ·intro w'
              go_simp
              with_reducible rfl
             rotate_left
             ·simp only [Act.put,List.setIfInBounds_toArray,List.set_cons_zero,List.set_cons_succ,i64_w,i32_w]
              rfl
             refine take_ (i:=11) (N:=some 46) (v:=?_) (a':=?_) #[true,true,true,true,true,true,true,true,true,true,true,true,false,true,true,false,false,true,true,false,false,false,false,false] rfl rfl (take_ofW HT_.out HW_.out (by kernel_rfl)) (fun _ _ _ h=>h) (Or.inl ⟨by rfl,?_⟩) hHeld ?_ ?_
             rotate_left
             ·rintro w' ⟨s0,s1,s2,s3,s4⟩
              go_simp
              with_reducible rfl
             rotate_left
             ·simp only [Act.put,List.setIfInBounds_toArray,List.set_cons_zero,List.set_cons_succ,i64_w,i32_w]
              rfl
             refine pure_ (i:=12) (N:=some 47) (v:=?_) (a':=?_) #[true,true,true,true,true,true,true,true,true,true,true,true,true,true,true,false,false,true,true,false,false,false,false,false] rfl rfl (any_of HT_.out (by kernel_rfl)) (fun _ _ _ h=>h) (Or.inl ⟨by rfl,?_⟩) ?_ ?_
             rotate_left
             ·intro w'
              go_simp
              with_reducible rfl
             rotate_left
             ·simp only [Act.put,List.setIfInBounds_toArray,List.set_cons_zero,List.set_cons_succ,i64_w,i32_w]
              rfl
             refine take_ (i:=15) (N:=some 50) (v:=?_) (a':=?_) #[true,true,true,true,true,true,true,true,true,true,true,true,true,true,true,true,false,true,true,false,false,false,false,false] rfl rfl (take_ofW HT_.out HW_.out (by kernel_rfl)) (fun _ _ _ h=>h) (Or.inl ⟨by rfl,?_⟩) hHeld ?_ ?_
             rotate_left
             ·rintro w' ⟨s0,s1,s2,s3,s4⟩
              go_simp
              with_reducible rfl
             rotate_left
             ·simp only [Act.put,List.setIfInBounds_toArray,List.set_cons_zero,List.set_cons_succ,i64_w,i32_w]
              rfl
             refine pure_ (i:=16) (N:=some 51) (v:=?_) (a':=?_) #[true,true,true,true,true,true,true,true,true,true,true,true,true,true,true,true,true,true,true,false,false,false,false,false] rfl rfl (any_of HT_.out (by kernel_rfl)) (fun _ _ _ h=>h) (Or.inl ⟨by rfl,?_⟩) ?_ ?_
             rotate_left
             ·intro w'
              go_simp
              with_reducible rfl
             rotate_left
             ·simp only [Act.put,List.setIfInBounds_toArray,List.set_cons_zero,List.set_cons_succ,i64_w,i32_w]
              rfl
             refine take_ (i:=19) (N:=some 54) (v:=?_) (a':=?_) #[true,true,true,true,true,true,true,true,true,true,true,true,true,true,true,true,true,true,true,true,false,false,false,false] rfl rfl (take_ofW HT_.out HW_.out (by kernel_rfl)) (fun _ _ _ h=>h) (Or.inl ⟨by rfl,?_⟩) hHeld ?_ ?_
             rotate_left
             ·rintro w' ⟨s0,s1,s2,s3,s4⟩
              go_simp
              with_reducible rfl
             rotate_left
             ·simp only [Act.put,List.setIfInBounds_toArray,List.set_cons_zero,List.set_cons_succ,i64_w,i32_w]
              rfl
             refine pure_ (i:=20) (N:=some 55) (v:=?_) (a':=?_) #[true,true,true,true,true,true,true,true,true,true,true,true,true,true,true,true,true,true,true,true,true,false,false,false] rfl rfl (any_of HT_.out (by kernel_rfl)) (fun _ _ _ h=>h) (Or.inl ⟨by rfl,?_⟩) ?_ ?_
             rotate_left
             ·intro w'
              go_simp
              with_reducible rfl
             rotate_left
             ·simp only [Act.put,List.setIfInBounds_toArray,List.set_cons_zero,List.set_cons_succ,i64_w,i32_w]
              rfl
             refine pure_ (i:=21) (N:=some 56) (v:=?_) (a':=?_) #[true,true,true,true,true,true,true,true,true,true,true,true,true,true,true,true,true,true,true,true,true,true,false,false] rfl rfl (any_of HT_.out (by kernel_rfl)) (fun _ _ _ h=>h) (Or.inl ⟨by rfl,?_⟩) ?_ ?_
             rotate_left
             ·intro w'
              go_simp
              with_reducible rfl
             rotate_left
             ·simp only [Act.put,List.setIfInBounds_toArray,List.set_cons_zero,List.set_cons_succ,i64_w,i32_w]
              rfl
             refine one_ (i:=22) (N:=some 8) #[true,true,true,true,true,true,true,true,true,true,true,true,true,true,true,true,true,true,true,true,true,true,true,false] rfl rfl (one_of HT_.out (by kernel_rfl)) (by decide) (fun K hK=>?_)
             refine box_step ?hg (N:=8) ?hd (cs:=#[.int .i64 0,.int .i64 0,.int .i64 0,.bool false,.int .i64 0]) (t:=63) ?hr ?_;(case hd=>rfl);(case hg=>rfl);(case hr=>first|(go_simp;done)|(go_simp;rfl))
             intro gb585 hg w59 hbox hb
             have HS0_:=(hb.cell (World.block_lt_of_cell? _ _ (hHeld.1))).trans (hHeld.1)
             have HS1_:=(hb.cell (World.block_lt_of_cell? _ _ (hHeld.2.1))).trans (hHeld.2.1)
             have HS2_:=(hb.cell (World.block_lt_of_cell? _ _ (hHeld.2.2.1))).trans (hHeld.2.2.1)
             have HS3_:=(hb.cell (World.block_lt_of_cell? _ _ (hHeld.2.2.2.1))).trans (hHeld.2.2.2.1)
             have HS4_:=(hb.cell (World.block_lt_of_cell? _ _ (hHeld.2.2.2.2))).trans (hHeld.2.2.2.2)
             have n0_:=Aside0.mk (Kd.R_below (by (with_reducible repeat (first|apply Kd.R_alloc|apply Kd.R_drewN|apply Kd.R_drew));exact HO_4.out) hb)
             have n1_:=Aside0.mk (Kd.R_below (by (with_reducible repeat (first|apply Kd.R_alloc|apply Kd.R_drewN|apply Kd.R_drew));exact HO570.out) hb)
             have n2_:=Aside0.mk (Kd.R_below (by (with_reducible repeat (first|apply Kd.R_alloc|apply Kd.R_drewN|apply Kd.R_drew));exact HO578.out) hb)
             have n3_:=Aside0.mk (blk_below (g:=gb563) (o:=.cells #[.int .i64 0,.int .i64 0,.int .i64 0,.bool false,.int .i64 0] 63 (0,0)) (by (with_reducible repeat (first|refine blk_drewN ?_ _|refine blk_drew ?_|refine blk_alloc ?_ _));exact BK563.out) hb)
             have n4_:=Aside0.mk (Kd.C_below (by repeat (first|(with_reducible exact HR574.out)|(with_reducible refine Kd.C_alloc ?_ _)|(with_reducible refine Kd.C_drewN ?_ _)|(with_reducible refine Kd.C_drew ?_)|exact HR574.out)) hb)
             have n5_:=Aside0.mk (below_step (by repeat (first|(with_reducible first|exact HB.out|apply below_alloc|apply pw_below_drewN|apply below_drew1|refine below_set ?_ GE563.out)|exact HB.out)) hb)
             have n6_:=Aside0.mk (hbox)
             have n7_:=Aside0.mk ((by rw [hg];exact (below_size (by repeat (first|(with_reducible first|exact HB.out|apply below_alloc|apply pw_below_drewN|apply below_drew1|refine below_set ?_ GE563.out)|exact HB.out))):w.heap.size≤gb585))
             have n8_:=Aside0.mk ((by rw [hg];exact (below_size (by repeat (first|(with_reducible first|exact HB.out|apply below_alloc|apply pw_below_drewN|apply below_drew1|refine below_set ?_ GE563.out)|exact HB.out))):w.heap.size≤gb585))
             have n9_:=Aside0.mk ((by rw [hg];exact Nat.ne_of_lt (blk_lt (g:=gb563) (o:=.cells #[.int .i64 0,.int .i64 0,.int .i64 0,.bool false,.int .i64 0] 63 (0,0)) (by (with_reducible repeat (first|refine blk_drewN ?_ _|refine blk_drew ?_|refine blk_alloc ?_ _));exact BK563.out)):gb563≠gb585))
             have n10_:=Aside0.mk ((by rw [hg];exact Nat.ne_of_gt (blk_lt (g:=gb563) (o:=.cells #[.int .i64 0,.int .i64 0,.int .i64 0,.bool false,.int .i64 0] 63 (0,0)) (by (with_reducible repeat (first|refine blk_drewN ?_ _|refine blk_drew ?_|refine blk_alloc ?_ _));exact BK563.out)):gb585≠gb563))
             clear HO_4 HO570 HO578 BK563 HR574 HB
             have HO_4:=n0_
             have HO570:=n1_
             have HO578:=n2_
             have BK563:=n3_
             have HR574:=n4_
             have HB:=n5_
             have BK585:=n6_
             have GW585:=n7_
             have GE585:=n8_
             have NB563_585:=n9_
             have NB585_563:=n10_
             clear n0_ n1_ n2_ n3_ n4_ n5_ n6_ n7_ n8_ n9_ n10_ hb hbox hg
             refine hK.out _ _ ⟨HS0_,HS1_,HS2_,HS3_,HS4_⟩ (fun hHeld=>?_)
             clear hK K
             refine norm_ (a':=?_) ?_ ?_
             rotate_left
             ·show Act.put _ (some 8) _=_
              simp only [Act.put,List.setIfInBounds_toArray,List.set_cons_zero,List.set_cons_succ,i64_w,i32_w]
              rfl
             refine one_ (i:=23) (N:=none) #[true,true,true,true,true,true,true,true,true,true,true,true,true,true,true,true,true,true,true,true,true,true,true,true] rfl rfl (one_of HT_.out (by kernel_rfl)) (by decide) (fun K hK=>?_)
             have hs60:w59.cell? ⟨gb585,0,none⟩=some (.int .i64 0):=(blk_cell BK585.out 0).trans rfl
             have hfs60:=blk_frozen BK585.out 0
             have hns60_0:=NB563_585.out
             have hms60_0:=NB585_563.out
             have hs61:w59.cell? ⟨gb585,1,none⟩=some (.int .i64 0):=(blk_cell BK585.out 1).trans rfl
             have hfs61:=blk_frozen BK585.out 1
             have hns61_0:=NB563_585.out
             have hms61_0:=NB585_563.out
             have hs62:w59.cell? ⟨gb585,2,none⟩=some (.int .i64 0):=(blk_cell BK585.out 2).trans rfl
             have hfs62:=blk_frozen BK585.out 2
             have hns62_0:=NB563_585.out
             have hms62_0:=NB585_563.out
             have hs63:w59.cell? ⟨gb585,3,none⟩=some (.bool false):=(blk_cell BK585.out 3).trans rfl
             have hfs63:=blk_frozen BK585.out 3
             have hns63_0:=NB563_585.out
             have hms63_0:=NB585_563.out
             have hs64:w59.cell? ⟨gb585,4,none⟩=some (.int .i64 0):=(blk_cell BK585.out 4).trans rfl
             have hfs64:=blk_frozen BK585.out 4
             have hns64_0:=NB563_585.out
             have hms64_0:=NB585_563.out
             refine skip_ (w1:=?_) (by rfl) rfl ?_ ?_
             rotate_left
             ·go_simp
              rfl
             have NEF0_:=Kd.own_blk (Kd.R_ne HO578.out BK585.out (by decide))
             refine hK.out _ _ ⟨?_,?_,?_,?_,?_⟩ ?_
             ·exact ((Go.Proofs.Ytbdnmdmfnopihaa.Sem.far5 (g:=gb585) (by first|exact NEF0_|(rw [add_block];exact NEF0_))).trans (hHeld.1))
             ·exact ((Go.Proofs.Ytbdnmdmfnopihaa.Sem.far5 (g:=gb585) (by first|exact NEF0_|(rw [add_block];exact NEF0_))).trans (hHeld.2.1))
             ·exact ((Go.Proofs.Ytbdnmdmfnopihaa.Sem.far5 (g:=gb585) (by first|exact NEF0_|(rw [add_block];exact NEF0_))).trans (hHeld.2.2.1))
             ·exact ((Go.Proofs.Ytbdnmdmfnopihaa.Sem.far5 (g:=gb585) (by first|exact NEF0_|(rw [add_block];exact NEF0_))).trans (hHeld.2.2.2.1))
             ·exact ((Go.Proofs.Ytbdnmdmfnopihaa.Sem.far5 (g:=gb585) (by first|exact NEF0_|(rw [add_block];exact NEF0_))).trans (hHeld.2.2.2.2))
             intro hHeld
             clear hK K
             refine done_ (done_of HT_.out (by kernel_rfl)) ?_
             have hnb65:=NB585_563.out
             have hnc65:=NB563_585.out
             have hcz66_0:w59.cell? ⟨gb585,0,none⟩=some (.int .i64 0):=(blk_cell BK585.out 0).trans rfl
             have hcz66_1:w59.cell? ⟨gb585,1,none⟩=some (.int .i64 0):=(blk_cell BK585.out 1).trans rfl
             have hcz66_2:w59.cell? ⟨gb585,2,none⟩=some (.int .i64 0):=(blk_cell BK585.out 2).trans rfl
             have hcz66_3:w59.cell? ⟨gb585,3,none⟩=some (.bool false):=(blk_cell BK585.out 3).trans rfl
             have hcz66_4:w59.cell? ⟨gb585,4,none⟩=some (.int .i64 0):=(blk_cell BK585.out 4).trans rfl
             have hfz66_0:=blk_frozen BK585.out 0
             have hfz66_1:=blk_frozen BK585.out 1
             have hfz66_2:=blk_frozen BK585.out 2
             have hfz66_3:=blk_frozen BK585.out 3
             have hfz66_4:=blk_frozen BK585.out 4
             try go_wp2_with (first|((with_reducible refine gate_callee (f:=41) rfl ?_);refine goesL_ (some 59) rfl rfl Try.func41 (by kernel_rfl) rfl #[.agg #[.int .i64 (wrap64 (rd t575 1)),.int .i64 (wrap64 (rd t575 2)),.int .i64 (wrap64 (rd t575 4)),.bool ((rd t575 3) == 1),.int .i64 (wrap64 (rd t575 5))]] rfl (by (try simp only [List.map_toArray,List.map_cons,List.map_nil]);first|done|rfl|(simp only [List.length_drop,List.length_take];rfl)) ?_;(with_reducible refine (slipwayref11_EncodeSuper.calls kj2 (wrap64 (rd t575 1)) (wrap64 (rd t575 2)) (wrap64 (rd t575 4)) ((rd t575 3) == 1) (wrap64 (rd t575 5)) t586 t589 _ A27.out).mono ?_);rintro e w67 ⟨v587,rfl,ho0,hb⟩;refine ⟨_,rfl,?_⟩;have n0_:=Aside0.mk (Kd.R_elder' (by (with_reducible repeat (first|apply Kd.R_alloc|apply Kd.R_drewN|apply Kd.R_drew));exact (Kd.R_mono (Kd.R_far (p:=⟨gb585,4,none⟩) (Kd.R_far (p:=⟨gb585,3,none⟩) (Kd.R_far (p:=⟨gb585,2,none⟩) (Kd.R_far (p:=⟨gb585,1,none⟩) (Kd.R_far (p:=⟨gb585,0,none⟩) (Kd.R_types HO_4.out BK585.out (by decide)) (fun _ hk=>hk.2) (.int .i64 (wrap64 (rd t575 1)))) (fun _ hk=>hk.2) (.int .i64 (wrap64 (rd t575 2)))) (fun _ hk=>hk.2) (.int .i64 (wrap64 (rd t575 4)))) (fun _ hk=>hk.2) (.bool ((rd t575 3) == 1))) (fun _ hk=>hk.2) (.int .i64 (wrap64 (rd t575 5)))) (fun _ h_=>h_.1))) (Kd.R_base ho0) hb);have n1_:=Aside0.mk (Kd.R_below (by (with_reducible repeat (first|apply Kd.R_alloc|apply Kd.R_drewN|apply Kd.R_drew));exact (Kd.R_mono (Kd.R_far (p:=⟨gb585,4,none⟩) (Kd.R_far (p:=⟨gb585,3,none⟩) (Kd.R_far (p:=⟨gb585,2,none⟩) (Kd.R_far (p:=⟨gb585,1,none⟩) (Kd.R_far (p:=⟨gb585,0,none⟩) (Kd.R_types HO570.out BK585.out (by decide)) (fun _ hk=>hk.2) (.int .i64 (wrap64 (rd t575 1)))) (fun _ hk=>hk.2) (.int .i64 (wrap64 (rd t575 2)))) (fun _ hk=>hk.2) (.int .i64 (wrap64 (rd t575 4)))) (fun _ hk=>hk.2) (.bool ((rd t575 3) == 1))) (fun _ hk=>hk.2) (.int .i64 (wrap64 (rd t575 5)))) (fun _ h_=>h_.1))) hb);have n2_:=Aside0.mk (Kd.R_below (by (with_reducible repeat (first|apply Kd.R_alloc|apply Kd.R_drewN|apply Kd.R_drew));exact (Kd.R_mono (Kd.R_far (p:=⟨gb585,4,none⟩) (Kd.R_far (p:=⟨gb585,3,none⟩) (Kd.R_far (p:=⟨gb585,2,none⟩) (Kd.R_far (p:=⟨gb585,1,none⟩) (Kd.R_far (p:=⟨gb585,0,none⟩) (Kd.R_types HO578.out BK585.out (by decide)) (fun _ hk=>hk.2) (.int .i64 (wrap64 (rd t575 1)))) (fun _ hk=>hk.2) (.int .i64 (wrap64 (rd t575 2)))) (fun _ hk=>hk.2) (.int .i64 (wrap64 (rd t575 4)))) (fun _ hk=>hk.2) (.bool ((rd t575 3) == 1))) (fun _ hk=>hk.2) (.int .i64 (wrap64 (rd t575 5)))) (fun _ h_=>h_.1))) hb);have n3_:=Aside0.mk (Kd.R_lower (Kd.R_new' ho0 (Kd.R_lt (by (with_reducible repeat (first|apply Kd.R_alloc|apply Kd.R_drewN|apply Kd.R_drew));exact (Kd.R_mono (Kd.R_far (p:=⟨gb585,4,none⟩) (Kd.R_far (p:=⟨gb585,3,none⟩) (Kd.R_far (p:=⟨gb585,2,none⟩) (Kd.R_far (p:=⟨gb585,1,none⟩) (Kd.R_far (p:=⟨gb585,0,none⟩) (Kd.R_types HO_4.out BK585.out (by decide)) (fun _ hk=>hk.2) (.int .i64 (wrap64 (rd t575 1)))) (fun _ hk=>hk.2) (.int .i64 (wrap64 (rd t575 2)))) (fun _ hk=>hk.2) (.int .i64 (wrap64 (rd t575 4)))) (fun _ hk=>hk.2) (.bool ((rd t575 3) == 1))) (fun _ hk=>hk.2) (.int .i64 (wrap64 (rd t575 5)))) (fun _ h_=>h_.1))))) (below_size (by repeat (first|(with_reducible first|exact HB.out|apply below_alloc|apply pw_below_drewN|apply below_drew1|refine below_set ?_ GE563.out|refine below_set ?_ GE585.out)|exact HB.out))));have n4_:=Aside0.mk (blk_below (g:=gb563) (o:=.cells #[.int .i64 0,.int .i64 0,.int .i64 0,.bool false,.int .i64 0] 63 (0,0)) (by (with_reducible repeat (first|refine blk_drewN ?_ _|refine blk_drew ?_|refine blk_alloc ?_ _));refine blk_far ?_ NB563_585.out _;(with_reducible repeat (first|refine blk_drewN ?_ _|refine blk_drew ?_|refine blk_alloc ?_ _));refine blk_far ?_ NB563_585.out _;(with_reducible repeat (first|refine blk_drewN ?_ _|refine blk_drew ?_|refine blk_alloc ?_ _));refine blk_far ?_ NB563_585.out _;(with_reducible repeat (first|refine blk_drewN ?_ _|refine blk_drew ?_|refine blk_alloc ?_ _));refine blk_far ?_ NB563_585.out _;(with_reducible repeat (first|refine blk_drewN ?_ _|refine blk_drew ?_|refine blk_alloc ?_ _));refine blk_far ?_ NB563_585.out _;(with_reducible repeat (first|refine blk_drewN ?_ _|refine blk_drew ?_|refine blk_alloc ?_ _));exact BK563.out) hb);have n5_:=Aside0.mk (blk_below (g:=gb585) (o:=.cells #[.int .i64 (wrap64 (rd t575 1)),.int .i64 (wrap64 (rd t575 2)),.int .i64 (wrap64 (rd t575 4)),.bool ((rd t575 3) == 1),.int .i64 (wrap64 (rd t575 5))] 63 (0,0)) (by (with_reducible repeat (first|refine blk_drewN ?_ _|refine blk_drew ?_|refine blk_alloc ?_ _));refine blk_put (cs:=#[.int .i64 (wrap64 (rd t575 1)),.int .i64 (wrap64 (rd t575 2)),.int .i64 (wrap64 (rd t575 4)),.bool ((rd t575 3) == 1),.int .i64 0]) ?_ 4 _ rfl;(with_reducible repeat (first|refine blk_drewN ?_ _|refine blk_drew ?_|refine blk_alloc ?_ _));refine blk_put (cs:=#[.int .i64 (wrap64 (rd t575 1)),.int .i64 (wrap64 (rd t575 2)),.int .i64 (wrap64 (rd t575 4)),.bool false,.int .i64 0]) ?_ 3 _ rfl;(with_reducible repeat (first|refine blk_drewN ?_ _|refine blk_drew ?_|refine blk_alloc ?_ _));refine blk_put (cs:=#[.int .i64 (wrap64 (rd t575 1)),.int .i64 (wrap64 (rd t575 2)),.int .i64 0,.bool false,.int .i64 0]) ?_ 2 _ rfl;(with_reducible repeat (first|refine blk_drewN ?_ _|refine blk_drew ?_|refine blk_alloc ?_ _));refine blk_put (cs:=#[.int .i64 (wrap64 (rd t575 1)),.int .i64 0,.int .i64 0,.bool false,.int .i64 0]) ?_ 1 _ rfl;(with_reducible repeat (first|refine blk_drewN ?_ _|refine blk_drew ?_|refine blk_alloc ?_ _));refine blk_put (cs:=#[.int .i64 0,.int .i64 0,.int .i64 0,.bool false,.int .i64 0]) ?_ 0 _ rfl;(with_reducible repeat (first|refine blk_drewN ?_ _|refine blk_drew ?_|refine blk_alloc ?_ _));exact BK585.out) hb);have n6_:=Aside0.mk (below_step (by repeat (first|(with_reducible first|exact HB.out|apply below_alloc|apply pw_below_drewN|apply below_drew1|refine below_set ?_ GE563.out|refine below_set ?_ GE585.out)|exact HB.out)) hb);have n7_:=Aside0.mk ((show Kd.C (Kd.int .u8) w67 Ao53 y571.length y571 from by rw [Ny571.out];exact Kd.C_take (m:=23) ((Kd.R_reads' n0_.out).2.2) KL52.out));clear HO_4 HO570 HO578 BK563 BK585 HB HR574;have HO_4:=n0_;have HO570:=n1_;have HO578:=n2_;have HO588:=n3_;have BK563:=n4_;have BK585:=n5_;have HB:=n6_;have HR574:=n7_;clear n0_ n1_ n2_ n3_ n4_ n5_ n6_ n7_;(try clear hb);(try clear hb2);(try clear hk);(try clear hi);(try clear ho0);have hcv68:=own_string (P:=Try.prog) Try.underlying48 Try.underlying5 Try.underlying9 (Kd.own_of_R HO588.out);have hcv69:=Kd.C_string (P:=Try.prog) (A:=A0) (c:=c0) Try.underlying48 Try.underlying5 Try.underlying9 (Kd.C_below HR0.out HB.out);have hcz70_0:w67.cell? ⟨gb563,0,none⟩=some (.int .i64 0):=(blk_cell BK563.out 0).trans rfl;have hcz70_1:w67.cell? ⟨gb563,1,none⟩=some (.int .i64 0):=(blk_cell BK563.out 1).trans rfl;have hcz70_2:w67.cell? ⟨gb563,2,none⟩=some (.int .i64 0):=(blk_cell BK563.out 2).trans rfl;have hcz70_3:w67.cell? ⟨gb563,3,none⟩=some (.bool false):=(blk_cell BK563.out 3).trans rfl;have hcz70_4:w67.cell? ⟨gb563,4,none⟩=some (.int .i64 0):=(blk_cell BK563.out 4).trans rfl;have hfz70_0:=blk_frozen BK563.out 0;have hfz70_1:=blk_frozen BK563.out 1;have hfz70_2:=blk_frozen BK563.out 2;have hfz70_3:=blk_frozen BK563.out 3;have hfz70_4:=blk_frozen BK563.out 4))
             refine bodyPost_ret (results_ct rfl _ _ gb563 63 #[.int .i64 0,.int .i64 0,.int .i64 0,.bool false,.int .i64 0] (0,0) _ rfl (by (with_reducible repeat (first|refine blk_drewN ?_ _|refine blk_drew ?_|refine blk_alloc ?_ _));refine blk_put (cs:=#[.int .i64 0,.int .i64 0,.int .i64 0,.bool false,.int .i64 0]) ?_ 4 _ rfl;(with_reducible repeat (first|refine blk_drewN ?_ _|refine blk_drew ?_|refine blk_alloc ?_ _));refine blk_put (cs:=#[.int .i64 0,.int .i64 0,.int .i64 0,.bool false,.int .i64 0]) ?_ 3 _ rfl;(with_reducible repeat (first|refine blk_drewN ?_ _|refine blk_drew ?_|refine blk_alloc ?_ _));refine blk_put (cs:=#[.int .i64 0,.int .i64 0,.int .i64 0,.bool false,.int .i64 0]) ?_ 2 _ rfl;(with_reducible repeat (first|refine blk_drewN ?_ _|refine blk_drew ?_|refine blk_alloc ?_ _));refine blk_put (cs:=#[.int .i64 0,.int .i64 0,.int .i64 0,.bool false,.int .i64 0]) ?_ 1 _ rfl;(with_reducible repeat (first|refine blk_drewN ?_ _|refine blk_drew ?_|refine blk_alloc ?_ _));refine blk_put (cs:=#[.int .i64 0,.int .i64 0,.int .i64 0,.bool false,.int .i64 0]) ?_ 0 _ rfl;(with_reducible repeat (first|refine blk_drewN ?_ _|refine blk_drew ?_|refine blk_alloc ?_ _));exact BK563.out) Try.underlying63 rfl (by kernel_rfl)) rfl ?_
             exact ⟨by first|rfl|(simp [errW_none,errW_some] <;> rfl)|(simp [*,errW_none,errW_some] <;> rfl),by repeat (first|(with_reducible first|exact HB.out|apply below_alloc|apply pw_below_drewN|apply below_drew1|refine below_set ?_ GE563.out|refine below_set ?_ GE585.out)|exact HB.out)⟩
           ·rw [if_neg c28] at H
            have c28b0:(t589 == 0)=false:=beq_eq_false_iff_ne.mpr c28
            have c28b1:(t589 != 0)=true:=bne_iff_ne.mpr c28
            simp only [Option.some.injEq,Prod.mk.injEq] at H
            obtain ⟨rfl,rfl,rfl,rfl,rfl,rfl⟩:=H
            try go_wp2
            have n0_:=Aside0.mk (Kd.R_drew HO_4.out)
            have n1_:=Aside0.mk (blk_drew BK563.out)
            have n2_:=Aside0.mk (below_drew1 HB.out)
            clear HO_4 BK563 HB
            have HO_4:=n0_
            have BK563:=n1_
            have HB:=n2_
            clear n0_ n1_ n2_
            obtain ⟨Ao73,co73,eo73⟩:=Kd.R_slice HO_4.out
            (first|subst eo73|(injection eo73 with f1_ f2_ f3_;have f4_:=f1_.symm;have f5_:=f3_.symm;clear f1_ f2_ f3_;subst f4_;subst f5_))
            have q72:(23:Int)≤((t564.length:Int):Int):=of_decide_eq_true (by first|(with_reducible assumption)|assumption)
            obtain ⟨i072,hi072,_,hsz72,_⟩:=info_parts info5
            have hroom72:t564.length≤co73:=(Kd.R_reads' HO_4.out).2.1
            have hC72:Kd.C (Kd.int .u8) _ Ao73 t564.length t564:=(Kd.R_reads' HO_4.out).2.2
            have hcut72:=cut_to (P:=Try.prog) 48 5 .i64 Try.underlying48 hi072 Ao73 t564.length co73 23 (by omega) q72 hroom72
            have hr72:=Kd.C_take (m:=23) hC72 (by omega)
            have hy72:y571.length=(23:Int).toNat:=(by rw [Ny571.out,List.length_take];omega)
            rw [← Ny571.out] at hr72
            rw [← hy72] at hcut72
            have HR574:=Aside0.mk hr72
            have HC574:=Aside0.mk (show y571.length≤co73 from by omega)
            clear hr72 hC72 hroom72 hi072 hsz72
            have KY72:=Aside0.mk hy72
            clear hy72
            have KL72:=Aside0.mk (show 23≤t564.length from by omega)
            replace q72:=eq_true q72
            refine start_ (n:=9) (S:=fun w'=>True) (ds:=[]) #[false,false,false,false,false,false,false,false,false] (by kernel_rfl) rfl rfl trivial (fun hHeld=>?_);refine with_tabW slipwayref11_DecodeSuper.tab4 slipwayref11_DecodeSuper.bits4 (fun HT_ HW_=>?_)
            generalize wc.drew=w71 at HO_4 BK563 HB HR574 hHeld ⊢
            refine pure_ (i:=1) (N:=some 25) (v:=?_) (a':=?_) #[false,true,false,false,false,false,false,false,false] rfl rfl (any_of HT_.out (by kernel_rfl)) (fun _ _ _ h=>h) (Or.inl ⟨by rfl,?_⟩) ?_ ?_
            rotate_left
            ·intro w'
             go_simp
             with_reducible rfl
            rotate_left
            ·simp only [Act.put,List.setIfInBounds_toArray,List.set_cons_zero,List.set_cons_succ,i64_w,i32_w]
             rfl
            refine pure_ (i:=2) (N:=some 26) (v:=?_) (a':=?_) #[false,true,true,false,false,false,false,false,false] rfl rfl (any_of HT_.out (by kernel_rfl)) (fun _ _ _ h=>h) (Or.inl ⟨by rfl,?_⟩) ?_ ?_
            rotate_left
            ·intro w'
             go_simp
             with_reducible rfl
            rotate_left
            ·simp only [Act.put,List.setIfInBounds_toArray,List.set_cons_zero,List.set_cons_succ,i64_w,i32_w]
             rfl
            refine one_ (i:=0) (N:=some 24) #[true,true,true,false,false,false,false,false,false] rfl rfl (one_of HT_.out (by kernel_rfl)) (by decide) (fun K hK=>?_)
            refine goes_ Try.func56 (by kernel_rfl) rfl #[] (by rfl) rfl rfl (by (try simp only [List.map_toArray,List.map_cons,List.map_nil]);first|done|rfl|(simp only [List.length_drop,List.length_take];rfl)) ?_
            with_reducible refine (slipwayref11_superWidths.calls  t568 _ A10.out).mono ?_
            rintro e w74 ⟨v569,rfl,ho0,hb⟩
            refine ⟨_,rfl,?_⟩
            have n0_:=Aside0.mk (Kd.R_below (by (with_reducible repeat (first|apply Kd.R_alloc|apply Kd.R_drewN|apply Kd.R_drew));exact HO_4.out) hb)
            have n1_:=Aside0.mk (Kd.R_lower ho0 (below_size (by repeat (first|(with_reducible first|exact HB.out|apply below_alloc|apply pw_below_drewN|apply below_drew1|refine below_set ?_ GE563.out)|exact HB.out))))
            have n2_:=Aside0.mk (blk_below (g:=gb563) (o:=.cells #[.int .i64 0,.int .i64 0,.int .i64 0,.bool false,.int .i64 0] 63 (0,0)) (by (with_reducible repeat (first|refine blk_drewN ?_ _|refine blk_drew ?_|refine blk_alloc ?_ _));exact BK563.out) hb)
            have n3_:=Aside0.mk (Kd.C_below (by repeat (first|(with_reducible exact HR574.out)|(with_reducible refine Kd.C_alloc ?_ _)|(with_reducible refine Kd.C_drewN ?_ _)|(with_reducible refine Kd.C_drew ?_)|exact HR574.out)) hb)
            have n4_:=Aside0.mk (below_step (by repeat (first|(with_reducible first|exact HB.out|apply below_alloc|apply pw_below_drewN|apply below_drew1|refine below_set ?_ GE563.out)|exact HB.out)) hb)
            clear HO_4 BK563 HR574 HB
            have HO_4:=n0_
            have HO570:=n1_
            have BK563:=n2_
            have HR574:=n3_
            have HB:=n4_
            clear n0_ n1_ n2_ n3_ n4_
            (try clear hb)
            (try clear hb2)
            (try clear hk)
            (try clear hi)
            (try clear ho0)
            obtain ⟨Ao75,co75,eo75⟩:=Kd.R_slice HO570.out
            (first|subst eo75|(injection eo75 with f1_ f2_ f3_;have f4_:=f1_.symm;have f5_:=f3_.symm;clear f1_ f2_ f3_;subst f4_;subst f5_))
            refine hK.out _ _ trivial (fun hHeld=>?_)
            clear hK K
            refine norm_ (a':=?_) ?_ ?_
            rotate_left
            ·show Act.put _ (some 24) _=_
             simp only [Act.put,List.setIfInBounds_toArray,List.set_cons_zero,List.set_cons_succ,i64_w,i32_w]
             rfl
            refine one_ (i:=3) (N:=some 27) #[true,true,true,true,false,false,false,false,false] rfl rfl (one_of HT_.out (by kernel_rfl)) (by decide) (fun K hK=>?_)
            refine goes_ Try.func52 (by kernel_rfl) rfl #[.slice Ao75 t568.length co75,.slice Ao73 y571.length co73] (by rfl) rfl rfl (by (try simp only [List.map_toArray,List.map_cons,List.map_nil]);first|done|rfl|(simp only [List.length_drop,List.length_take];rfl)) ?_
            with_reducible refine (slipwayref01_Unpack.calls kj2 _ _ t568 _ _ y571 t575 t576 _ ?side1 ?side2 ?side3 ?side4 A12.out).mono ?_
            (case side1=>repeat (first|exact (Kd.R_reads' HO570.out).2.2|(with_reducible refine Kd.C_alloc ?_ _)|(with_reducible refine Kd.C_drewN ?_ _)|(with_reducible refine Kd.C_drew ?_)))
            (case side2=>exact (Kd.R_reads' HO570.out).2.1)
            (case side3=>repeat (first|exact (by repeat (first|(with_reducible exact HR574.out)|(with_reducible refine Kd.C_alloc ?_ _)|(with_reducible refine Kd.C_drewN ?_ _)|(with_reducible refine Kd.C_drew ?_)|exact HR574.out))|(with_reducible refine Kd.C_alloc ?_ _)|(with_reducible refine Kd.C_drewN ?_ _)|(with_reducible refine Kd.C_drew ?_)))
            (case side4=>exact HC574.out)
            rintro e w76 ⟨v577,rfl,ho0,hb⟩
            refine ⟨_,rfl,?_⟩
            have n0_:=Aside0.mk (Kd.R_below (by (with_reducible repeat (first|apply Kd.R_alloc|apply Kd.R_drewN|apply Kd.R_drew));exact HO_4.out) hb)
            have n1_:=Aside0.mk (Kd.R_below (by (with_reducible repeat (first|apply Kd.R_alloc|apply Kd.R_drewN|apply Kd.R_drew));exact HO570.out) hb)
            have n2_:=Aside0.mk (Kd.R_lower ho0 (below_size (by repeat (first|(with_reducible first|exact HB.out|apply below_alloc|apply pw_below_drewN|apply below_drew1|refine below_set ?_ GE563.out)|exact HB.out))))
            have n3_:=Aside0.mk (blk_below (g:=gb563) (o:=.cells #[.int .i64 0,.int .i64 0,.int .i64 0,.bool false,.int .i64 0] 63 (0,0)) (by (with_reducible repeat (first|refine blk_drewN ?_ _|refine blk_drew ?_|refine blk_alloc ?_ _));exact BK563.out) hb)
            have n4_:=Aside0.mk (Kd.C_below (by repeat (first|(with_reducible exact HR574.out)|(with_reducible refine Kd.C_alloc ?_ _)|(with_reducible refine Kd.C_drewN ?_ _)|(with_reducible refine Kd.C_drew ?_)|exact HR574.out)) hb)
            have n5_:=Aside0.mk (below_step (by repeat (first|(with_reducible first|exact HB.out|apply below_alloc|apply pw_below_drewN|apply below_drew1|refine below_set ?_ GE563.out)|exact HB.out)) hb)
            clear HO_4 HO570 BK563 HR574 HB
            have HO_4:=n0_
            have HO570:=n1_
            have HO578:=n2_
            have BK563:=n3_
            have HR574:=n4_
            have HB:=n5_
            clear n0_ n1_ n2_ n3_ n4_ n5_
            (try clear hb)
            (try clear hb2)
            (try clear hk)
            (try clear hi)
            (try clear ho0)
            refine hK.out _ _ trivial (fun hHeld=>?_)
            clear hK K
            refine norm_ (a':=?_) ?_ ?_
            rotate_left
            ·show Act.put _ (some 27) _=_
             simp only [Act.put,List.setIfInBounds_toArray,List.set_cons_zero,List.set_cons_succ,i64_w,i32_w]
             rfl
            refine pure_ (i:=4) (N:=some 23) (v:=?_) (a':=?_) #[true,true,true,true,true,false,false,false,false] rfl rfl (any_of HT_.out (by kernel_rfl)) (fun _ _ _ h=>h) (Or.inl ⟨by rfl,?_⟩) ?_ ?_
            rotate_left
            ·intro w'
             go_simp
             with_reducible rfl
            rotate_left
            ·simp only [Act.put,List.setIfInBounds_toArray,List.set_cons_zero,List.set_cons_succ,i64_w,i32_w]
             rfl
            refine pure_ (i:=5) (N:=some 28) (v:=?_) (a':=?_) #[true,true,true,true,true,true,false,false,false] rfl rfl (any_of HT_.out (by kernel_rfl)) (fun _ _ _ h=>h) (Or.inl ⟨by rfl,?_⟩) ?_ ?_
            rotate_left
            ·intro w'
             go_simp
             with_reducible rfl
            rotate_left
            ·simp only [Act.put,List.setIfInBounds_toArray,List.set_cons_zero,List.set_cons_succ,i64_w,i32_w]
             rfl
            refine pure_ (i:=6) (N:=some 29) (v:=?_) (a':=?_) #[true,true,true,true,true,true,true,false,false] rfl rfl (any_of HT_.out (by kernel_rfl)) (fun _ _ _ h=>h) (Or.inl ⟨by rfl,?_⟩) ?_ ?_
            rotate_left
            ·intro w'
             go_simp
             with_reducible rfl
            rotate_left
            ·simp only [Act.put,List.setIfInBounds_toArray,List.set_cons_zero,List.set_cons_succ,i64_w,i32_w]
             rfl
            refine pure_ (i:=7) (N:=some 6) (v:=?_) (a':=?_) #[true,true,true,true,true,true,true,true,false] rfl rfl (any_of HT_.out (by kernel_rfl)) (fun _ _ _ h=>h) (Or.inl ⟨by rfl,?_⟩) ?_ ?_
            rotate_left
            ·intro w'
             go_simp
             with_reducible rfl
            rotate_left
            ·simp only [Act.put,List.setIfInBounds_toArray,List.set_cons_zero,List.set_cons_succ,i64_w,i32_w]
             rfl
            refine pure_ (i:=8) (N:=some 7) (v:=?_) (a':=?_) #[true,true,true,true,true,true,true,true,true] rfl rfl (any_of HT_.out (by kernel_rfl)) (fun _ _ _ h=>h) (Or.inl ⟨by rfl,?_⟩) ?_ ?_
            rotate_left
            ·intro w'
             go_simp
             with_reducible rfl
            rotate_left
            ·simp only [Act.put,List.setIfInBounds_toArray,List.set_cons_zero,List.set_cons_succ,i64_w,i32_w]
             rfl
            refine done_ (done_of HT_.out (by kernel_rfl)) ?_
            obtain ⟨Ao77,co77,eo77⟩:=Kd.R_slice HO578.out
            subst eo77
            have p579:0≤(5:Int):=(by omega)
            have q579:5 < (t575.length:Int):=of_decide_eq_true (by first|(with_reducible assumption)|assumption)
            obtain ⟨ad579,e579,hx579_0⟩:=Kd.at_int (Kd.R_reads' HO578.out).2.2 5 p579 q579
            cases e579
            (try simp only [show (5:Int).toNat=5 from rfl,Nat.reduceMul,Nat.reduceEqDiff,Go.Addr.add,↓reduceIte] at hx579_0)
            have qi579:(5 < t575.length)=True:=eq_true (by omega)
            (try rw [show ((5:Int)).toNat=5 from rfl] at hx579_0)
            replace p579:=eq_true p579
            replace q579:=eq_true q579
            try go_wp2
            have n0_:=Aside0.mk (Kd.R_drew HO_4.out)
            have n1_:=Aside0.mk (Kd.R_drew HO570.out)
            have n2_:=Aside0.mk (Kd.R_drew HO578.out)
            have n3_:=Aside0.mk (blk_drew BK563.out)
            have n4_:=Aside0.mk (Kd.C_drew HR574.out)
            have n5_:=Aside0.mk (below_drew1 HB.out)
            clear HO_4 HO570 HO578 BK563 HR574 HB
            have HO_4:=n0_
            have HO570:=n1_
            have HO578:=n2_
            have BK563:=n3_
            have HR574:=n4_
            have HB:=n5_
            clear n0_ n1_ n2_ n3_ n4_ n5_
            have p580:0≤(1:Int):=(by omega)
            have q580:1 < (t575.length:Int):=of_decide_eq_true (by first|(with_reducible assumption)|assumption)
            obtain ⟨ad580,e580,hx580_0⟩:=Kd.at_int (Kd.R_reads' HO578.out).2.2 1 p580 q580
            obtain rfl:ad579=ad580:=(by injection e580)
            (try simp only [show (1:Int).toNat=1 from rfl,Nat.reduceMul,Nat.reduceEqDiff,Go.Addr.add,↓reduceIte] at hx580_0)
            have qi580:(1 < t575.length)=True:=eq_true (by omega)
            (try rw [show ((1:Int)).toNat=1 from rfl] at hx580_0)
            replace p580:=eq_true p580
            replace q580:=eq_true q580
            have p581:0≤(2:Int):=(by omega)
            have q581:2 < (t575.length:Int):=of_decide_eq_true (by first|(with_reducible assumption)|assumption)
            obtain ⟨ad581,e581,hx581_0⟩:=Kd.at_int (Kd.R_reads' HO578.out).2.2 2 p581 q581
            obtain rfl:ad579=ad581:=(by injection e581)
            (try simp only [show (2:Int).toNat=2 from rfl,Nat.reduceMul,Nat.reduceEqDiff,Go.Addr.add,↓reduceIte] at hx581_0)
            have qi581:(2 < t575.length)=True:=eq_true (by omega)
            (try rw [show ((2:Int)).toNat=2 from rfl] at hx581_0)
            replace p581:=eq_true p581
            replace q581:=eq_true q581
            have p582:0≤(3:Int):=(by omega)
            have q582:3 < (t575.length:Int):=of_decide_eq_true (by first|(with_reducible assumption)|assumption)
            obtain ⟨ad582,e582,hx582_0⟩:=Kd.at_int (Kd.R_reads' HO578.out).2.2 3 p582 q582
            obtain rfl:ad579=ad582:=(by injection e582)
            (try simp only [show (3:Int).toNat=3 from rfl,Nat.reduceMul,Nat.reduceEqDiff,Go.Addr.add,↓reduceIte] at hx582_0)
            have qi582:(3 < t575.length)=True:=eq_true (by omega)
            (try rw [show ((3:Int)).toNat=3 from rfl] at hx582_0)
            replace p582:=eq_true p582
            replace q582:=eq_true q582
            have p583:0≤(4:Int):=(by omega)
            have q583:4 < (t575.length:Int):=of_decide_eq_true (by first|(with_reducible assumption)|assumption)
            obtain ⟨ad583,e583,hx583_0⟩:=Kd.at_int (Kd.R_reads' HO578.out).2.2 4 p583 q583
            obtain rfl:ad579=ad583:=(by injection e583)
            (try simp only [show (4:Int).toNat=4 from rfl,Nat.reduceMul,Nat.reduceEqDiff,Go.Addr.add,↓reduceIte] at hx583_0)
            have qi583:(4 < t575.length)=True:=eq_true (by omega)
            (try rw [show ((4:Int)).toNat=4 from rfl] at hx583_0)
            replace p583:=eq_true p583
            replace q583:=eq_true q583
            have p584:0≤(5:Int):=(by omega)
            have q584:5 < (t575.length:Int):=of_decide_eq_true (by first|(with_reducible assumption)|assumption)
            obtain ⟨ad584,e584,hx584_0⟩:=Kd.at_int (Kd.R_reads' HO578.out).2.2 5 p584 q584
            obtain rfl:ad579=ad584:=(by injection e584)
            (try simp only [show (5:Int).toNat=5 from rfl,Nat.reduceMul,Nat.reduceEqDiff,Go.Addr.add,↓reduceIte] at hx584_0)
            have qi584:(5 < t575.length)=True:=eq_true (by omega)
            (try rw [show ((5:Int)).toNat=5 from rfl] at hx584_0)
            replace p584:=eq_true p584
            replace q584:=eq_true q584
            refine start_ (n:=24) (S:=fun w'=>w'.cell? ⟨ad579.block,ad579.off + 1,none⟩=some (.int .u64 (rd t575 1))∧w'.cell? ⟨ad579.block,ad579.off + 2,none⟩=some (.int .u64 (rd t575 2))∧w'.cell? ⟨ad579.block,ad579.off + 3,none⟩=some (.int .u64 (rd t575 3))∧w'.cell? ⟨ad579.block,ad579.off + 4,none⟩=some (.int .u64 (rd t575 4))∧w'.cell? ⟨ad579.block,ad579.off + 5,none⟩=some (.int .u64 (rd t575 5))) (ds:=[]) #[false,false,false,false,false,false,false,false,false,false,false,false,false,false,false,false,false,false,false,false,false,false,false,false] (by kernel_rfl) rfl rfl ⟨hx580_0,hx581_0,hx582_0,hx583_0,hx584_0⟩ (fun hHeld=>?_);refine with_tabW slipwayref11_DecodeSuper.tab7 slipwayref11_DecodeSuper.bits7 (fun HT_ HW_=>?_)
            generalize w76.drew=w78 at HO_4 HO570 HO578 BK563 HR574 HB hx580_0 hx581_0 hx582_0 hx583_0 hx584_0 hHeld ⊢
            refine pure_ (i:=0) (N:=some 35) (v:=?_) (a':=?_) #[true,false,false,false,false,false,false,false,false,false,false,false,false,false,false,false,false,false,false,false,false,false,false,false] rfl rfl (any_of HT_.out (by kernel_rfl)) (fun _ _ _ h=>h) (Or.inl ⟨by rfl,?_⟩) ?_ ?_
            rotate_left
            ·intro w'
             go_simp
             with_reducible rfl
            rotate_left
            ·simp only [Act.put,List.setIfInBounds_toArray,List.set_cons_zero,List.set_cons_succ,i64_w,i32_w]
             rfl
            refine pure_ (i:=1) (N:=some 36) (v:=?_) (a':=?_) #[true,true,false,false,false,false,false,false,false,false,false,false,false,false,false,false,false,false,false,false,false,false,false,false] rfl rfl (any_of HT_.out (by kernel_rfl)) (fun _ _ _ h=>h) (Or.inl ⟨by rfl,?_⟩) ?_ ?_
            rotate_left
            ·intro w'
             go_simp
             with_reducible rfl
            rotate_left
            ·simp only [Act.put,List.setIfInBounds_toArray,List.set_cons_zero,List.set_cons_succ,i64_w,i32_w]
             rfl
            refine pure_ (i:=4) (N:=some 39) (v:=?_) (a':=?_) #[true,true,false,false,true,false,false,false,false,false,false,false,false,false,false,false,false,false,false,false,false,false,false,false] rfl rfl (any_of HT_.out (by kernel_rfl)) (fun _ _ _ h=>h) (Or.inl ⟨by rfl,?_⟩) ?_ ?_
            rotate_left
            ·intro w'
             go_simp
             with_reducible rfl
            rotate_left
            ·simp only [Act.put,List.setIfInBounds_toArray,List.set_cons_zero,List.set_cons_succ,i64_w,i32_w]
             rfl
            refine pure_ (i:=5) (N:=some 40) (v:=?_) (a':=?_) #[true,true,false,false,true,true,false,false,false,false,false,false,false,false,false,false,false,false,false,false,false,false,false,false] rfl rfl (any_of HT_.out (by kernel_rfl)) (fun _ _ _ h=>h) (Or.inl ⟨by rfl,?_⟩) ?_ ?_
            rotate_left
            ·intro w'
             go_simp
             with_reducible rfl
            rotate_left
            ·simp only [Act.put,List.setIfInBounds_toArray,List.set_cons_zero,List.set_cons_succ,i64_w,i32_w]
             rfl
            refine pure_ (i:=9) (N:=some 44) (v:=?_) (a':=?_) #[true,true,false,false,true,true,false,false,false,true,false,false,false,false,false,false,false,false,false,false,false,false,false,false] rfl rfl (any_of HT_.out (by kernel_rfl)) (fun _ _ _ h=>h) (Or.inl ⟨by rfl,?_⟩) ?_ ?_
            rotate_left
            ·intro w'
             go_simp
             with_reducible rfl
            rotate_left
            ·simp only [Act.put,List.setIfInBounds_toArray,List.set_cons_zero,List.set_cons_succ,i64_w,i32_w]
             rfl
            refine pure_ (i:=10) (N:=some 45) (v:=?_) (a':=?_) #[true,true,false,false,true,true,false,false,false,true,true,false,false,false,false,false,false,false,false,false,false,false,false,false] rfl rfl (any_of HT_.out (by kernel_rfl)) (fun _ _ _ h=>h) (Or.inl ⟨by rfl,?_⟩) ?_ ?_
            rotate_left
            ·intro w'
             go_simp
             with_reducible rfl
            rotate_left
            ·simp only [Act.put,List.setIfInBounds_toArray,List.set_cons_zero,List.set_cons_succ,i64_w,i32_w]
             rfl
            refine pure_ (i:=13) (N:=some 48) (v:=?_) (a':=?_) #[true,true,false,false,true,true,false,false,false,true,true,false,false,true,false,false,false,false,false,false,false,false,false,false] rfl rfl (any_of HT_.out (by kernel_rfl)) (fun _ _ _ h=>h) (Or.inl ⟨by rfl,?_⟩) ?_ ?_
            rotate_left
            ·intro w'
             go_simp
             with_reducible rfl
            rotate_left
            ·simp only [Act.put,List.setIfInBounds_toArray,List.set_cons_zero,List.set_cons_succ,i64_w,i32_w]
             rfl
            refine pure_ (i:=14) (N:=some 49) (v:=?_) (a':=?_) #[true,true,false,false,true,true,false,false,false,true,true,false,false,true,true,false,false,false,false,false,false,false,false,false] rfl rfl (any_of HT_.out (by kernel_rfl)) (fun _ _ _ h=>h) (Or.inl ⟨by rfl,?_⟩) ?_ ?_
            rotate_left
            ·intro w'
             go_simp
             with_reducible rfl
            rotate_left
            ·simp only [Act.put,List.setIfInBounds_toArray,List.set_cons_zero,List.set_cons_succ,i64_w,i32_w]
             rfl
            refine pure_ (i:=17) (N:=some 52) (v:=?_) (a':=?_) #[true,true,false,false,true,true,false,false,false,true,true,false,false,true,true,false,false,true,false,false,false,false,false,false] rfl rfl (any_of HT_.out (by kernel_rfl)) (fun _ _ _ h=>h) (Or.inl ⟨by rfl,?_⟩) ?_ ?_
            rotate_left
            ·intro w'
             go_simp
             with_reducible rfl
            rotate_left
            ·simp only [Act.put,List.setIfInBounds_toArray,List.set_cons_zero,List.set_cons_succ,i64_w,i32_w]
             rfl
            refine pure_ (i:=18) (N:=some 53) (v:=?_) (a':=?_) #[true,true,false,false,true,true,false,false,false,true,true,false,false,true,true,false,false,true,true,false,false,false,false,false] rfl rfl (any_of HT_.out (by kernel_rfl)) (fun _ _ _ h=>h) (Or.inl ⟨by rfl,?_⟩) ?_ ?_
            rotate_left
            ·intro w'
             go_simp
             with_reducible rfl
            rotate_left
            ·simp only [Act.put,List.setIfInBounds_toArray,List.set_cons_zero,List.set_cons_succ,i64_w,i32_w]
             rfl
            refine take_ (i:=2) (N:=some 37) (v:=?_) (a':=?_) #[true,true,true,false,true,true,false,false,false,true,true,false,false,true,true,false,false,true,true,false,false,false,false,false] rfl rfl (take_ofW HT_.out HW_.out (by kernel_rfl)) (fun _ _ _ h=>h) (Or.inl ⟨by rfl,?_⟩) hHeld ?_ ?_
            rotate_left
            ·rintro w' ⟨s0,s1,s2,s3,s4⟩
             go_simp
             with_reducible rfl
            rotate_left
            ·simp only [Act.put,List.setIfInBounds_toArray,List.set_cons_zero,List.set_cons_succ,i64_w,i32_w]
             rfl
            refine pure_ (i:=3) (N:=some 38) (v:=?_) (a':=?_) #[true,true,true,true,true,true,false,false,false,true,true,false,false,true,true,false,false,true,true,false,false,false,false,false] rfl rfl (any_of HT_.out (by kernel_rfl)) (fun _ _ _ h=>h) (Or.inl ⟨by rfl,?_⟩) ?_ ?_
            rotate_left
            ·intro w'
             go_simp
             with_reducible rfl
            rotate_left
            ·simp only [Act.put,List.setIfInBounds_toArray,List.set_cons_zero,List.set_cons_succ,i64_w,i32_w]
             rfl
            refine take_ (i:=6) (N:=some 41) (v:=?_) (a':=?_) #[true,true,true,true,true,true,true,false,false,true,true,false,false,true,true,false,false,true,true,false,false,false,false,false] rfl rfl (take_ofW HT_.out HW_.out (by kernel_rfl)) (fun _ _ _ h=>h) (Or.inl ⟨by rfl,?_⟩) hHeld ?_ ?_
            rotate_left
            ·rintro w' ⟨s0,s1,s2,s3,s4⟩
             go_simp
             with_reducible rfl
            rotate_left
            ·simp only [Act.put,List.setIfInBounds_toArray,List.set_cons_zero,List.set_cons_succ,i64_w,i32_w]
             rfl
            refine pure_ (i:=7) (N:=some 42) (v:=?_) (a':=?_) #[true,true,true,true,true,true,true,true,false,true,true,false,false,true,true,false,false,true,true,false,false,false,false,false] rfl rfl (any_of HT_.out (by kernel_rfl)) (fun _ _ _ h=>h) (Or.inl ⟨by rfl,?_⟩) ?_ ?_
            rotate_left
            ·intro w'
             go_simp
             with_reducible rfl
            rotate_left
            ·simp only [Act.put,List.setIfInBounds_toArray,List.set_cons_zero,List.set_cons_succ,i64_w,i32_w]
             rfl
            refine pure_ (i:=8) (N:=some 43) (v:=?_) (a':=?_) #[true,true,true,true,true,true,true,true,true,true,true,false,false,true,true,false,false,true,true,false,false,false,false,false] rfl rfl (any_of HT_.out (by kernel_rfl)) (fun _ _ _ h=>h) (Or.inl ⟨by rfl,?_⟩) ?_ ?_
            rotate_left
            ·intro w'
             go_simp
             with_reducible rfl
            rotate_left
            ·simp only [Act.put,List.setIfInBounds_toArray,List.set_cons_zero,List.set_cons_succ,i64_w,i32_w]
             rfl
            refine take_ (i:=11) (N:=some 46) (v:=?_) (a':=?_) #[true,true,true,true,true,true,true,true,true,true,true,true,false,true,true,false,false,true,true,false,false,false,false,false] rfl rfl (take_ofW HT_.out HW_.out (by kernel_rfl)) (fun _ _ _ h=>h) (Or.inl ⟨by rfl,?_⟩) hHeld ?_ ?_
            rotate_left
            ·rintro w' ⟨s0,s1,s2,s3,s4⟩
             go_simp
             with_reducible rfl
            rotate_left
            ·simp only [Act.put,List.setIfInBounds_toArray,List.set_cons_zero,List.set_cons_succ,i64_w,i32_w]
             rfl
            refine pure_ (i:=12) (N:=some 47) (v:=?_) (a':=?_) #[true,true,true,true,true,true,true,true,true,true,true,true,true,true,true,false,false,true,true,false,false,false,false,false] rfl rfl (any_of HT_.out (by kernel_rfl)) (fun _ _ _ h=>h) (Or.inl ⟨by rfl,?_⟩) ?_ ?_
            rotate_left
            ·intro w'
             go_simp
             with_reducible rfl
            rotate_left
            ·simp only [Act.put,List.setIfInBounds_toArray,List.set_cons_zero,List.set_cons_succ,i64_w,i32_w]
             rfl
            refine take_ (i:=15) (N:=some 50) (v:=?_) (a':=?_) #[true,true,true,true,true,true,true,true,true,true,true,true,true,true,true,true,false,true,true,false,false,false,false,false] rfl rfl (take_ofW HT_.out HW_.out (by kernel_rfl)) (fun _ _ _ h=>h) (Or.inl ⟨by rfl,?_⟩) hHeld ?_ ?_
            rotate_left
            ·rintro w' ⟨s0,s1,s2,s3,s4⟩
             go_simp
             with_reducible rfl
            rotate_left
            ·simp only [Act.put,List.setIfInBounds_toArray,List.set_cons_zero,List.set_cons_succ,i64_w,i32_w]
             rfl
            refine pure_ (i:=16) (N:=some 51) (v:=?_) (a':=?_) #[true,true,true,true,true,true,true,true,true,true,true,true,true,true,true,true,true,true,true,false,false,false,false,false] rfl rfl (any_of HT_.out (by kernel_rfl)) (fun _ _ _ h=>h) (Or.inl ⟨by rfl,?_⟩) ?_ ?_
            rotate_left
            ·intro w'
             go_simp
             with_reducible rfl
            rotate_left
            ·simp only [Act.put,List.setIfInBounds_toArray,List.set_cons_zero,List.set_cons_succ,i64_w,i32_w]
             rfl
            refine take_ (i:=19) (N:=some 54) (v:=?_) (a':=?_) #[true,true,true,true,true,true,true,true,true,true,true,true,true,true,true,true,true,true,true,true,false,false,false,false] rfl rfl (take_ofW HT_.out HW_.out (by kernel_rfl)) (fun _ _ _ h=>h) (Or.inl ⟨by rfl,?_⟩) hHeld ?_ ?_
            rotate_left
            ·rintro w' ⟨s0,s1,s2,s3,s4⟩
             go_simp
             with_reducible rfl
            rotate_left
            ·simp only [Act.put,List.setIfInBounds_toArray,List.set_cons_zero,List.set_cons_succ,i64_w,i32_w]
             rfl
            refine pure_ (i:=20) (N:=some 55) (v:=?_) (a':=?_) #[true,true,true,true,true,true,true,true,true,true,true,true,true,true,true,true,true,true,true,true,true,false,false,false] rfl rfl (any_of HT_.out (by kernel_rfl)) (fun _ _ _ h=>h) (Or.inl ⟨by rfl,?_⟩) ?_ ?_
            rotate_left
            ·intro w'
             go_simp
             with_reducible rfl
            rotate_left
            ·simp only [Act.put,List.setIfInBounds_toArray,List.set_cons_zero,List.set_cons_succ,i64_w,i32_w]
             rfl
            refine pure_ (i:=21) (N:=some 56) (v:=?_) (a':=?_) #[true,true,true,true,true,true,true,true,true,true,true,true,true,true,true,true,true,true,true,true,true,true,false,false] rfl rfl (any_of HT_.out (by kernel_rfl)) (fun _ _ _ h=>h) (Or.inl ⟨by rfl,?_⟩) ?_ ?_
            rotate_left
            ·intro w'
             go_simp
             with_reducible rfl
            rotate_left
            ·simp only [Act.put,List.setIfInBounds_toArray,List.set_cons_zero,List.set_cons_succ,i64_w,i32_w]
             rfl
            refine one_ (i:=22) (N:=some 8) #[true,true,true,true,true,true,true,true,true,true,true,true,true,true,true,true,true,true,true,true,true,true,true,false] rfl rfl (one_of HT_.out (by kernel_rfl)) (by decide) (fun K hK=>?_)
            refine box_step ?hg (N:=8) ?hd (cs:=#[.int .i64 0,.int .i64 0,.int .i64 0,.bool false,.int .i64 0]) (t:=63) ?hr ?_;(case hd=>rfl);(case hg=>rfl);(case hr=>first|(go_simp;done)|(go_simp;rfl))
            intro gb585 hg w79 hbox hb
            have HS0_:=(hb.cell (World.block_lt_of_cell? _ _ (hHeld.1))).trans (hHeld.1)
            have HS1_:=(hb.cell (World.block_lt_of_cell? _ _ (hHeld.2.1))).trans (hHeld.2.1)
            have HS2_:=(hb.cell (World.block_lt_of_cell? _ _ (hHeld.2.2.1))).trans (hHeld.2.2.1)
            have HS3_:=(hb.cell (World.block_lt_of_cell? _ _ (hHeld.2.2.2.1))).trans (hHeld.2.2.2.1)
            have HS4_:=(hb.cell (World.block_lt_of_cell? _ _ (hHeld.2.2.2.2))).trans (hHeld.2.2.2.2)
            have n0_:=Aside0.mk (Kd.R_below (by (with_reducible repeat (first|apply Kd.R_alloc|apply Kd.R_drewN|apply Kd.R_drew));exact HO_4.out) hb)
            have n1_:=Aside0.mk (Kd.R_below (by (with_reducible repeat (first|apply Kd.R_alloc|apply Kd.R_drewN|apply Kd.R_drew));exact HO570.out) hb)
            have n2_:=Aside0.mk (Kd.R_below (by (with_reducible repeat (first|apply Kd.R_alloc|apply Kd.R_drewN|apply Kd.R_drew));exact HO578.out) hb)
            have n3_:=Aside0.mk (blk_below (g:=gb563) (o:=.cells #[.int .i64 0,.int .i64 0,.int .i64 0,.bool false,.int .i64 0] 63 (0,0)) (by (with_reducible repeat (first|refine blk_drewN ?_ _|refine blk_drew ?_|refine blk_alloc ?_ _));exact BK563.out) hb)
            have n4_:=Aside0.mk (Kd.C_below (by repeat (first|(with_reducible exact HR574.out)|(with_reducible refine Kd.C_alloc ?_ _)|(with_reducible refine Kd.C_drewN ?_ _)|(with_reducible refine Kd.C_drew ?_)|exact HR574.out)) hb)
            have n5_:=Aside0.mk (below_step (by repeat (first|(with_reducible first|exact HB.out|apply below_alloc|apply pw_below_drewN|apply below_drew1|refine below_set ?_ GE563.out)|exact HB.out)) hb)
            have n6_:=Aside0.mk (hbox)
            have n7_:=Aside0.mk ((by rw [hg];exact (below_size (by repeat (first|(with_reducible first|exact HB.out|apply below_alloc|apply pw_below_drewN|apply below_drew1|refine below_set ?_ GE563.out)|exact HB.out))):w.heap.size≤gb585))
            have n8_:=Aside0.mk ((by rw [hg];exact (below_size (by repeat (first|(with_reducible first|exact HB.out|apply below_alloc|apply pw_below_drewN|apply below_drew1|refine below_set ?_ GE563.out)|exact HB.out))):w.heap.size≤gb585))
            have n9_:=Aside0.mk ((by rw [hg];exact Nat.ne_of_lt (blk_lt (g:=gb563) (o:=.cells #[.int .i64 0,.int .i64 0,.int .i64 0,.bool false,.int .i64 0] 63 (0,0)) (by (with_reducible repeat (first|refine blk_drewN ?_ _|refine blk_drew ?_|refine blk_alloc ?_ _));exact BK563.out)):gb563≠gb585))
            have n10_:=Aside0.mk ((by rw [hg];exact Nat.ne_of_gt (blk_lt (g:=gb563) (o:=.cells #[.int .i64 0,.int .i64 0,.int .i64 0,.bool false,.int .i64 0] 63 (0,0)) (by (with_reducible repeat (first|refine blk_drewN ?_ _|refine blk_drew ?_|refine blk_alloc ?_ _));exact BK563.out)):gb585≠gb563))
            clear HO_4 HO570 HO578 BK563 HR574 HB
            have HO_4:=n0_
            have HO570:=n1_
            have HO578:=n2_
            have BK563:=n3_
            have HR574:=n4_
            have HB:=n5_
            have BK585:=n6_
            have GW585:=n7_
            have GE585:=n8_
            have NB563_585:=n9_
            have NB585_563:=n10_
            clear n0_ n1_ n2_ n3_ n4_ n5_ n6_ n7_ n8_ n9_ n10_ hb hbox hg
            refine hK.out _ _ ⟨HS0_,HS1_,HS2_,HS3_,HS4_⟩ (fun hHeld=>?_)
            clear hK K
            refine norm_ (a':=?_) ?_ ?_
            rotate_left
            ·show Act.put _ (some 8) _=_
             simp only [Act.put,List.setIfInBounds_toArray,List.set_cons_zero,List.set_cons_succ,i64_w,i32_w]
             rfl
            refine one_ (i:=23) (N:=none) #[true,true,true,true,true,true,true,true,true,true,true,true,true,true,true,true,true,true,true,true,true,true,true,true] rfl rfl (one_of HT_.out (by kernel_rfl)) (by decide) (fun K hK=>?_)
            have hs80:w79.cell? ⟨gb585,0,none⟩=some (.int .i64 0):=(blk_cell BK585.out 0).trans rfl
            have hfs80:=blk_frozen BK585.out 0
            have hns80_0:=NB563_585.out
            have hms80_0:=NB585_563.out
            have hs81:w79.cell? ⟨gb585,1,none⟩=some (.int .i64 0):=(blk_cell BK585.out 1).trans rfl
            have hfs81:=blk_frozen BK585.out 1
            have hns81_0:=NB563_585.out
            have hms81_0:=NB585_563.out
            have hs82:w79.cell? ⟨gb585,2,none⟩=some (.int .i64 0):=(blk_cell BK585.out 2).trans rfl
            have hfs82:=blk_frozen BK585.out 2
            have hns82_0:=NB563_585.out
            have hms82_0:=NB585_563.out
            have hs83:w79.cell? ⟨gb585,3,none⟩=some (.bool false):=(blk_cell BK585.out 3).trans rfl
            have hfs83:=blk_frozen BK585.out 3
            have hns83_0:=NB563_585.out
            have hms83_0:=NB585_563.out
            have hs84:w79.cell? ⟨gb585,4,none⟩=some (.int .i64 0):=(blk_cell BK585.out 4).trans rfl
            have hfs84:=blk_frozen BK585.out 4
            have hns84_0:=NB563_585.out
            have hms84_0:=NB585_563.out
            refine skip_ (w1:=?_) (by rfl) rfl ?_ ?_
            rotate_left
            ·go_simp
             rfl
            have NEF0_:=Kd.own_blk (Kd.R_ne HO578.out BK585.out (by decide))
            refine hK.out _ _ ⟨?_,?_,?_,?_,?_⟩ ?_
            ·exact ((Go.Proofs.Ytbdnmdmfnopihaa.Sem.far5 (g:=gb585) (by first|exact NEF0_|(rw [add_block];exact NEF0_))).trans (hHeld.1))
            ·exact ((Go.Proofs.Ytbdnmdmfnopihaa.Sem.far5 (g:=gb585) (by first|exact NEF0_|(rw [add_block];exact NEF0_))).trans (hHeld.2.1))
            ·exact ((Go.Proofs.Ytbdnmdmfnopihaa.Sem.far5 (g:=gb585) (by first|exact NEF0_|(rw [add_block];exact NEF0_))).trans (hHeld.2.2.1))
            ·exact ((Go.Proofs.Ytbdnmdmfnopihaa.Sem.far5 (g:=gb585) (by first|exact NEF0_|(rw [add_block];exact NEF0_))).trans (hHeld.2.2.2.1))
            ·exact ((Go.Proofs.Ytbdnmdmfnopihaa.Sem.far5 (g:=gb585) (by first|exact NEF0_|(rw [add_block];exact NEF0_))).trans (hHeld.2.2.2.2))
            intro hHeld
            clear hK K
            refine done_ (done_of HT_.out (by kernel_rfl)) ?_
            have hnb85:=NB585_563.out
            have hnc85:=NB563_585.out
            have hcz86_0:w79.cell? ⟨gb585,0,none⟩=some (.int .i64 0):=(blk_cell BK585.out 0).trans rfl
            have hcz86_1:w79.cell? ⟨gb585,1,none⟩=some (.int .i64 0):=(blk_cell BK585.out 1).trans rfl
            have hcz86_2:w79.cell? ⟨gb585,2,none⟩=some (.int .i64 0):=(blk_cell BK585.out 2).trans rfl
            have hcz86_3:w79.cell? ⟨gb585,3,none⟩=some (.bool false):=(blk_cell BK585.out 3).trans rfl
            have hcz86_4:w79.cell? ⟨gb585,4,none⟩=some (.int .i64 0):=(blk_cell BK585.out 4).trans rfl
            have hfz86_0:=blk_frozen BK585.out 0
            have hfz86_1:=blk_frozen BK585.out 1
            have hfz86_2:=blk_frozen BK585.out 2
            have hfz86_3:=blk_frozen BK585.out 3
            have hfz86_4:=blk_frozen BK585.out 4
            try go_wp2_with (first|((with_reducible refine gate_callee (f:=41) rfl ?_);refine goesL_ (some 59) rfl rfl Try.func41 (by kernel_rfl) rfl #[.agg #[.int .i64 (wrap64 (rd t575 1)),.int .i64 (wrap64 (rd t575 2)),.int .i64 (wrap64 (rd t575 4)),.bool ((rd t575 3) == 1),.int .i64 (wrap64 (rd t575 5))]] rfl (by (try simp only [List.map_toArray,List.map_cons,List.map_nil]);first|done|rfl|(simp only [List.length_drop,List.length_take];rfl)) ?_;(with_reducible refine (slipwayref11_EncodeSuper.calls kj2 (wrap64 (rd t575 1)) (wrap64 (rd t575 2)) (wrap64 (rd t575 4)) ((rd t575 3) == 1) (wrap64 (rd t575 5)) t586 t589 _ A27.out).mono ?_);rintro e w87 ⟨v587,rfl,ho0,hb⟩;refine ⟨_,rfl,?_⟩;have n0_:=Aside0.mk (Kd.R_elder' (by (with_reducible repeat (first|apply Kd.R_alloc|apply Kd.R_drewN|apply Kd.R_drew));exact (Kd.R_mono (Kd.R_far (p:=⟨gb585,4,none⟩) (Kd.R_far (p:=⟨gb585,3,none⟩) (Kd.R_far (p:=⟨gb585,2,none⟩) (Kd.R_far (p:=⟨gb585,1,none⟩) (Kd.R_far (p:=⟨gb585,0,none⟩) (Kd.R_types HO_4.out BK585.out (by decide)) (fun _ hk=>hk.2) (.int .i64 (wrap64 (rd t575 1)))) (fun _ hk=>hk.2) (.int .i64 (wrap64 (rd t575 2)))) (fun _ hk=>hk.2) (.int .i64 (wrap64 (rd t575 4)))) (fun _ hk=>hk.2) (.bool ((rd t575 3) == 1))) (fun _ hk=>hk.2) (.int .i64 (wrap64 (rd t575 5)))) (fun _ h_=>h_.1))) (Kd.R_base ho0) hb);have n1_:=Aside0.mk (Kd.R_below (by (with_reducible repeat (first|apply Kd.R_alloc|apply Kd.R_drewN|apply Kd.R_drew));exact (Kd.R_mono (Kd.R_far (p:=⟨gb585,4,none⟩) (Kd.R_far (p:=⟨gb585,3,none⟩) (Kd.R_far (p:=⟨gb585,2,none⟩) (Kd.R_far (p:=⟨gb585,1,none⟩) (Kd.R_far (p:=⟨gb585,0,none⟩) (Kd.R_types HO570.out BK585.out (by decide)) (fun _ hk=>hk.2) (.int .i64 (wrap64 (rd t575 1)))) (fun _ hk=>hk.2) (.int .i64 (wrap64 (rd t575 2)))) (fun _ hk=>hk.2) (.int .i64 (wrap64 (rd t575 4)))) (fun _ hk=>hk.2) (.bool ((rd t575 3) == 1))) (fun _ hk=>hk.2) (.int .i64 (wrap64 (rd t575 5)))) (fun _ h_=>h_.1))) hb);have n2_:=Aside0.mk (Kd.R_below (by (with_reducible repeat (first|apply Kd.R_alloc|apply Kd.R_drewN|apply Kd.R_drew));exact (Kd.R_mono (Kd.R_far (p:=⟨gb585,4,none⟩) (Kd.R_far (p:=⟨gb585,3,none⟩) (Kd.R_far (p:=⟨gb585,2,none⟩) (Kd.R_far (p:=⟨gb585,1,none⟩) (Kd.R_far (p:=⟨gb585,0,none⟩) (Kd.R_types HO578.out BK585.out (by decide)) (fun _ hk=>hk.2) (.int .i64 (wrap64 (rd t575 1)))) (fun _ hk=>hk.2) (.int .i64 (wrap64 (rd t575 2)))) (fun _ hk=>hk.2) (.int .i64 (wrap64 (rd t575 4)))) (fun _ hk=>hk.2) (.bool ((rd t575 3) == 1))) (fun _ hk=>hk.2) (.int .i64 (wrap64 (rd t575 5)))) (fun _ h_=>h_.1))) hb);have n3_:=Aside0.mk (Kd.R_lower (Kd.R_new' ho0 (Kd.R_lt (by (with_reducible repeat (first|apply Kd.R_alloc|apply Kd.R_drewN|apply Kd.R_drew));exact (Kd.R_mono (Kd.R_far (p:=⟨gb585,4,none⟩) (Kd.R_far (p:=⟨gb585,3,none⟩) (Kd.R_far (p:=⟨gb585,2,none⟩) (Kd.R_far (p:=⟨gb585,1,none⟩) (Kd.R_far (p:=⟨gb585,0,none⟩) (Kd.R_types HO_4.out BK585.out (by decide)) (fun _ hk=>hk.2) (.int .i64 (wrap64 (rd t575 1)))) (fun _ hk=>hk.2) (.int .i64 (wrap64 (rd t575 2)))) (fun _ hk=>hk.2) (.int .i64 (wrap64 (rd t575 4)))) (fun _ hk=>hk.2) (.bool ((rd t575 3) == 1))) (fun _ hk=>hk.2) (.int .i64 (wrap64 (rd t575 5)))) (fun _ h_=>h_.1))))) (below_size (by repeat (first|(with_reducible first|exact HB.out|apply below_alloc|apply pw_below_drewN|apply below_drew1|refine below_set ?_ GE563.out|refine below_set ?_ GE585.out)|exact HB.out))));have n4_:=Aside0.mk (blk_below (g:=gb563) (o:=.cells #[.int .i64 0,.int .i64 0,.int .i64 0,.bool false,.int .i64 0] 63 (0,0)) (by (with_reducible repeat (first|refine blk_drewN ?_ _|refine blk_drew ?_|refine blk_alloc ?_ _));refine blk_far ?_ NB563_585.out _;(with_reducible repeat (first|refine blk_drewN ?_ _|refine blk_drew ?_|refine blk_alloc ?_ _));refine blk_far ?_ NB563_585.out _;(with_reducible repeat (first|refine blk_drewN ?_ _|refine blk_drew ?_|refine blk_alloc ?_ _));refine blk_far ?_ NB563_585.out _;(with_reducible repeat (first|refine blk_drewN ?_ _|refine blk_drew ?_|refine blk_alloc ?_ _));refine blk_far ?_ NB563_585.out _;(with_reducible repeat (first|refine blk_drewN ?_ _|refine blk_drew ?_|refine blk_alloc ?_ _));refine blk_far ?_ NB563_585.out _;(with_reducible repeat (first|refine blk_drewN ?_ _|refine blk_drew ?_|refine blk_alloc ?_ _));exact BK563.out) hb);have n5_:=Aside0.mk (blk_below (g:=gb585) (o:=.cells #[.int .i64 (wrap64 (rd t575 1)),.int .i64 (wrap64 (rd t575 2)),.int .i64 (wrap64 (rd t575 4)),.bool ((rd t575 3) == 1),.int .i64 (wrap64 (rd t575 5))] 63 (0,0)) (by (with_reducible repeat (first|refine blk_drewN ?_ _|refine blk_drew ?_|refine blk_alloc ?_ _));refine blk_put (cs:=#[.int .i64 (wrap64 (rd t575 1)),.int .i64 (wrap64 (rd t575 2)),.int .i64 (wrap64 (rd t575 4)),.bool ((rd t575 3) == 1),.int .i64 0]) ?_ 4 _ rfl;(with_reducible repeat (first|refine blk_drewN ?_ _|refine blk_drew ?_|refine blk_alloc ?_ _));refine blk_put (cs:=#[.int .i64 (wrap64 (rd t575 1)),.int .i64 (wrap64 (rd t575 2)),.int .i64 (wrap64 (rd t575 4)),.bool false,.int .i64 0]) ?_ 3 _ rfl;(with_reducible repeat (first|refine blk_drewN ?_ _|refine blk_drew ?_|refine blk_alloc ?_ _));refine blk_put (cs:=#[.int .i64 (wrap64 (rd t575 1)),.int .i64 (wrap64 (rd t575 2)),.int .i64 0,.bool false,.int .i64 0]) ?_ 2 _ rfl;(with_reducible repeat (first|refine blk_drewN ?_ _|refine blk_drew ?_|refine blk_alloc ?_ _));refine blk_put (cs:=#[.int .i64 (wrap64 (rd t575 1)),.int .i64 0,.int .i64 0,.bool false,.int .i64 0]) ?_ 1 _ rfl;(with_reducible repeat (first|refine blk_drewN ?_ _|refine blk_drew ?_|refine blk_alloc ?_ _));refine blk_put (cs:=#[.int .i64 0,.int .i64 0,.int .i64 0,.bool false,.int .i64 0]) ?_ 0 _ rfl;(with_reducible repeat (first|refine blk_drewN ?_ _|refine blk_drew ?_|refine blk_alloc ?_ _));exact BK585.out) hb);have n6_:=Aside0.mk (below_step (by repeat (first|(with_reducible first|exact HB.out|apply below_alloc|apply pw_below_drewN|apply below_drew1|refine below_set ?_ GE563.out|refine below_set ?_ GE585.out)|exact HB.out)) hb);have n7_:=Aside0.mk ((show Kd.C (Kd.int .u8) w87 Ao73 y571.length y571 from by rw [Ny571.out];exact Kd.C_take (m:=23) ((Kd.R_reads' n0_.out).2.2) KL72.out));clear HO_4 HO570 HO578 BK563 BK585 HB HR574;have HO_4:=n0_;have HO570:=n1_;have HO578:=n2_;have HO588:=n3_;have BK563:=n4_;have BK585:=n5_;have HB:=n6_;have HR574:=n7_;clear n0_ n1_ n2_ n3_ n4_ n5_ n6_ n7_;(try clear hb);(try clear hb2);(try clear hk);(try clear hi);(try clear ho0);have hcz88_0:w87.cell? ⟨gb563,0,none⟩=some (.int .i64 0):=(blk_cell BK563.out 0).trans rfl;have hcz88_1:w87.cell? ⟨gb563,1,none⟩=some (.int .i64 0):=(blk_cell BK563.out 1).trans rfl;have hcz88_2:w87.cell? ⟨gb563,2,none⟩=some (.int .i64 0):=(blk_cell BK563.out 2).trans rfl;have hcz88_3:w87.cell? ⟨gb563,3,none⟩=some (.bool false):=(blk_cell BK563.out 3).trans rfl;have hcz88_4:w87.cell? ⟨gb563,4,none⟩=some (.int .i64 0):=(blk_cell BK563.out 4).trans rfl;have hfz88_0:=blk_frozen BK563.out 0;have hfz88_1:=blk_frozen BK563.out 1;have hfz88_2:=blk_frozen BK563.out 2;have hfz88_3:=blk_frozen BK563.out 3;have hfz88_4:=blk_frozen BK563.out 4))
            refine bodyPost_ret (results_ct rfl _ _ gb563 63 #[.int .i64 0,.int .i64 0,.int .i64 0,.bool false,.int .i64 0] (0,0) _ rfl (by (with_reducible repeat (first|refine blk_drewN ?_ _|refine blk_drew ?_|refine blk_alloc ?_ _));refine blk_put (cs:=#[.int .i64 0,.int .i64 0,.int .i64 0,.bool false,.int .i64 0]) ?_ 4 _ rfl;(with_reducible repeat (first|refine blk_drewN ?_ _|refine blk_drew ?_|refine blk_alloc ?_ _));refine blk_put (cs:=#[.int .i64 0,.int .i64 0,.int .i64 0,.bool false,.int .i64 0]) ?_ 3 _ rfl;(with_reducible repeat (first|refine blk_drewN ?_ _|refine blk_drew ?_|refine blk_alloc ?_ _));refine blk_put (cs:=#[.int .i64 0,.int .i64 0,.int .i64 0,.bool false,.int .i64 0]) ?_ 2 _ rfl;(with_reducible repeat (first|refine blk_drewN ?_ _|refine blk_drew ?_|refine blk_alloc ?_ _));refine blk_put (cs:=#[.int .i64 0,.int .i64 0,.int .i64 0,.bool false,.int .i64 0]) ?_ 1 _ rfl;(with_reducible repeat (first|refine blk_drewN ?_ _|refine blk_drew ?_|refine blk_alloc ?_ _));refine blk_put (cs:=#[.int .i64 0,.int .i64 0,.int .i64 0,.bool false,.int .i64 0]) ?_ 0 _ rfl;(with_reducible repeat (first|refine blk_drewN ?_ _|refine blk_drew ?_|refine blk_alloc ?_ _));exact BK563.out) Try.underlying63 rfl (by kernel_rfl)) rfl ?_
            exact ⟨by first|rfl|(simp [errW_none,errW_some] <;> rfl)|(simp [*,errW_none,errW_some] <;> rfl),by repeat (first|(with_reducible first|exact HB.out|apply below_alloc|apply pw_below_drewN|apply below_drew1|refine below_set ?_ GE563.out|refine below_set ?_ GE585.out)|exact HB.out)⟩
          ·rw [if_neg c26] at H
           exact absurd H (by simp)
         ·rw [if_neg c25] at H
          exact absurd H (by simp)
        ·rw [if_neg c24] at H
         exact absurd H (by simp)
       ·rw [if_neg c23] at H
        exact absurd H (by simp)
     ·rw [if_neg c13] at H
      exact absurd H (by simp)
    ·rw [if_neg c11] at H
     exact absurd H (by simp)
end Go.Proofs.Ytbdnmdmfnopihaa.Print
end
section
namespace Go.Proofs.Ytbdnmdmfnopihaa.Print
open Go.RowKit Go.Proofs.YtbdnmdmfnopihaaW.PrintWords Go.Proofs.YtbdnmdmfnopihaaW.PrintLast Go.Proofs.YtbdnmdmfnopihaaW.PrintMore
attribute [local go_sem] max2_int min2_int max_two min_two max_three min_three max_four min_four   -- for this text's walks alone
attribute [local go_sem ↓] Go.Proofs.Ytbdnmdmfnopihaa.Sem.isSome_setCell
attribute [local go_sem] Go.Instr.field Go.asAgg
set_option linter.unusedVariables false
set_option linter.unusedSimpArgs false
attribute [local go_sem high] eqA63
def slipwaylaw11_LayoutSupers.f (k:Nat) (a0_0:Int) (a0_1:Int) (a0_2:Int) (a0_3:Bool) (a0_4:Int) (l1:List Int):Option (Bool):=(slipwaylaw11_live.f k).bind fun t591=>(if t591=true then ((layout_EncodeSuper.f k a0_0 a0_1 a0_2 a0_3 a0_4).bind fun bt592=>((slipwayref11_EncodeSuper.f k a0_0 a0_1 a0_2 a0_3 a0_4).bind fun bt596=>((layout_DecodeSuper.f k l1).bind fun bt600=>((slipwayref11_DecodeSuper.f k l1).bind fun bt607=>((bytes_Equal.f bt592.1 bt596.1).bind fun t614=>(if t614=true then (if bt592.2=bt596.2 then (if ((bt600.1 == bt607.1 && (bt600.2.1 == bt607.2.1)) && (bt600.2.2.1 == bt607.2.2.1 && (bt600.2.2.2.1 == bt607.2.2.2.1 && (bt600.2.2.2.2.1 == bt607.2.2.2.2.1))))=true then (some (bt600.2.2.2.2.2 == bt607.2.2.2.2.2)) else (none)) else (none)) else (none))))))) else (none))
set_option maxHeartbeats 8000000 in
set_option maxRecDepth 100000 in
theorem slipwaylaw11_LayoutSupers.calls (k:Nat) (a0_0:Int) (a0_1:Int) (a0_2:Int) (a0_3:Bool) (a0_4:Int) (A1:Option Addr) (c1:Nat) (l1:List Int) (r:Bool) (w:World) (hr1:Kd.C (Kd.int .u8) w A1 l1.length l1) (hc1:l1.length≤c1) (h:slipwaylaw11_LayoutSupers.f k a0_0 a0_1 a0_2 a0_3 a0_4 l1=some r) :
  Calls Try.prog 8 #[.agg #[.int .i64 a0_0,.int .i64 a0_1,.int .i64 a0_2,.bool a0_3,.int .i64 a0_4],.slice A1 l1.length c1] w fun e w'=>e=.returned (.bool r)∧Below w.heap.size w w':=by
 have hu63:=Try.underlying63
 have HR1:=Aside0.mk hr1
 have HC1:=Aside0.mk hc1
 clear hr1 hc1
 have HB:=Aside0.mk (Below.refl w.heap.size w)
 have H:((slipwaylaw11_live.f k).bind fun t591=>(if t591=true then ((layout_EncodeSuper.f k a0_0 a0_1 a0_2 a0_3 a0_4).bind fun bt592=>((slipwayref11_EncodeSuper.f k a0_0 a0_1 a0_2 a0_3 a0_4).bind fun bt596=>((layout_DecodeSuper.f k l1).bind fun bt600=>((slipwayref11_DecodeSuper.f k l1).bind fun bt607=>((bytes_Equal.f bt592.1 bt596.1).bind fun t614=>(if t614=true then (if bt592.2=bt596.2 then (if ((bt600.1 == bt607.1 && (bt600.2.1 == bt607.2.1)) && (bt600.2.2.1 == bt607.2.2.1 && (bt600.2.2.2.1 == bt607.2.2.2.1 && (bt600.2.2.2.2.1 == bt607.2.2.2.2.1))))=true then (some (bt600.2.2.2.2.2 == bt607.2.2.2.2.2)) else (none)) else (none)) else (none))))))) else (none)))=some r:=h
 clear h
 replace H:=Option.bind_eq_some_iff.mp H
 obtain ⟨t591,A30,H⟩:=H
 replace H:(if t591=true then ((layout_EncodeSuper.f k a0_0 a0_1 a0_2 a0_3 a0_4).bind fun bt592=>((slipwayref11_EncodeSuper.f k a0_0 a0_1 a0_2 a0_3 a0_4).bind fun bt596=>((layout_DecodeSuper.f k l1).bind fun bt600=>((slipwayref11_DecodeSuper.f k l1).bind fun bt607=>((bytes_Equal.f bt592.1 bt596.1).bind fun t614=>(if t614=true then (if bt592.2=bt596.2 then (if ((bt600.1 == bt607.1 && (bt600.2.1 == bt607.2.1)) && (bt600.2.2.1 == bt607.2.2.1 && (bt600.2.2.2.1 == bt607.2.2.2.1 && (bt600.2.2.2.2.1 == bt607.2.2.2.2.1))))=true then (some (bt600.2.2.2.2.2 == bt607.2.2.2.2.2)) else (none)) else (none)) else (none))))))) else (none))=some r:=H
 have A3:=Aside0.mk A30
 clear A30
 by_cases c4:t591=true
 ·subst c4
  have H1:((layout_EncodeSuper.f k a0_0 a0_1 a0_2 a0_3 a0_4).bind fun bt592=>((slipwayref11_EncodeSuper.f k a0_0 a0_1 a0_2 a0_3 a0_4).bind fun bt596=>((layout_DecodeSuper.f k l1).bind fun bt600=>((slipwayref11_DecodeSuper.f k l1).bind fun bt607=>((bytes_Equal.f bt592.1 bt596.1).bind fun t614=>(if t614=true then (if bt592.2=bt596.2 then (if ((bt600.1 == bt607.1 && (bt600.2.1 == bt607.2.1)) && (bt600.2.2.1 == bt607.2.2.1 && (bt600.2.2.2.1 == bt607.2.2.2.1 && (bt600.2.2.2.2.1 == bt607.2.2.2.2.1))))=true then (some (bt600.2.2.2.2.2 == bt607.2.2.2.2.2)) else (none)) else (none)) else (none)))))))=some r:=by rw [if_pos rfl] at H;exact H
  clear H
  have H:=H1
  clear H1
  replace H:=Option.bind_eq_some_iff.mp H
  obtain ⟨⟨t592,t595⟩,A50,H⟩:=H
  replace H:((slipwayref11_EncodeSuper.f k a0_0 a0_1 a0_2 a0_3 a0_4).bind fun bt596=>((layout_DecodeSuper.f k l1).bind fun bt600=>((slipwayref11_DecodeSuper.f k l1).bind fun bt607=>((bytes_Equal.f t592 bt596.1).bind fun t614=>(if t614=true then (if t595=bt596.2 then (if ((bt600.1 == bt607.1 && (bt600.2.1 == bt607.2.1)) && (bt600.2.2.1 == bt607.2.2.1 && (bt600.2.2.2.1 == bt607.2.2.2.1 && (bt600.2.2.2.2.1 == bt607.2.2.2.2.1))))=true then (some (bt600.2.2.2.2.2 == bt607.2.2.2.2.2)) else (none)) else (none)) else (none))))))=some r:=H
  have A5:=Aside0.mk A50
  clear A50
  replace H:=Option.bind_eq_some_iff.mp H
  obtain ⟨⟨t596,t599⟩,A60,H⟩:=H
  replace H:((layout_DecodeSuper.f k l1).bind fun bt600=>((slipwayref11_DecodeSuper.f k l1).bind fun bt607=>((bytes_Equal.f t592 t596).bind fun t614=>(if t614=true then (if t595=t599 then (if ((bt600.1 == bt607.1 && (bt600.2.1 == bt607.2.1)) && (bt600.2.2.1 == bt607.2.2.1 && (bt600.2.2.2.1 == bt607.2.2.2.1 && (bt600.2.2.2.2.1 == bt607.2.2.2.2.1))))=true then (some (bt600.2.2.2.2.2 == bt607.2.2.2.2.2)) else (none)) else (none)) else (none)))))=some r:=H
  have A6:=Aside0.mk A60
  clear A60
  replace H:=Option.bind_eq_some_iff.mp H
  obtain ⟨⟨t600,t601,t602,t603,t604,t605⟩,A70,H⟩:=H
  replace H:((slipwayref11_DecodeSuper.f k l1).bind fun bt607=>((bytes_Equal.f t592 t596).bind fun t614=>(if t614=true then (if t595=t599 then (if ((t600 == bt607.1 && (t601 == bt607.2.1)) && (t602 == bt607.2.2.1 && (t603 == bt607.2.2.2.1 && (t604 == bt607.2.2.2.2.1))))=true then (some (t605 == bt607.2.2.2.2.2)) else (none)) else (none)) else (none))))=some r:=H
  have A7:=Aside0.mk A70
  clear A70
  replace H:=Option.bind_eq_some_iff.mp H
  obtain ⟨⟨t607,t608,t609,t610,t611,t612⟩,A80,H⟩:=H
  replace H:((bytes_Equal.f t592 t596).bind fun t614=>(if t614=true then (if t595=t599 then (if ((t600 == t607 && (t601 == t608)) && (t602 == t609 && (t603 == t610 && (t604 == t611))))=true then (some (t605 == t612)) else (none)) else (none)) else (none)))=some r:=H
  have A8:=Aside0.mk A80
  clear A80
  replace H:=Option.bind_eq_some_iff.mp H
  obtain ⟨t614,A90,H⟩:=H
  replace H:(if t614=true then (if t595=t599 then (if ((t600 == t607 && (t601 == t608)) && (t602 == t609 && (t603 == t610 && (t604 == t611))))=true then (some (t605 == t612)) else (none)) else (none)) else (none))=some r:=H
  have A9:=Aside0.mk A90
  clear A90
  by_cases c10:t614=true
  ·subst c10
   have H1:(if t595=t599 then (if ((t600 == t607 && (t601 == t608)) && (t602 == t609 && (t603 == t610 && (t604 == t611))))=true then (some (t605 == t612)) else (none)) else (none))=some r:=by rw [if_pos rfl] at H;exact H
   clear H
   have H:=H1
   clear H1
   by_cases c11:t595=t599
   ·rw [if_pos c11] at H
    have c11b0:(t595 == t599)=true:=beq_iff_eq.mpr c11
    have c11b1:(t595 != t599)=false:=bne_eq_false_iff_eq.mpr c11
    clear c11
    by_cases c12:((t600 == t607 && (t601 == t608)) && (t602 == t609 && (t603 == t610 && (t604 == t611))))=true
    ·rw [if_pos c12] at H
     have c12b0:((t600 == t607 && (t601 == t608)) && (t602 == t609 && (t603 == t610 && (t604 == t611))))=true:=c12
     clear c12
     obtain rfl:=Option.some.inj H
     go_enter Try.func8,Try.ntmps8
     go_wp2_with (first|((with_reducible refine gate_dst (N:=2) rfl ?_);refine box_event ?hg (N:=2) ?hd (cs:=#[.int .i64 a0_0,.int .i64 a0_1,.int .i64 a0_2,.bool a0_3,.int .i64 a0_4]) (t:=63) ?hr ?_;(case hd=>rfl);(case hg=>rfl);(case hr=>first|(go_simp;done)|(go_simp;rfl));intro gb590 hg w13 hbox hb;have n0_:=Aside0.mk (below_step (by repeat (first|(with_reducible first|exact HB.out|apply below_alloc|apply pw_below_drewN|apply below_drew1)|exact HB.out)) hb);have n1_:=Aside0.mk (hbox);have n2_:=Aside0.mk ((by rw [hg];exact (below_size (by repeat (first|(with_reducible first|exact HB.out|apply below_alloc|apply pw_below_drewN|apply below_drew1)|exact HB.out))):w.heap.size≤gb590));have n3_:=Aside0.mk ((by rw [hg];exact (below_size (by repeat (first|(with_reducible first|exact HB.out|apply below_alloc|apply pw_below_drewN|apply below_drew1)|exact HB.out))):w.heap.size≤gb590));clear HB;have HB:=n0_;have BK590:=n1_;have GW590:=n2_;have GE590:=n3_;clear n0_ n1_ n2_ n3_;clear hb hbox hg)|((with_reducible refine gate_callee (f:=10) rfl ?_);refine goesL_ (some 13) rfl rfl Try.func10 (by kernel_rfl) rfl #[] rfl (by (try simp only [List.map_toArray,List.map_cons,List.map_nil]);first|done|rfl|(simp only [List.length_drop,List.length_take];rfl)) ?_;(with_reducible refine (slipwaylaw11_live.calls k  true _ A3.out).mono ?_);rintro e w14 ⟨rfl,hb⟩;refine ⟨_,rfl,?_⟩;have n0_:=Aside0.mk (blk_below (g:=gb590) (o:=.cells #[.int .i64 a0_0,.int .i64 a0_1,.int .i64 a0_2,.bool a0_3,.int .i64 a0_4] 63 (0,0)) (by (with_reducible repeat (first|refine blk_drewN ?_ _|refine blk_drew ?_|refine blk_alloc ?_ _));exact BK590.out) hb);have n1_:=Aside0.mk (below_step (by repeat (first|(with_reducible first|exact HB.out|apply below_alloc|apply pw_below_drewN|apply below_drew1|refine below_set ?_ GE590.out)|exact HB.out)) hb);clear BK590 HB;have BK590:=n0_;have HB:=n1_;clear n0_ n1_;(try clear hb);(try clear hb2);(try clear hk);(try clear hi);have hcz15_0:w14.cell? ⟨gb590,0,none⟩=some (.int .i64 a0_0):=(blk_cell BK590.out 0).trans rfl;have hcz15_1:w14.cell? ⟨gb590,1,none⟩=some (.int .i64 a0_1):=(blk_cell BK590.out 1).trans rfl;have hcz15_2:w14.cell? ⟨gb590,2,none⟩=some (.int .i64 a0_2):=(blk_cell BK590.out 2).trans rfl;have hcz15_3:w14.cell? ⟨gb590,3,none⟩=some (.bool a0_3):=(blk_cell BK590.out 3).trans rfl;have hcz15_4:w14.cell? ⟨gb590,4,none⟩=some (.int .i64 a0_4):=(blk_cell BK590.out 4).trans rfl;have hfz15_0:=blk_frozen BK590.out 0;have hfz15_1:=blk_frozen BK590.out 1;have hfz15_2:=blk_frozen BK590.out 2;have hfz15_3:=blk_frozen BK590.out 3;have hfz15_4:=blk_frozen BK590.out 4)|((with_reducible refine gate_callee (f:=40) rfl ?_);refine goesL_ (some 17) rfl rfl Try.func40 (by kernel_rfl) rfl #[.agg #[.int .i64 a0_0,.int .i64 a0_1,.int .i64 a0_2,.bool a0_3,.int .i64 a0_4]] rfl (by (try simp only [List.map_toArray,List.map_cons,List.map_nil]);first|done|rfl|(simp only [List.length_drop,List.length_take];rfl)) ?_;(with_reducible refine (layout_EncodeSuper.calls k a0_0 a0_1 a0_2 a0_3 a0_4 t592 t595 _ A5.out).mono ?_);rintro e w16 ⟨v593,rfl,ho0,hb⟩;refine ⟨_,rfl,?_⟩;have n0_:=Aside0.mk (Kd.R_lower ho0 (below_size (by repeat (first|(with_reducible first|exact HB.out|apply below_alloc|apply pw_below_drewN|apply below_drew1|refine below_set ?_ GE590.out)|exact HB.out))));have n1_:=Aside0.mk (blk_below (g:=gb590) (o:=.cells #[.int .i64 a0_0,.int .i64 a0_1,.int .i64 a0_2,.bool a0_3,.int .i64 a0_4] 63 (0,0)) (by (with_reducible repeat (first|refine blk_drewN ?_ _|refine blk_drew ?_|refine blk_alloc ?_ _));exact BK590.out) hb);have n2_:=Aside0.mk (below_step (by repeat (first|(with_reducible first|exact HB.out|apply below_alloc|apply pw_below_drewN|apply below_drew1|refine below_set ?_ GE590.out)|exact HB.out)) hb);clear BK590 HB;have HO594:=n0_;have BK590:=n1_;have HB:=n2_;clear n0_ n1_ n2_;(try clear hb);(try clear hb2);(try clear hk);(try clear hi);(try clear ho0);have hcz17_0:w16.cell? ⟨gb590,0,none⟩=some (.int .i64 a0_0):=(blk_cell BK590.out 0).trans rfl;have hcz17_1:w16.cell? ⟨gb590,1,none⟩=some (.int .i64 a0_1):=(blk_cell BK590.out 1).trans rfl;have hcz17_2:w16.cell? ⟨gb590,2,none⟩=some (.int .i64 a0_2):=(blk_cell BK590.out 2).trans rfl;have hcz17_3:w16.cell? ⟨gb590,3,none⟩=some (.bool a0_3):=(blk_cell BK590.out 3).trans rfl;have hcz17_4:w16.cell? ⟨gb590,4,none⟩=some (.int .i64 a0_4):=(blk_cell BK590.out 4).trans rfl;have hfz17_0:=blk_frozen BK590.out 0;have hfz17_1:=blk_frozen BK590.out 1;have hfz17_2:=blk_frozen BK590.out 2;have hfz17_3:=blk_frozen BK590.out 3;have hfz17_4:=blk_frozen BK590.out 4)|((with_reducible refine gate_callee (f:=41) rfl ?_);refine goesL_ (some 22) rfl rfl Try.func41 (by kernel_rfl) rfl #[.agg #[.int .i64 a0_0,.int .i64 a0_1,.int .i64 a0_2,.bool a0_3,.int .i64 a0_4]] rfl (by (try simp only [List.map_toArray,List.map_cons,List.map_nil]);first|done|rfl|(simp only [List.length_drop,List.length_take];rfl)) ?_;(with_reducible refine (slipwayref11_EncodeSuper.calls k a0_0 a0_1 a0_2 a0_3 a0_4 t596 t599 _ A6.out).mono ?_);rintro e w18 ⟨v597,rfl,ho0,hb⟩;refine ⟨_,rfl,?_⟩;have n0_:=Aside0.mk (Kd.R_elder' (by (with_reducible repeat (first|apply Kd.R_alloc|apply Kd.R_drewN|apply Kd.R_drew));exact HO594.out) (Kd.R_base ho0) hb);have n1_:=Aside0.mk (Kd.R_lower (Kd.R_new' ho0 (Kd.R_lt (by (with_reducible repeat (first|apply Kd.R_alloc|apply Kd.R_drewN|apply Kd.R_drew));exact HO594.out))) (below_size (by repeat (first|(with_reducible first|exact HB.out|apply below_alloc|apply pw_below_drewN|apply below_drew1|refine below_set ?_ GE590.out)|exact HB.out))));have n2_:=Aside0.mk (blk_below (g:=gb590) (o:=.cells #[.int .i64 a0_0,.int .i64 a0_1,.int .i64 a0_2,.bool a0_3,.int .i64 a0_4] 63 (0,0)) (by (with_reducible repeat (first|refine blk_drewN ?_ _|refine blk_drew ?_|refine blk_alloc ?_ _));exact BK590.out) hb);have n3_:=Aside0.mk (below_step (by repeat (first|(with_reducible first|exact HB.out|apply below_alloc|apply pw_below_drewN|apply below_drew1|refine below_set ?_ GE590.out)|exact HB.out)) hb);clear HO594 BK590 HB;have HO594:=n0_;have HO598:=n1_;have BK590:=n2_;have HB:=n3_;clear n0_ n1_ n2_ n3_;(try clear hb);(try clear hb2);(try clear hk);(try clear hi);(try clear ho0))|((with_reducible refine gate_callee (f:=42) rfl ?_);refine goesL_ (some 27) rfl rfl Try.func42 (by kernel_rfl) rfl #[.slice A1 l1.length c1] rfl (by (try simp only [List.map_toArray,List.map_cons,List.map_nil]);first|done|rfl|(simp only [List.length_drop,List.length_take];rfl)) ?_;(with_reducible refine (layout_DecodeSuper.calls k _ _ l1 t600 t601 t602 t603 t604 t605 _ ?side1 ?side2 A7.out).mono ?_);(case side1=>repeat (first|exact (Kd.C_below HR1.out HB.out)|(with_reducible refine Kd.C_alloc ?_ _)|(with_reducible refine Kd.C_drewN ?_ _)|(with_reducible refine Kd.C_drew ?_)));(case side2=>exact HC1.out);rintro e w19 ⟨rfl,hb⟩;refine ⟨_,rfl,?_⟩;have n0_:=Aside0.mk (Kd.R_below (by (with_reducible repeat (first|apply Kd.R_alloc|apply Kd.R_drewN|apply Kd.R_drew));exact HO594.out) hb);have n1_:=Aside0.mk (Kd.R_below (by (with_reducible repeat (first|apply Kd.R_alloc|apply Kd.R_drewN|apply Kd.R_drew));exact HO598.out) hb);have n2_:=Aside0.mk (blk_below (g:=gb590) (o:=.cells #[.int .i64 a0_0,.int .i64 a0_1,.int .i64 a0_2,.bool a0_3,.int .i64 a0_4] 63 (0,0)) (by (with_reducible repeat (first|refine blk_drewN ?_ _|refine blk_drew ?_|refine blk_alloc ?_ _));exact BK590.out) hb);have n3_:=Aside0.mk (below_step (by repeat (first|(with_reducible first|exact HB.out|apply below_alloc|apply pw_below_drewN|apply below_drew1|refine below_set ?_ GE590.out)|exact HB.out)) hb);clear HO594 HO598 BK590 HB;have HO594:=n0_;have HO598:=n1_;have BK590:=n2_;have HB:=n3_;clear n0_ n1_ n2_ n3_;(try clear hb);(try clear hb2);(try clear hk);(try clear hi))|((with_reducible refine gate_dst (N:=9) rfl ?_);refine box_event ?hg (N:=9) ?hd (cs:=#[.int .i64 0,.int .i64 0,.int .i64 0,.bool false,.int .i64 0]) (t:=63) ?hr ?_;(case hd=>rfl);(case hg=>rfl);(case hr=>first|(go_simp;done)|(go_simp;rfl));intro gb606 hg w20 hbox hb;have n0_:=Aside0.mk (Kd.R_below (by (with_reducible repeat (first|apply Kd.R_alloc|apply Kd.R_drewN|apply Kd.R_drew));exact HO594.out) hb);have n1_:=Aside0.mk (Kd.R_below (by (with_reducible repeat (first|apply Kd.R_alloc|apply Kd.R_drewN|apply Kd.R_drew));exact HO598.out) hb);have n2_:=Aside0.mk (blk_below (g:=gb590) (o:=.cells #[.int .i64 a0_0,.int .i64 a0_1,.int .i64 a0_2,.bool a0_3,.int .i64 a0_4] 63 (0,0)) (by (with_reducible repeat (first|refine blk_drewN ?_ _|refine blk_drew ?_|refine blk_alloc ?_ _));exact BK590.out) hb);have n3_:=Aside0.mk (below_step (by repeat (first|(with_reducible first|exact HB.out|apply below_alloc|apply pw_below_drewN|apply below_drew1|refine below_set ?_ GE590.out)|exact HB.out)) hb);have n4_:=Aside0.mk (hbox);have n5_:=Aside0.mk ((by rw [hg];exact (below_size (by repeat (first|(with_reducible first|exact HB.out|apply below_alloc|apply pw_below_drewN|apply below_drew1|refine below_set ?_ GE590.out)|exact HB.out))):w.heap.size≤gb606));have n6_:=Aside0.mk ((by rw [hg];exact (below_size (by repeat (first|(with_reducible first|exact HB.out|apply below_alloc|apply pw_below_drewN|apply below_drew1|refine below_set ?_ GE590.out)|exact HB.out))):w.heap.size≤gb606));have n7_:=Aside0.mk ((by rw [hg];exact Nat.ne_of_lt (blk_lt (g:=gb590) (o:=.cells #[.int .i64 a0_0,.int .i64 a0_1,.int .i64 a0_2,.bool a0_3,.int .i64 a0_4] 63 (0,0)) (by (with_reducible repeat (first|refine blk_drewN ?_ _|refine blk_drew ?_|refine blk_alloc ?_ _));exact BK590.out)):gb590≠gb606));have n8_:=Aside0.mk ((by rw [hg];exact Nat.ne_of_gt (blk_lt (g:=gb590) (o:=.cells #[.int .i64 a0_0,.int .i64 a0_1,.int .i64 a0_2,.bool a0_3,.int .i64 a0_4] 63 (0,0)) (by (with_reducible repeat (first|refine blk_drewN ?_ _|refine blk_drew ?_|refine blk_alloc ?_ _));exact BK590.out)):gb606≠gb590));clear HO594 HO598 BK590 HB;have HO594:=n0_;have HO598:=n1_;have BK590:=n2_;have HB:=n3_;have BK606:=n4_;have GW606:=n5_;have GE606:=n6_;have NB590_606:=n7_;have NB606_590:=n8_;clear n0_ n1_ n2_ n3_ n4_ n5_ n6_ n7_ n8_;clear hb hbox hg;have hnb21:=NB606_590.out;have hnc21:=NB590_606.out;have hcz22_0:w20.cell? ⟨gb606,0,none⟩=some (.int .i64 0):=(blk_cell BK606.out 0).trans rfl;have hcz22_1:w20.cell? ⟨gb606,1,none⟩=some (.int .i64 0):=(blk_cell BK606.out 1).trans rfl;have hcz22_2:w20.cell? ⟨gb606,2,none⟩=some (.int .i64 0):=(blk_cell BK606.out 2).trans rfl;have hcz22_3:w20.cell? ⟨gb606,3,none⟩=some (.bool false):=(blk_cell BK606.out 3).trans rfl;have hcz22_4:w20.cell? ⟨gb606,4,none⟩=some (.int .i64 0):=(blk_cell BK606.out 4).trans rfl;have hfz22_0:=blk_frozen BK606.out 0;have hfz22_1:=blk_frozen BK606.out 1;have hfz22_2:=blk_frozen BK606.out 2;have hfz22_3:=blk_frozen BK606.out 3;have hfz22_4:=blk_frozen BK606.out 4)|((with_reducible refine gate_callee (f:=43) rfl ?_);refine goesL_ (some 32) rfl rfl Try.func43 (by kernel_rfl) rfl #[.slice A1 l1.length c1] rfl (by (try simp only [List.map_toArray,List.map_cons,List.map_nil]);first|done|rfl|(simp only [List.length_drop,List.length_take];rfl)) ?_;(with_reducible refine (slipwayref11_DecodeSuper.calls k _ _ l1 t607 t608 t609 t610 t611 t612 _ ?side1 ?side2 A8.out).mono ?_);(case side1=>exact Kd.C_below HR1.out (by repeat (first|(with_reducible first|exact HB.out|apply below_alloc|apply pw_below_drewN|apply below_drew1|refine below_set ?_ GE590.out|refine below_set ?_ GE606.out)|exact HB.out)));(case side2=>exact HC1.out);rintro e w23 ⟨rfl,hb⟩;refine ⟨_,rfl,?_⟩;have n0_:=Aside0.mk (Kd.R_below (by (with_reducible repeat (first|apply Kd.R_alloc|apply Kd.R_drewN|apply Kd.R_drew));exact (Kd.R_mono (Kd.R_far (p:=⟨gb606,4,none⟩) (Kd.R_far (p:=⟨gb606,3,none⟩) (Kd.R_far (p:=⟨gb606,2,none⟩) (Kd.R_far (p:=⟨gb606,1,none⟩) (Kd.R_far (p:=⟨gb606,0,none⟩) (Kd.R_types HO594.out BK606.out (by decide)) (fun _ hk=>hk.2) (.int .i64 t600)) (fun _ hk=>hk.2) (.int .i64 t601)) (fun _ hk=>hk.2) (.int .i64 t602)) (fun _ hk=>hk.2) (.bool t603)) (fun _ hk=>hk.2) (.int .i64 t604)) (fun _ h_=>h_.1))) hb);have n1_:=Aside0.mk (Kd.R_below (by (with_reducible repeat (first|apply Kd.R_alloc|apply Kd.R_drewN|apply Kd.R_drew));exact (Kd.R_mono (Kd.R_far (p:=⟨gb606,4,none⟩) (Kd.R_far (p:=⟨gb606,3,none⟩) (Kd.R_far (p:=⟨gb606,2,none⟩) (Kd.R_far (p:=⟨gb606,1,none⟩) (Kd.R_far (p:=⟨gb606,0,none⟩) (Kd.R_types HO598.out BK606.out (by decide)) (fun _ hk=>hk.2) (.int .i64 t600)) (fun _ hk=>hk.2) (.int .i64 t601)) (fun _ hk=>hk.2) (.int .i64 t602)) (fun _ hk=>hk.2) (.bool t603)) (fun _ hk=>hk.2) (.int .i64 t604)) (fun _ h_=>h_.1))) hb);have n2_:=Aside0.mk (blk_below (g:=gb590) (o:=.cells #[.int .i64 a0_0,.int .i64 a0_1,.int .i64 a0_2,.bool a0_3,.int .i64 a0_4] 63 (0,0)) (by (with_reducible repeat (first|refine blk_drewN ?_ _|refine blk_drew ?_|refine blk_alloc ?_ _));refine blk_far ?_ NB590_606.out _;(with_reducible repeat (first|refine blk_drewN ?_ _|refine blk_drew ?_|refine blk_alloc ?_ _));refine blk_far ?_ NB590_606.out _;(with_reducible repeat (first|refine blk_drewN ?_ _|refine blk_drew ?_|refine blk_alloc ?_ _));refine blk_far ?_ NB590_606.out _;(with_reducible repeat (first|refine blk_drewN ?_ _|refine blk_drew ?_|refine blk_alloc ?_ _));refine blk_far ?_ NB590_606.out _;(with_reducible repeat (first|refine blk_drewN ?_ _|refine blk_drew ?_|refine blk_alloc ?_ _));refine blk_far ?_ NB590_606.out _;(with_reducible repeat (first|refine blk_drewN ?_ _|refine blk_drew ?_|refine blk_alloc ?_ _));exact BK590.out) hb);have n3_:=Aside0.mk (blk_below (g:=gb606) (o:=.cells #[.int .i64 t600,.int .i64 t601,.int .i64 t602,.bool t603,.int .i64 t604] 63 (0,0)) (by (with_reducible repeat (first|refine blk_drewN ?_ _|refine blk_drew ?_|refine blk_alloc ?_ _));refine blk_put (cs:=#[.int .i64 t600,.int .i64 t601,.int .i64 t602,.bool t603,.int .i64 0]) ?_ 4 _ rfl;(with_reducible repeat (first|refine blk_drewN ?_ _|refine blk_drew ?_|refine blk_alloc ?_ _));refine blk_put (cs:=#[.int .i64 t600,.int .i64 t601,.int .i64 t602,.bool false,.int .i64 0]) ?_ 3 _ rfl;(with_reducible repeat (first|refine blk_drewN ?_ _|refine blk_drew ?_|refine blk_alloc ?_ _));refine blk_put (cs:=#[.int .i64 t600,.int .i64 t601,.int .i64 0,.bool false,.int .i64 0]) ?_ 2 _ rfl;(with_reducible repeat (first|refine blk_drewN ?_ _|refine blk_drew ?_|refine blk_alloc ?_ _));refine blk_put (cs:=#[.int .i64 t600,.int .i64 0,.int .i64 0,.bool false,.int .i64 0]) ?_ 1 _ rfl;(with_reducible repeat (first|refine blk_drewN ?_ _|refine blk_drew ?_|refine blk_alloc ?_ _));refine blk_put (cs:=#[.int .i64 0,.int .i64 0,.int .i64 0,.bool false,.int .i64 0]) ?_ 0 _ rfl;(with_reducible repeat (first|refine blk_drewN ?_ _|refine blk_drew ?_|refine blk_alloc ?_ _));exact BK606.out) hb);have n4_:=Aside0.mk (below_step (by repeat (first|(with_reducible first|exact HB.out|apply below_alloc|apply pw_below_drewN|apply below_drew1|refine below_set ?_ GE590.out|refine below_set ?_ GE606.out)|exact HB.out)) hb);clear HO594 HO598 BK590 BK606 HB;have HO594:=n0_;have HO598:=n1_;have BK590:=n2_;have BK606:=n3_;have HB:=n4_;clear n0_ n1_ n2_ n3_ n4_;(try clear hb);(try clear hb2);(try clear hk);(try clear hi))|((with_reducible refine gate_dst (N:=11) rfl ?_);refine box_event ?hg (N:=11) ?hd (cs:=#[.int .i64 0,.int .i64 0,.int .i64 0,.bool false,.int .i64 0]) (t:=63) ?hr ?_;(case hd=>rfl);(case hg=>rfl);(case hr=>first|(go_simp;done)|(go_simp;rfl));intro gb613 hg w24 hbox hb;have n0_:=Aside0.mk (Kd.R_below (by (with_reducible repeat (first|apply Kd.R_alloc|apply Kd.R_drewN|apply Kd.R_drew));exact HO594.out) hb);have n1_:=Aside0.mk (Kd.R_below (by (with_reducible repeat (first|apply Kd.R_alloc|apply Kd.R_drewN|apply Kd.R_drew));exact HO598.out) hb);have n2_:=Aside0.mk (blk_below (g:=gb590) (o:=.cells #[.int .i64 a0_0,.int .i64 a0_1,.int .i64 a0_2,.bool a0_3,.int .i64 a0_4] 63 (0,0)) (by (with_reducible repeat (first|refine blk_drewN ?_ _|refine blk_drew ?_|refine blk_alloc ?_ _));exact BK590.out) hb);have n3_:=Aside0.mk (blk_below (g:=gb606) (o:=.cells #[.int .i64 t600,.int .i64 t601,.int .i64 t602,.bool t603,.int .i64 t604] 63 (0,0)) (by (with_reducible repeat (first|refine blk_drewN ?_ _|refine blk_drew ?_|refine blk_alloc ?_ _));exact BK606.out) hb);have n4_:=Aside0.mk (below_step (by repeat (first|(with_reducible first|exact HB.out|apply below_alloc|apply pw_below_drewN|apply below_drew1|refine below_set ?_ GE590.out|refine below_set ?_ GE606.out)|exact HB.out)) hb);have n5_:=Aside0.mk (hbox);have n6_:=Aside0.mk ((by rw [hg];exact (below_size (by repeat (first|(with_reducible first|exact HB.out|apply below_alloc|apply pw_below_drewN|apply below_drew1|refine below_set ?_ GE590.out|refine below_set ?_ GE606.out)|exact HB.out))):w.heap.size≤gb613));have n7_:=Aside0.mk ((by rw [hg];exact (below_size (by repeat (first|(with_reducible first|exact HB.out|apply below_alloc|apply pw_below_drewN|apply below_drew1|refine below_set ?_ GE590.out|refine below_set ?_ GE606.out)|exact HB.out))):w.heap.size≤gb613));have n8_:=Aside0.mk ((by rw [hg];exact Nat.ne_of_lt (blk_lt (g:=gb590) (o:=.cells #[.int .i64 a0_0,.int .i64 a0_1,.int .i64 a0_2,.bool a0_3,.int .i64 a0_4] 63 (0,0)) (by (with_reducible repeat (first|refine blk_drewN ?_ _|refine blk_drew ?_|refine blk_alloc ?_ _));exact BK590.out)):gb590≠gb613));have n9_:=Aside0.mk ((by rw [hg];exact Nat.ne_of_gt (blk_lt (g:=gb590) (o:=.cells #[.int .i64 a0_0,.int .i64 a0_1,.int .i64 a0_2,.bool a0_3,.int .i64 a0_4] 63 (0,0)) (by (with_reducible repeat (first|refine blk_drewN ?_ _|refine blk_drew ?_|refine blk_alloc ?_ _));exact BK590.out)):gb613≠gb590));have n10_:=Aside0.mk ((by rw [hg];exact Nat.ne_of_lt (blk_lt (g:=gb606) (o:=.cells #[.int .i64 t600,.int .i64 t601,.int .i64 t602,.bool t603,.int .i64 t604] 63 (0,0)) (by (with_reducible repeat (first|refine blk_drewN ?_ _|refine blk_drew ?_|refine blk_alloc ?_ _));exact BK606.out)):gb606≠gb613));have n11_:=Aside0.mk ((by rw [hg];exact Nat.ne_of_gt (blk_lt (g:=gb606) (o:=.cells #[.int .i64 t600,.int .i64 t601,.int .i64 t602,.bool t603,.int .i64 t604] 63 (0,0)) (by (with_reducible repeat (first|refine blk_drewN ?_ _|refine blk_drew ?_|refine blk_alloc ?_ _));exact BK606.out)):gb613≠gb606));clear HO594 HO598 BK590 BK606 HB;have HO594:=n0_;have HO598:=n1_;have BK590:=n2_;have BK606:=n3_;have HB:=n4_;have BK613:=n5_;have GW613:=n6_;have GE613:=n7_;have NB590_613:=n8_;have NB613_590:=n9_;have NB606_613:=n10_;have NB613_606:=n11_;clear n0_ n1_ n2_ n3_ n4_ n5_ n6_ n7_ n8_ n9_ n10_ n11_;clear hb hbox hg;have hnb25:=NB613_590.out;have hnc25:=NB590_613.out;have hnb26:=NB613_606.out;have hnc26:=NB606_613.out;have hcz27_0:w24.cell? ⟨gb613,0,none⟩=some (.int .i64 0):=(blk_cell BK613.out 0).trans rfl;have hcz27_1:w24.cell? ⟨gb613,1,none⟩=some (.int .i64 0):=(blk_cell BK613.out 1).trans rfl;have hcz27_2:w24.cell? ⟨gb613,2,none⟩=some (.int .i64 0):=(blk_cell BK613.out 2).trans rfl;have hcz27_3:w24.cell? ⟨gb613,3,none⟩=some (.bool false):=(blk_cell BK613.out 3).trans rfl;have hcz27_4:w24.cell? ⟨gb613,4,none⟩=some (.int .i64 0):=(blk_cell BK613.out 4).trans rfl;have hfz27_0:=blk_frozen BK613.out 0;have hfz27_1:=blk_frozen BK613.out 1;have hfz27_2:=blk_frozen BK613.out 2;have hfz27_3:=blk_frozen BK613.out 3;have hfz27_4:=blk_frozen BK613.out 4;obtain ⟨Ao28,co28,eo28⟩:=Kd.R_slice HO594.out;subst eo28;obtain ⟨Ao29,co29,eo29⟩:=Kd.R_slice HO598.out;subst eo29)|((with_reducible refine gate_callee (f:=33) rfl ?_);refine goesL_ (some 37) rfl rfl Try.func33 (by kernel_rfl) rfl #[.slice Ao28 t592.length co28,.slice Ao29 t596.length co29] rfl (by (try simp only [List.map_toArray,List.map_cons,List.map_nil]);first|done|rfl|(simp only [List.length_drop,List.length_take];rfl)) ?_;(with_reducible refine (bytes_Equal.calls _ _ t592 _ _ t596 true _ ?side1 ?side2 ?side3 ?side4 A9.out).mono ?_);(case side1=>refine (Kd.R_reads' (e:=5) (base:=w.heap.size) (ok:=fun k_=>(True∧some k_≠(.slice Ao29 t596.length co29:Value).ownBlock)) (n:=t592.length) (c:=co28) ?_).2.2;exact (by (with_reducible repeat (first|apply Kd.R_alloc|apply Kd.R_drewN|apply Kd.R_drew));exact (Kd.R_mono (Kd.R_far (p:=⟨gb613,4,none⟩) (Kd.R_far (p:=⟨gb613,3,none⟩) (Kd.R_far (p:=⟨gb613,2,none⟩) (Kd.R_far (p:=⟨gb613,1,none⟩) (Kd.R_far (p:=⟨gb613,0,none⟩) (Kd.R_types HO594.out BK613.out (by decide)) (fun _ hk=>hk.2) (.int .i64 t607)) (fun _ hk=>hk.2) (.int .i64 t608)) (fun _ hk=>hk.2) (.int .i64 t609)) (fun _ hk=>hk.2) (.bool t610)) (fun _ hk=>hk.2) (.int .i64 t611)) (fun _ h_=>h_.1))));(case side2=>exact (Kd.R_reads' HO594.out).2.1);(case side3=>refine (Kd.R_reads' (e:=5) (base:=w.heap.size) (ok:=fun k_=>(True∧some k_≠(.slice Ao28 t592.length co28:Value).ownBlock)) (n:=t596.length) (c:=co29) ?_).2.2;exact (by (with_reducible repeat (first|apply Kd.R_alloc|apply Kd.R_drewN|apply Kd.R_drew));exact (Kd.R_mono (Kd.R_far (p:=⟨gb613,4,none⟩) (Kd.R_far (p:=⟨gb613,3,none⟩) (Kd.R_far (p:=⟨gb613,2,none⟩) (Kd.R_far (p:=⟨gb613,1,none⟩) (Kd.R_far (p:=⟨gb613,0,none⟩) (Kd.R_types HO598.out BK613.out (by decide)) (fun _ hk=>hk.2) (.int .i64 t607)) (fun _ hk=>hk.2) (.int .i64 t608)) (fun _ hk=>hk.2) (.int .i64 t609)) (fun _ hk=>hk.2) (.bool t610)) (fun _ hk=>hk.2) (.int .i64 t611)) (fun _ h_=>h_.1))));(case side4=>exact (Kd.R_reads' HO598.out).2.1);rintro e w' ⟨rfl,⟨nd,rfl⟩⟩;refine ⟨_,rfl,?_⟩;have hcz30_0:w24.cell? ⟨gb606,0,none⟩=some (.int .i64 t600):=(blk_cell BK606.out 0).trans rfl;have hcz30_1:w24.cell? ⟨gb606,1,none⟩=some (.int .i64 t601):=(blk_cell BK606.out 1).trans rfl;have hcz30_2:w24.cell? ⟨gb606,2,none⟩=some (.int .i64 t602):=(blk_cell BK606.out 2).trans rfl;have hcz30_3:w24.cell? ⟨gb606,3,none⟩=some (.bool t603):=(blk_cell BK606.out 3).trans rfl;have hcz30_4:w24.cell? ⟨gb606,4,none⟩=some (.int .i64 t604):=(blk_cell BK606.out 4).trans rfl;have hfz30_0:=blk_frozen BK606.out 0;have hfz30_1:=blk_frozen BK606.out 1;have hfz30_2:=blk_frozen BK606.out 2;have hfz30_3:=blk_frozen BK606.out 3;have hfz30_4:=blk_frozen BK606.out 4))
     go_ret
     exact ⟨by first|rfl|(simp [errW_none,errW_some] <;> rfl)|(simp [*,errW_none,errW_some] <;> rfl),by repeat (first|(with_reducible first|exact HB.out|apply below_alloc|apply pw_below_drewN|apply below_drew1|refine below_set ?_ GE590.out|refine below_set ?_ GE606.out|refine below_set ?_ GE613.out)|exact HB.out)⟩
    ·rw [if_neg c12] at H
     exact absurd H (by simp)
   ·rw [if_neg c11] at H
    exact absurd H (by simp)
  ·replace c10:=Bool.eq_false_iff.mpr c10
   subst c10
   have H1:(none)=some r:=by rw [if_neg (show ¬ (false=true) by decide)] at H;exact H
   clear H
   have H:=H1
   clear H1
   exact absurd H (by simp)
 ·replace c4:=Bool.eq_false_iff.mpr c4
  subst c4
  have H1:(none)=some r:=by rw [if_neg (show ¬ (false=true) by decide)] at H;exact H
  clear H
  have H:=H1
  clear H1
  exact absurd H (by simp)
def slipwaylaw11_LayoutSupers.Pure:Prop:=∀ (a0_0:Int) (a0_1:Int) (a0_2:Int) (a0_3:Bool) (a0_4:Int) (l1:List Int),(Lit.int .i64 a0_0).wf=true → (Lit.int .i64 a0_1).wf=true → (Lit.int .i64 a0_2).wf=true → (Lit.int .i64 a0_4).wf=true → (l1.length≤maxLen∧l1.length * 1≤140737488351232∧∀ x ∈ l1,(Lit.int .u8 x).wf=true) → ∃ k,slipwaylaw11_LayoutSupers.f k a0_0 a0_1 a0_2 a0_3 a0_4 l1=some true
theorem slipwaylaw11_LayoutSupers.walk (P:slipwaylaw11_LayoutSupers.Pure) (a0_0:Int) (a0_1:Int) (a0_2:Int) (a0_3:Bool) (a0_4:Int) (A1:Option Addr) (c1:Nat) (l1:List Int) (w:World) (hr1:Kd.C (Kd.int .u8) w A1 l1.length l1) (hc1:l1.length≤c1) (w0_0:(Lit.int .i64 a0_0).wf=true) (w0_1:(Lit.int .i64 a0_1).wf=true) (w0_2:(Lit.int .i64 a0_2).wf=true) (w0_4:(Lit.int .i64 a0_4).wf=true) (w1:(l1.length≤maxLen∧l1.length * 1≤140737488351232∧∀ x ∈ l1,(Lit.int .u8 x).wf=true)) :
  Calls Try.prog 8 #[.agg #[.int .i64 a0_0,.int .i64 a0_1,.int .i64 a0_2,.bool a0_3,.int .i64 a0_4],.slice A1 l1.length c1] w fun e w'=>e=.returned (.bool true)∧Below w.heap.size w w':=by
 obtain ⟨k,h⟩:=P a0_0 a0_1 a0_2 a0_3 a0_4 l1 w0_0 w0_1 w0_2 w0_4 w1
 refine (slipwaylaw11_LayoutSupers.calls k a0_0 a0_1 a0_2 a0_3 a0_4 A1 c1 l1 true w hr1 hc1 h).mono ?_
 rintro e w' ⟨rfl,hd⟩
 exact ⟨rfl,hd⟩
end Go.Proofs.Ytbdnmdmfnopihaa.Print
end
