/- Texts of the proof of LayoutSupers, part 20. -/
import Derived.Test.YtbdnmdmfnopihaaLayoutSupersM17
import Derived.Test.YtbdnmdmfnopihaaLayoutSupersM18
import Derived.Test.YtbdnmdmfnopihaaLayoutSupersM19
section
namespace Go.Proofs.Ytbdnmdmfnopihaa.Print
open Go.RowKit Go.Proofs.YtbdnmdmfnopihaaW.PrintWords Go.Proofs.YtbdnmdmfnopihaaW.PrintLast Go.Proofs.YtbdnmdmfnopihaaW.PrintMore
attribute [local go_sem] max2_int min2_int max_two min_two max_three min_three max_four min_four   -- for this text's walks alone
attribute [local go_sem ↓] Go.Proofs.Ytbdnmdmfnopihaa.Sem.isSome_setCell
attribute [local go_sem] Go.Instr.field Go.asAgg
set_option linter.unusedVariables false
set_option linter.unusedSimpArgs false
def seal_Unpack_1.f (a0:Int) (l1:List Int):Option (Int):=if 0≤(wrap64 (Int.tdiv a0 8)) then (if (wrap64 (Int.tdiv a0 8)) < (l1.length:Int) then (if 0≤(wrap64 (7 - (Int.tmod a0 8))) then (some (IntKind.u64.wrap (Go.bits .and .u8 (shr .u8 (rd l1 (wrap64 (Int.tdiv a0 8))) (wrap64 (7 - (Int.tmod a0 8)))) 1))) else (none)) else (none)) else (none)
set_option maxHeartbeats 8000000 in
set_option maxRecDepth 100000 in
theorem seal_Unpack_1.calls (g1:Nat) (a0:Int) (A1:Option Addr) (c1:Nat) (l1:List Int) (r:Int) (w:World) (hb1:w.heap[g1]?=some (.cells #[.slice A1 l1.length c1] 48 (0,0))) (hr1:Kd.C (Kd.int .u8) w A1 l1.length l1) (hc1:l1.length≤c1) (h:seal_Unpack_1.f a0 l1=some r) :
  Calls Try.prog 67 #[.int .i64 a0,.pointer (some ⟨g1,0,none⟩)] w fun e w'=>e=.returned (.int .u64 r)∧Drawn0 w w':=by
 have hcz1_0:w.cell? ⟨g1,0,none⟩=some (.slice A1 l1.length c1):=(blk_cell hb1 0).trans rfl
 clear hb1
 have HR1:=Aside0.mk hr1
 have HC1:=Aside0.mk hc1
 clear hr1 hc1
 have H:(if 0≤(wrap64 (Int.tdiv a0 8)) then (if (wrap64 (Int.tdiv a0 8)) < (l1.length:Int) then (if 0≤(wrap64 (7 - (Int.tmod a0 8))) then (some (IntKind.u64.wrap (Go.bits .and .u8 (shr .u8 (rd l1 (wrap64 (Int.tdiv a0 8))) (wrap64 (7 - (Int.tmod a0 8)))) 1))) else (none)) else (none)) else (none))=some r:=h
 clear h
 obtain ⟨ji3,hji3⟩:∃ j_:Int,(wrap64 (Int.tdiv a0 8))=j_:=⟨_,rfl⟩
 replace H:(if 0≤(ji3) then (if (ji3) < (l1.length:Int) then (if 0≤(wrap64 (7 - (Int.tmod a0 8))) then (some (IntKind.u64.wrap (Go.bits .and .u8 (shr .u8 (rd l1 (ji3)) (wrap64 (7 - (Int.tmod a0 8)))) 1))) else (none)) else (none)) else (none))=some r:=by first|(rw [hji3] at H;exact H)|(simp only [hji3] at H ⊢;exact H)
 have hji3w:(IntKind.i64.wrap (Int.tdiv a0 8))=ji3:=(i64_w _).trans hji3
 by_cases c4:0≤(ji3)
 ·rw [if_pos c4] at H
  have c4b0:decide (0≤(ji3))=true:=decide_eq_true c4
  clear c4
  by_cases c5:(ji3) < (l1.length:Int)
  ·rw [if_pos c5] at H
   have c5b0:decide ((ji3) < (l1.length:Int))=true:=decide_eq_true c5
   clear c5
   obtain ⟨ji6,hji6⟩:∃ j_:Int,(wrap64 (7 - (Int.tmod a0 8)))=j_:=⟨_,rfl⟩
   replace H:(if 0≤(ji6) then (some (IntKind.u64.wrap (Go.bits .and .u8 (shr .u8 (rd l1 (ji3)) (ji6)) 1))) else (none))=some r:=by first|(rw [hji6] at H;exact H)|(simp only [hji6] at H ⊢;exact H)
   have hji6w:(IntKind.i64.wrap (7 - (Int.tmod a0 8)))=ji6:=(i64_w _).trans hji6
   by_cases c7:0≤(ji6)
   ·rw [if_pos c7] at H
    have c7b0:=eq_true c7
    have c7b1:decide (0≤(ji6))=true:=decide_eq_true c7
    clear c7
    obtain ⟨ji8,hji8⟩:∃ j_:Int,(shr .u8 (rd l1 (ji3)) (ji6))=j_:=⟨_,rfl⟩
    replace H:(some (IntKind.u64.wrap (Go.bits .and .u8 (ji8) 1)))=some r:=by first|(rw [hji8] at H;exact H)|(simp only [hji8] at H ⊢;exact H)
    have hji8_:((rd l1 (ji3)) / 2 ^ min (ji6).toNat 8)=ji8:=hji8
    have hji8z:(ji6)≤8 → ((rd l1 (ji3)) / 2 ^ (ji6).toNat)=ji8:=shr_small hji8
    obtain rfl:=Option.some.inj H
    have p512:0≤((ji3):Int):=of_decide_eq_true (by first|(with_reducible assumption)|assumption)
    have q512:(ji3) < (l1.length:Int):=of_decide_eq_true (by first|(with_reducible assumption)|assumption)
    obtain ⟨ad512,e512,hx512_0⟩:=Kd.at_int HR1.out (ji3) p512 q512
    cases e512
    replace p512:=eq_true p512
    replace q512:=eq_true q512
    go_enter Try.func67,Try.ntmps67
    go_wp2
    go_ret
    exact ⟨by first|rfl|(simp;done)|(simp only [← hji3,← hji6,← hji8] <;> (first|rfl|simp))|(simp [*];done),by repeat (first|exact Drawn0.refl _|apply Drawn0.step)⟩
   ·rw [if_neg c7] at H
    exact absurd H (by simp)
  ·rw [if_neg c5] at H
   exact absurd H (by simp)
 ·rw [if_neg c4] at H
  exact absurd H (by simp)
end Go.Proofs.Ytbdnmdmfnopihaa.Print
end
section
namespace Go.Proofs.Ytbdnmdmfnopihaa.Print
open Go.RowKit Go.Proofs.YtbdnmdmfnopihaaW.PrintWords Go.Proofs.YtbdnmdmfnopihaaW.PrintLast Go.Proofs.YtbdnmdmfnopihaaW.PrintMore
attribute [local go_sem] max2_int min2_int max_two min_two max_three min_three max_four min_four   -- for this text's walks alone
attribute [local go_sem ↓] Go.Proofs.Ytbdnmdmfnopihaa.Sem.isSome_setCell
attribute [local go_sem] Go.Instr.field Go.asAgg
set_option linter.unusedVariables false
set_option linter.unusedSimpArgs false
mutual
def seal_Unpack.l0:Nat → List Int → Int → List Int → Option (List Int × Int)
 | 0,_,_,_=>none
 | k + 1,x0,x9,x514000=>if x9 < (wrap64 (8 * (x514000.length:Int))) then ((seal_Unpack_1.f x9 x514000).bind fun t516=>(if t516=0 then (seal_Unpack.l0 k x0 (wrap64 (x9 + 1)) x514000) else (some (([]:List Int),1)))) else (seal_Unpack.l1 k ([]:List Int) 0 x0 (x0.length:Int) 0 x514000)
def seal_Unpack.l1:Nat → List Int → Int → List Int → Int → Int → List Int → Option (List Int × Int)
 | 0,_,_,_,_,_,_=>none
 | k + 1,x10,x11,x42,x43,x44,x514000=>if x44 < x43 then (if 0≤x44 then (if x44 < (x42.length:Int) then (seal_Unpack.l2 k x10 x11 0 x42 x43 x44 (rd x42 x44) 0 x514000) else (none)) else (none)) else (some (x10,0))
def seal_Unpack.l2:Nat → List Int → Int → Int → List Int → Int → Int → Int → Int → List Int → Option (List Int × Int)
 | 0,_,_,_,_,_,_,_,_,_=>none
 | k + 1,x10,x11,x14,x42,x43,x44,x48,x49,x514000=>if x49 < x48 then ((seal_Unpack_1.f x11 x514000).bind fun t518=>(seal_Unpack.l2 k x10 (wrap64 (x11 + 1)) (Go.bits .or .u64 (IntKind.u64.wrap (x14 * 2)) t518) x42 x43 x44 x48 (wrap64 (x49 + 1)) x514000)) else (if x10.length < 17592186044416 then (seal_Unpack.l1 k (x10 ++ [x14]) x11 x42 x43 (wrap64 (x44 + 1)) x514000) else (none))
end
def seal_Unpack.f (k:Nat) (l0:List Int) (l1:List Int):Option (List Int × Int):=(seal_total.f k l0).bind fun bt514=>(if bt514.2=0 then (if (l1.length:Int)=(wrap64 (Int.tdiv (wrap64 (bt514.1 + 7)) 8)) then (seal_Unpack.l0 k l0 bt514.1 l1) else (some (([]:List Int),3))) else (some (([]:List Int),bt514.2)))
set_option maxHeartbeats 8000000 in
set_option maxRecDepth 100000 in
theorem seal_Unpack.calls (k:Nat) (A0:Option Addr) (c0:Nat) (l0:List Int) (A1:Option Addr) (c1:Nat) (l1:List Int) (r1:List Int) (r2:Int) (w:World) (hr0:Kd.C (Kd.int .i64) w A0 l0.length l0) (hc0:l0.length≤c0) (hr1:Kd.C (Kd.int .u8) w A1 l1.length l1) (hc1:l1.length≤c1) (h:seal_Unpack.f k l0 l1=some (r1,r2)) :
  Calls Try.prog 59 #[.slice A0 l0.length c0,.slice A1 l1.length c1] w fun e w'=>∃ v0_:Value,e=.returned (.tuple #[v0_,.int .i64 r2])∧Kd.R (Kd.int .u64) 76 w' w.heap.size (fun _=>True) v0_ r1∧Below w.heap.size w w':=by
 have HR0:=Aside0.mk hr0
 have HC0:=Aside0.mk hc0
 clear hr0 hc0
 have HR1:=Aside0.mk hr1
 have HC1:=Aside0.mk hc1
 clear hr1 hc1
 have HB:=Aside0.mk (Below.refl w.heap.size w)
 have H:((seal_total.f k l0).bind fun bt514=>(if bt514.2=0 then (if (l1.length:Int)=(wrap64 (Int.tdiv (wrap64 (bt514.1 + 7)) 8)) then (seal_Unpack.l0 k l0 bt514.1 l1) else (some (([]:List Int),3))) else (some (([]:List Int),bt514.2))))=some (r1,r2):=h
 clear h
 replace H:=Option.bind_eq_some_iff.mp H
 obtain ⟨⟨t514,t515⟩,A30,H⟩:=H
 replace H:(if t515=0 then (if (l1.length:Int)=(wrap64 (Int.tdiv (wrap64 (t514 + 7)) 8)) then (seal_Unpack.l0 k l0 t514 l1) else (some (([]:List Int),3))) else (some (([]:List Int),t515)))=some (r1,r2):=H
 have A3:=Aside0.mk A30
 clear A30
 by_cases c4:t515=0
 ·rw [if_pos c4] at H
  have c4b0:(t515 == 0)=true:=beq_iff_eq.mpr c4
  have c4b1:(t515 != 0)=false:=bne_eq_false_iff_eq.mpr c4
  clear c4
  by_cases c5:(l1.length:Int)=(wrap64 (Int.tdiv (wrap64 (t514 + 7)) 8))
  ·rw [if_pos c5] at H
   have c5b0:((l1.length:Int) == (wrap64 (Int.tdiv (wrap64 (t514 + 7)) 8)))=true:=beq_iff_eq.mpr c5
   have c5b1:((l1.length:Int) != (wrap64 (Int.tdiv (wrap64 (t514 + 7)) 8)))=false:=bne_eq_false_iff_eq.mpr c5
   clear c5
   have H':=Aside0.mk H
   clear H
   go_enter Try.func59,Try.ntmps59
   go_wp2_with (first|((with_reducible refine gate_dst (N:=3) rfl ?_);refine box_event ?hg (N:=3) ?hd (cs:=#[.slice A1 l1.length c1]) (t:=48) ?hr ?_;(case hd=>rfl);(case hg=>rfl);(case hr=>first|(go_simp;done)|(go_simp;rfl));intro gb513 hg w6 hbox hb;have n0_:=Aside0.mk (below_step (by repeat (first|(with_reducible first|exact HB.out|apply below_alloc|apply pw_below_drewN|apply below_drew1)|exact HB.out)) hb);have n1_:=Aside0.mk (hbox);have n2_:=Aside0.mk ((by rw [hg];exact (below_size (by repeat (first|(with_reducible first|exact HB.out|apply below_alloc|apply pw_below_drewN|apply below_drew1)|exact HB.out))):w.heap.size≤gb513));have n3_:=Aside0.mk ((by rw [hg];exact (below_size (by repeat (first|(with_reducible first|exact HB.out|apply below_alloc|apply pw_below_drewN|apply below_drew1)|exact HB.out))):w.heap.size≤gb513));clear HB;have HB:=n0_;have BK513:=n1_;have GW513:=n2_;have GE513:=n3_;clear n0_ n1_ n2_ n3_;clear hb hbox hg)|((with_reducible refine gate_callee (f:=66) rfl ?_);refine goesL_ (some 17) rfl rfl Try.func66 (by kernel_rfl) rfl #[.slice A0 l0.length c0] rfl (by (try simp only [List.map_toArray,List.map_cons,List.map_nil]);first|done|rfl|(simp only [List.length_drop,List.length_take];rfl)) ?_;(with_reducible refine (seal_total.calls k _ _ l0 t514 t515 _ ?side1 ?side2 A3.out).mono ?_);(case side1=>repeat (first|exact (Kd.C_below HR0.out HB.out)|(with_reducible refine Kd.C_alloc ?_ _)|(with_reducible refine Kd.C_drewN ?_ _)|(with_reducible refine Kd.C_drew ?_)));(case side2=>exact HC0.out);rintro e w' ⟨rfl,⟨nd,rfl⟩⟩;refine ⟨_,rfl,?_⟩;have hcz7_0:w6.cell? ⟨gb513,0,none⟩=some (.slice A1 l1.length c1):=(blk_cell BK513.out 0).trans rfl;have hfz7_0:=blk_frozen BK513.out 0))
   go_loopg [9] k (fun kq v9 w'=>∃ (x9_1:Int),v9=.int .i64 x9_1∧Aside0 (seal_Unpack.l0 kq l0 x9_1 l1=some (r1,r2))∧Aside0 (kq≤k)∧Aside0 (w'.heap[gb513]?=some (.cells #[(.slice A1 l1.length c1)] 48 (0,0)))∧Aside0 (Below w.heap.size w w'))
   case atStart=>exact ⟨(t514),(by first|rfl|(simp;done)|(simp [*];done)),H',⟨Nat.le_refl _⟩,⟨by (with_reducible repeat (first|refine blk_drewN ?_ _|refine blk_drew ?_|refine blk_alloc ?_ _));exact BK513.out⟩,⟨by repeat (first|(with_reducible first|exact HB.out|apply below_alloc|apply pw_below_drewN|apply below_drew1|refine below_set ?_ GE513.out)|exact HB.out)⟩⟩
   case round =>
    clear H'
    try clear c1
    try clear p2
    try clear c4
    try clear c4b0
    try clear c4b1
    try clear c5
    try clear c5b0
    try clear c5b1
    try clear c6
    try clear p6
    try clear hcz7_0
    try clear hfz7_0
    obtain ⟨x9_1,rfl,HA,HK1,BK513,HB⟩:=hrel
    cases gk with
    | zero=>exact absurd HA.out (by simp [seal_Unpack.l0])
    | succ k1 =>
     have H:=HA.out
     clear HA
     simp only [seal_Unpack.l0] at H
     by_cases c8:x9_1 < (wrap64 (8 * (l1.length:Int)))
     ·rw [if_pos c8] at H
      have c8b0:decide (x9_1 < (wrap64 (8 * (l1.length:Int))))=true:=decide_eq_true c8
      clear c8
      replace H:=Option.bind_eq_some_iff.mp H
      obtain ⟨t516,A90,H⟩:=H
      replace H:(if t516=0 then (seal_Unpack.l0 k1 l0 (wrap64 (x9_1 + 1)) l1) else (some (([]:List Int),1)))=some (r1,r2):=H
      have A9:=Aside0.mk A90
      clear A90
      by_cases c10:t516=0
      ·rw [if_pos c10] at H
       have c10b0:(t516 == 0)=true:=beq_iff_eq.mpr c10
       have c10b1:(t516 != 0)=false:=bne_eq_false_iff_eq.mpr c10
       clear c10
       have H':=Aside0.mk H
       clear H
       have hcz11_0:wr.cell? ⟨gb513,0,none⟩=some (.slice A1 l1.length c1):=(blk_cell BK513.out 0).trans rfl
       have hfz11_0:=blk_frozen BK513.out 0
       go_wp2_with (first|(go_at_call 67;(with_reducible refine (seal_Unpack_1.calls gb513 x9_1 _ _ l1 t516 _ (by (with_reducible repeat (first|refine blk_drewN ?_ _|refine blk_drew ?_|refine blk_alloc ?_ _));exact BK513.out) ?side1 ?side2 A9.out).mono ?_);(case side1=>repeat (first|exact (Kd.C_below HR1.out HB.out)|(with_reducible refine Kd.C_alloc ?_ _)|(with_reducible refine Kd.C_drewN ?_ _)|(with_reducible refine Kd.C_drew ?_)));(case side2=>exact HC1.out);rintro e w' ⟨rfl,⟨nd,rfl⟩⟩))
       go_roundg k1
       case measure=>have:=HK1.out;omega
       case rel=>exact ⟨(wrap64 (x9_1 + 1)),(by first|rfl|(simp;done)|(simp [*];done)),H',⟨by have:=HK1.out;omega⟩,⟨by (with_reducible repeat (first|refine blk_drewN ?_ _|refine blk_drew ?_|refine blk_alloc ?_ _));exact BK513.out⟩,⟨by repeat (first|(with_reducible first|exact HB.out|apply below_alloc|apply pw_below_drewN|apply below_drew1|refine below_set ?_ GE513.out)|exact HB.out)⟩⟩
      ·rw [if_neg c10] at H
       have c10b0:(t516 == 0)=false:=beq_eq_false_iff_ne.mpr c10
       have c10b1:(t516 != 0)=true:=bne_iff_ne.mpr c10
       simp only [Option.some.injEq,Prod.mk.injEq] at H
       obtain ⟨rfl,rfl⟩:=H
       have hcz12_0:wr.cell? ⟨gb513,0,none⟩=some (.slice A1 l1.length c1):=(blk_cell BK513.out 0).trans rfl
       have hfz12_0:=blk_frozen BK513.out 0
       go_wp2_with (first|(go_at_call 67;(with_reducible refine (seal_Unpack_1.calls gb513 x9_1 _ _ l1 t516 _ (by (with_reducible repeat (first|refine blk_drewN ?_ _|refine blk_drew ?_|refine blk_alloc ?_ _));exact BK513.out) ?side1 ?side2 A9.out).mono ?_);(case side1=>repeat (first|exact (Kd.C_below HR1.out HB.out)|(with_reducible refine Kd.C_alloc ?_ _)|(with_reducible refine Kd.C_drewN ?_ _)|(with_reducible refine Kd.C_drew ?_)));(case side2=>exact HC1.out);rintro e w' ⟨rfl,⟨nd,rfl⟩⟩))
       go_ret2
       exact ⟨_,by first|rfl|(simp [errW_none,errW_some] <;> rfl)|(simp [*,errW_none,errW_some] <;> rfl),by first|exact Kd.R_nil _ _ _ _ _|exact Kd.N_nil _ _ _ _ _|exact Kd.V_nil _ _ _ _ _|exact Kd.Q_nil _ _ _ _ _|exact Kd.S_nil _ _ _ _ _,by repeat (first|(with_reducible first|exact HB.out|apply below_alloc|apply pw_below_drewN|apply below_drew1|refine below_set ?_ GE513.out)|exact HB.out)⟩
     ·rw [if_neg c8] at H
      have c8b0:decide (x9_1 < (wrap64 (8 * (l1.length:Int))))=false:=decide_eq_false c8
      clear c8
      have H':=Aside0.mk H
      clear H
      have hcz13_0:wr.cell? ⟨gb513,0,none⟩=some (.slice A1 l1.length c1):=(blk_cell BK513.out 0).trans rfl
      have hfz13_0:=blk_frozen BK513.out 0
      go_wp2
      go_loopg [10,11,44] k1 (fun kq v10 v11 v44 w'=>∃ (x10_2:List Int) (x11_2:Int) (x44_2:Int),v11=.int .i64 x11_2∧v44=.int .i64 x44_2∧Aside0 (seal_Unpack.l1 kq x10_2 x11_2 l0 (l0.length:Int) x44_2 l1=some (r1,r2))∧Aside0 (kq≤k1)∧Aside0 (Kd.R (Kd.int .u64) 76 w' w.heap.size (fun _=>True) v10 x10_2)∧Aside0 (w'.heap[gb513]?=some (.cells #[(.slice A1 l1.length c1)] 48 (0,0)))∧Aside0 (Below w.heap.size w w'))
      case atStart=>exact ⟨(([]:List Int)),(0),(0),(by first|rfl|(simp;done)|(simp [*];done)),(by first|rfl|(simp;done)|(simp [*];done)),H',⟨Nat.le_refl _⟩,⟨by first|exact Kd.R_nil _ _ _ _ _|exact Kd.N_nil _ _ _ _ _|exact Kd.V_nil _ _ _ _ _|exact Kd.Q_nil _ _ _ _ _|exact Kd.S_nil _ _ _ _ _⟩,⟨by (with_reducible repeat (first|refine blk_drewN ?_ _|refine blk_drew ?_|refine blk_alloc ?_ _));exact BK513.out⟩,⟨by repeat (first|(with_reducible first|exact HB.out|apply below_alloc|apply pw_below_drewN|apply below_drew1|refine below_set ?_ GE513.out)|exact HB.out)⟩⟩
      case round =>
       clear H'
       try clear c1
       try clear p2
       try clear c4
       try clear c4b0
       try clear c4b1
       try clear c5
       try clear c5b0
       try clear c5b1
       try clear c6
       try clear p6
       try clear c8
       try clear c8b0
       try clear c10
       try clear c10b0
       try clear c10b1
       try clear hcz11_0
       try clear hcz12_0
       try clear hcz13_0
       try clear hcz7_0
       try clear hfz11_0
       try clear hfz12_0
       try clear hfz13_0
       try clear hfz7_0
       try clear p2
       try clear p6
       obtain ⟨x10_2,x11_2,x44_2,rfl,rfl,HA,HK2,HO_10,BK513,HB⟩:=hrel
       cases gk with
       | zero=>exact absurd HA.out (by simp [seal_Unpack.l1])
       | succ k2 =>
        have H:=HA.out
        clear HA
        simp only [seal_Unpack.l1] at H
        by_cases c14:x44_2 < (l0.length:Int)
        ·rw [if_pos c14] at H
         have c14b0:decide (x44_2 < (l0.length:Int))=true:=decide_eq_true c14
         clear c14
         by_cases c15:0≤x44_2
         ·rw [if_pos c15] at H
          have c15b0:decide (0≤x44_2)=true:=decide_eq_true c15
          clear c15
          by_cases c16:x44_2 < (l0.length:Int)
          ·rw [if_pos c16] at H
           have c16b0:decide (x44_2 < (l0.length:Int))=true:=decide_eq_true c16
           clear c16
           have H':=Aside0.mk H
           clear H
           have p517:0≤(x44_2:Int):=of_decide_eq_true (by first|(with_reducible assumption)|assumption)
           have q517:x44_2 < (l0.length:Int):=of_decide_eq_true (by first|(with_reducible assumption)|assumption)
           obtain ⟨ad517,e517,hx517_0⟩:=Kd.at_int HR0.out x44_2 p517 q517
           cases e517
           replace hx517_0:=(HB.out.cell (World.block_lt_of_cell? w _ hx517_0)).trans hx517_0
           replace p517:=eq_true p517
           replace q517:=eq_true q517
           go_wp2
           go_loopg [11,14,49] k2 (fun kq v11 v14 v49 w'=>∃ (x11_3:Int) (x14_3:Int) (x49_3:Int),v11=.int .i64 x11_3∧v14=.int .u64 x14_3∧v49=.int .i64 x49_3∧Aside0 (seal_Unpack.l2 kq x10_2 x11_3 x14_3 l0 (l0.length:Int) x44_2 (rd l0 x44_2) x49_3 l1=some (r1,r2))∧Aside0 (kq≤k2)∧Aside0 (Kd.R (Kd.int .u64) 76 w' w.heap.size (fun _=>True) u10 x10_2)∧Aside0 (w'.heap[gb513]?=some (.cells #[(.slice A1 l1.length c1)] 48 (0,0)))∧Aside0 (Below w.heap.size w w'))
           case atStart=>exact ⟨(x11_2),(0),(0),(by first|rfl|(simp;done)|(simp [*];done)),(by first|rfl|(simp;done)|(simp [*];done)),(by first|rfl|(simp;done)|(simp [*];done)),H',⟨Nat.le_refl _⟩,⟨by (with_reducible repeat (first|apply Kd.R_alloc|apply Kd.R_drewN|apply Kd.R_drew));exact HO_10.out⟩,⟨by (with_reducible repeat (first|refine blk_drewN ?_ _|refine blk_drew ?_|refine blk_alloc ?_ _));exact BK513.out⟩,⟨by repeat (first|(with_reducible first|exact HB.out|apply below_alloc|apply pw_below_drewN|apply below_drew1|refine below_set ?_ GE513.out)|exact HB.out)⟩⟩
           case round =>
            clear H'
            try clear c1
            try clear p2
            try clear c4
            try clear c4b0
            try clear c4b1
            try clear c5
            try clear c5b0
            try clear c5b1
            try clear p5
            try clear q5
            try clear hx5
            try clear c6
            try clear p6
            try clear c8
            try clear c8b0
            try clear c10
            try clear c10b0
            try clear c10b1
            try clear c14
            try clear c14b0
            try clear c15
            try clear c15b0
            try clear c16
            try clear c16b0
            try clear hcz11_0
            try clear hcz12_0
            try clear hcz13_0
            try clear hcz7_0
            try clear hfz11_0
            try clear hfz12_0
            try clear hfz13_0
            try clear hfz7_0
            try clear hx517_0
            try clear p2
            try clear p517
            try clear p6
            try clear q517
            obtain ⟨x11_3,x14_3,x49_3,rfl,rfl,rfl,HA,HK3,HO_10,BK513,HB⟩:=hrel
            cases gk with
            | zero=>exact absurd HA.out (by simp [seal_Unpack.l2])
            | succ k3 =>
             have H:=HA.out
             clear HA
             simp only [seal_Unpack.l2] at H
             by_cases c17:x49_3 < (rd l0 x44_2)
             ·rw [if_pos c17] at H
              have c17b0:decide (x49_3 < (rd l0 x44_2))=true:=decide_eq_true c17
              clear c17
              replace H:=Option.bind_eq_some_iff.mp H
              obtain ⟨t518,A180,H⟩:=H
              replace H:(seal_Unpack.l2 k3 x10_2 (wrap64 (x11_3 + 1)) (Go.bits .or .u64 (IntKind.u64.wrap (x14_3 * 2)) t518) l0 (l0.length:Int) x44_2 (rd l0 x44_2) (wrap64 (x49_3 + 1)) l1)=some (r1,r2):=H
              have A18:=Aside0.mk A180
              clear A180
              have H':=Aside0.mk H
              clear H
              go_wp2_with (first|(go_at_call 67;(with_reducible refine (seal_Unpack_1.calls gb513 x11_3 _ _ l1 t518 _ (by (with_reducible repeat (first|refine blk_drewN ?_ _|refine blk_drew ?_|refine blk_alloc ?_ _));exact BK513.out) ?side1 ?side2 A18.out).mono ?_);(case side1=>repeat (first|exact (Kd.C_below HR1.out HB.out)|(with_reducible refine Kd.C_alloc ?_ _)|(with_reducible refine Kd.C_drewN ?_ _)|(with_reducible refine Kd.C_drew ?_)));(case side2=>exact HC1.out);rintro e w' ⟨rfl,⟨nd,rfl⟩⟩))
              go_roundg k3
              case measure=>have:=HK1.out;have:=HK2.out;have:=HK3.out;omega
              case rel=>exact ⟨(wrap64 (x11_3 + 1)),(Go.bits .or .u64 (IntKind.u64.wrap (x14_3 * 2)) t518),(wrap64 (x49_3 + 1)),(by first|rfl|(simp;done)|(simp [*];done)),(by first|rfl|(simp;done)|(simp [*];done)),(by first|rfl|(simp;done)|(simp [*];done)),H',⟨by have:=HK1.out;have:=HK2.out;have:=HK3.out;omega⟩,⟨by (with_reducible repeat (first|apply Kd.R_alloc|apply Kd.R_drewN|apply Kd.R_drew));exact HO_10.out⟩,⟨by (with_reducible repeat (first|refine blk_drewN ?_ _|refine blk_drew ?_|refine blk_alloc ?_ _));exact BK513.out⟩,⟨by repeat (first|(with_reducible first|exact HB.out|apply below_alloc|apply pw_below_drewN|apply below_drew1|refine below_set ?_ GE513.out)|exact HB.out)⟩⟩
             ·rw [if_neg c17] at H
              have c17b0:decide (x49_3 < (rd l0 x44_2))=false:=decide_eq_false c17
              clear c17
              by_cases c19:x10_2.length < 17592186044416
              ·rw [if_pos c19] at H
               have LMc19:=Aside0.mk c19
               clear c19
               obtain ⟨y519,hy519⟩:∃ y_:List Int,y_=(x10_2 ++ [x14_3]):=⟨_,rfl⟩
               replace H:(seal_Unpack.l1 k3 y519 x11_3 l0 (l0.length:Int) (wrap64 (x44_2 + 1)) l1)=some (r1,r2):=by first|(rw [hy519];with_reducible exact H)|(have H2_:=(Option.bind_some _ _).symm.trans H;rw [hy519];with_reducible exact H2_)|(have H2_:=(Option.bind_some _ _).symm.trans H;with_reducible exact H2_)|with_reducible exact H|(rw [hy519];exact H)|exact H
               have Ny519:=Aside0.mk hy519
               clear hy519
               have H':=Aside0.mk H
               clear H
               go_wp2_with (first|((with_reducible refine gate_builtin (b:=.append) (xs:=#[.tmp 60,.tmp 62]) rfl ?_);at_builtin;refine Kd.R_append (Kd.int .u64) (w0:=w) w.heap.size rfl (.tmp 60) (.tmp 62) 77 76 (.int .u64 0) 8 rfl Try.underlying77 info76 rfl (by decide) (by omega) u10 x10_2 x14_3 [.int .u64 x14_3] (fun _=>True) (fun _=>False) rfl rfl ?aP (fun _ hk=>hk.elim) ?aF ?aO ?aB ?aS ?aL ?_;(case aP=>exact rfl);(case aB=>exact (by repeat (first|(with_reducible first|exact HB.out|apply below_alloc|apply pw_below_drewN|apply below_drew1|refine below_set ?_ GE513.out)|exact HB.out)));(case aF=>exact (fun _ _=>trivial));(case aO=>exact (by (with_reducible repeat (first|apply Kd.R_alloc|apply Kd.R_drewN|apply Kd.R_drew));exact HO_10.out));(case aS=>exact (below_size (by repeat (first|(with_reducible first|exact HB.out|apply below_alloc|apply pw_below_drewN|apply below_drew1|refine below_set ?_ GE513.out)|exact HB.out))));(case aL=>have:=LMc19.out;omega);intro v520 w20 ho hb hg hat;rw [← Ny519.out] at ho;have n0_:=Aside0.mk (blk_grown (g:=gb513) (o:=.cells #[.slice A1 l1.length c1] 48 (0,0)) (by (with_reducible repeat (first|refine blk_drewN ?_ _|refine blk_drew ?_|refine blk_alloc ?_ _));exact BK513.out) hg (Kd.R_ne HO_10.out BK513.out (by decide)));have n1_:=Aside0.mk (hb);have n2_:=Aside0.mk (ho);clear BK513 HB HO_10;have BK513:=n0_;have HB:=n1_;have HO521:=n2_;clear n0_ n1_ n2_;clear ho hb hg hat))
               go_roundg k3
               case measure=>have:=HK1.out;have:=HK2.out;have:=HK3.out;omega
               case rel=>exact ⟨(y519),(x11_3),(wrap64 (x44_2 + 1)),(by first|rfl|(simp;done)|(simp [*];done)),(by first|rfl|(simp;done)|(simp [*];done)),H',⟨by have:=HK1.out;have:=HK2.out;have:=HK3.out;omega⟩,⟨by (with_reducible repeat (first|apply Kd.R_alloc|apply Kd.R_drewN|apply Kd.R_drew));exact HO521.out⟩,⟨by (with_reducible repeat (first|refine blk_drewN ?_ _|refine blk_drew ?_|refine blk_alloc ?_ _));exact BK513.out⟩,⟨by repeat (first|(with_reducible first|exact HB.out|apply below_alloc|apply pw_below_drewN|apply below_drew1|refine below_set ?_ GE513.out)|exact HB.out)⟩⟩
              ·rw [if_neg c19] at H
               exact absurd H (by simp)
          ·rw [if_neg c16] at H
           exact absurd H (by simp)
         ·rw [if_neg c15] at H
          exact absurd H (by simp)
        ·rw [if_neg c14] at H
         have c14b0:decide (x44_2 < (l0.length:Int))=false:=decide_eq_false c14
         clear c14
         simp only [Option.some.injEq,Prod.mk.injEq] at H
         obtain ⟨rfl,rfl⟩:=H
         go_wp2
         go_ret2
         exact ⟨_,by first|rfl|(simp [errW_none,errW_some] <;> rfl)|(simp [*,errW_none,errW_some] <;> rfl),by (with_reducible repeat (first|apply Kd.R_alloc|apply Kd.R_drewN|apply Kd.R_drew));exact HO_10.out,by repeat (first|(with_reducible first|exact HB.out|apply below_alloc|apply pw_below_drewN|apply below_drew1|refine below_set ?_ GE513.out)|exact HB.out)⟩
  ·rw [if_neg c5] at H
   have c5b0:((l1.length:Int) == (wrap64 (Int.tdiv (wrap64 (t514 + 7)) 8)))=false:=beq_eq_false_iff_ne.mpr c5
   have c5b1:((l1.length:Int) != (wrap64 (Int.tdiv (wrap64 (t514 + 7)) 8)))=true:=bne_iff_ne.mpr c5
   simp only [Option.some.injEq,Prod.mk.injEq] at H
   obtain ⟨rfl,rfl⟩:=H
   go_enter Try.func59,Try.ntmps59
   go_wp2_with (first|((with_reducible refine gate_dst (N:=3) rfl ?_);refine box_event ?hg (N:=3) ?hd (cs:=#[.slice A1 l1.length c1]) (t:=48) ?hr ?_;(case hd=>rfl);(case hg=>rfl);(case hr=>first|(go_simp;done)|(go_simp;rfl));intro gb513 hg w21 hbox hb;have n0_:=Aside0.mk (below_step (by repeat (first|(with_reducible first|exact HB.out|apply below_alloc|apply pw_below_drewN|apply below_drew1)|exact HB.out)) hb);have n1_:=Aside0.mk (hbox);have n2_:=Aside0.mk ((by rw [hg];exact (below_size (by repeat (first|(with_reducible first|exact HB.out|apply below_alloc|apply pw_below_drewN|apply below_drew1)|exact HB.out))):w.heap.size≤gb513));have n3_:=Aside0.mk ((by rw [hg];exact (below_size (by repeat (first|(with_reducible first|exact HB.out|apply below_alloc|apply pw_below_drewN|apply below_drew1)|exact HB.out))):w.heap.size≤gb513));clear HB;have HB:=n0_;have BK513:=n1_;have GW513:=n2_;have GE513:=n3_;clear n0_ n1_ n2_ n3_;clear hb hbox hg)|((with_reducible refine gate_callee (f:=66) rfl ?_);refine goesL_ (some 17) rfl rfl Try.func66 (by kernel_rfl) rfl #[.slice A0 l0.length c0] rfl (by (try simp only [List.map_toArray,List.map_cons,List.map_nil]);first|done|rfl|(simp only [List.length_drop,List.length_take];rfl)) ?_;(with_reducible refine (seal_total.calls k _ _ l0 t514 t515 _ ?side1 ?side2 A3.out).mono ?_);(case side1=>repeat (first|exact (Kd.C_below HR0.out HB.out)|(with_reducible refine Kd.C_alloc ?_ _)|(with_reducible refine Kd.C_drewN ?_ _)|(with_reducible refine Kd.C_drew ?_)));(case side2=>exact HC0.out);rintro e w' ⟨rfl,⟨nd,rfl⟩⟩;refine ⟨_,rfl,?_⟩;have hcz22_0:w21.cell? ⟨gb513,0,none⟩=some (.slice A1 l1.length c1):=(blk_cell BK513.out 0).trans rfl;have hfz22_0:=blk_frozen BK513.out 0))
   go_ret2
   exact ⟨_,by first|rfl|(simp [errW_none,errW_some] <;> rfl)|(simp [*,errW_none,errW_some] <;> rfl),by first|exact Kd.R_nil _ _ _ _ _|exact Kd.N_nil _ _ _ _ _|exact Kd.V_nil _ _ _ _ _|exact Kd.Q_nil _ _ _ _ _|exact Kd.S_nil _ _ _ _ _,by repeat (first|(with_reducible first|exact HB.out|apply below_alloc|apply pw_below_drewN|apply below_drew1|refine below_set ?_ GE513.out)|exact HB.out)⟩
 ·rw [if_neg c4] at H
  have c4b0:(t515 == 0)=false:=beq_eq_false_iff_ne.mpr c4
  have c4b1:(t515 != 0)=true:=bne_iff_ne.mpr c4
  simp only [Option.some.injEq,Prod.mk.injEq] at H
  obtain ⟨rfl,rfl⟩:=H
  go_enter Try.func59,Try.ntmps59
  go_wp2_with (first|((with_reducible refine gate_dst (N:=3) rfl ?_);refine box_event ?hg (N:=3) ?hd (cs:=#[.slice A1 l1.length c1]) (t:=48) ?hr ?_;(case hd=>rfl);(case hg=>rfl);(case hr=>first|(go_simp;done)|(go_simp;rfl));intro gb513 hg w23 hbox hb;have n0_:=Aside0.mk (below_step (by repeat (first|(with_reducible first|exact HB.out|apply below_alloc|apply pw_below_drewN|apply below_drew1)|exact HB.out)) hb);have n1_:=Aside0.mk (hbox);have n2_:=Aside0.mk ((by rw [hg];exact (below_size (by repeat (first|(with_reducible first|exact HB.out|apply below_alloc|apply pw_below_drewN|apply below_drew1)|exact HB.out))):w.heap.size≤gb513));have n3_:=Aside0.mk ((by rw [hg];exact (below_size (by repeat (first|(with_reducible first|exact HB.out|apply below_alloc|apply pw_below_drewN|apply below_drew1)|exact HB.out))):w.heap.size≤gb513));clear HB;have HB:=n0_;have BK513:=n1_;have GW513:=n2_;have GE513:=n3_;clear n0_ n1_ n2_ n3_;clear hb hbox hg)|((with_reducible refine gate_callee (f:=66) rfl ?_);refine goesL_ (some 17) rfl rfl Try.func66 (by kernel_rfl) rfl #[.slice A0 l0.length c0] rfl (by (try simp only [List.map_toArray,List.map_cons,List.map_nil]);first|done|rfl|(simp only [List.length_drop,List.length_take];rfl)) ?_;(with_reducible refine (seal_total.calls k _ _ l0 t514 t515 _ ?side1 ?side2 A3.out).mono ?_);(case side1=>repeat (first|exact (Kd.C_below HR0.out HB.out)|(with_reducible refine Kd.C_alloc ?_ _)|(with_reducible refine Kd.C_drewN ?_ _)|(with_reducible refine Kd.C_drew ?_)));(case side2=>exact HC0.out);rintro e w' ⟨rfl,⟨nd,rfl⟩⟩;refine ⟨_,rfl,?_⟩))
  go_ret2
  exact ⟨_,by first|rfl|(simp [errW_none,errW_some] <;> rfl)|(simp [*,errW_none,errW_some] <;> rfl),by first|exact Kd.R_nil _ _ _ _ _|exact Kd.N_nil _ _ _ _ _|exact Kd.V_nil _ _ _ _ _|exact Kd.Q_nil _ _ _ _ _|exact Kd.S_nil _ _ _ _ _,by repeat (first|(with_reducible first|exact HB.out|apply below_alloc|apply pw_below_drewN|apply below_drew1|refine below_set ?_ GE513.out)|exact HB.out)⟩
end Go.Proofs.Ytbdnmdmfnopihaa.Print
end
section
namespace Go.Proofs.Ytbdnmdmfnopihaa.Print
open Go.RowKit Go.Proofs.YtbdnmdmfnopihaaW.PrintWords Go.Proofs.YtbdnmdmfnopihaaW.PrintLast Go.Proofs.YtbdnmdmfnopihaaW.PrintMore
attribute [local go_sem] max2_int min2_int max_two min_two max_three min_three max_four min_four   -- for this text's walks alone
attribute [local go_sem ↓] Go.Proofs.Ytbdnmdmfnopihaa.Sem.isSome_setCell
attribute [local go_sem] Go.Instr.field Go.asAgg
set_option linter.unusedVariables false
set_option linter.unusedSimpArgs false
def layout_DecodeSuper.j0:Nat → List Int → List Int → Bool → Option (Int × Int × Int × Bool × Int × Int)
 | 0,_,_,_=>none
 | k + 1,x0,x6,x47=>if x47=true then (some (0,0,0,false,0,111)) else (if 1 < (x6.length:Int) then (if 2 < (x6.length:Int) then (if 3 < (x6.length:Int) then (if 4 < (x6.length:Int) then (if 5 < (x6.length:Int) then ((layout_EncodeSuper.f k (wrap64 (rd x6 1)) (wrap64 (rd x6 2)) (wrap64 (rd x6 4)) ((rd x6 3) == 1) (wrap64 (rd x6 5))).bind fun bt545=>(if bt545.2=0 then ((slices_Equal_byte_byte.f k bt545.1 x0).bind fun t549=>(if t549=true then (some (wrap64 (rd x6 1),wrap64 (rd x6 2),wrap64 (rd x6 4),((rd x6 3) == 1),wrap64 (rd x6 5),0)) else (some (0,0,0,false,0,111)))) else (some (0,0,0,false,0,111)))) else (none)) else (none)) else (none)) else (none)) else (none))
def layout_DecodeSuper.f (k:Nat) (l0:List Int):Option (Int × Int × Int × Bool × Int × Int):=(layout_superWidths.f).bind fun t523=>((seal_Width.f k t523).bind fun bt526=>(if (l0.length:Int)=256 then ((layout_superWidths.f).bind fun t528=>(if 0≤bt526.1 then (if bt526.1≤(l0.length:Int) then ((seal_Unpack.f k t528 (l0.take (bt526.1:Int).toNat)).bind fun bt532=>(if bt532.2=0 then (if 0 < (bt532.1.length:Int) then (if (rd bt532.1 0)=1397508432 then (if 3 < (bt532.1.length:Int) then (if (rd bt532.1 3) > 1 then (layout_DecodeSuper.j0 k l0 bt532.1 true) else (if 5 < (bt532.1.length:Int) then (layout_DecodeSuper.j0 k l0 bt532.1 (decide ((rd bt532.1 5) > 1152921504606846976))) else (none))) else (none)) else (layout_DecodeSuper.j0 k l0 bt532.1 true)) else (none)) else (layout_DecodeSuper.j0 k l0 bt532.1 true))) else (none)) else (none))) else (some (0,0,0,false,0,111))))
def layout_DecodeSuper.T4:Bool × List (List Nat × List Nat):=(true,[([],[]),([],[]),([],[]),([1,2],[1,2]),([0,3,0],[0,3]),([4],[4]),([5],[5]),([5],[5]),([6,4,0,1,2,3,4,5,6],[6]),([7,8,0,1,2,3,4,5,6,7,8],[7])])
def layout_DecodeSuper.B4:List Nat:=[0,0,0,6,15,31,63,63,127,511]
theorem layout_DecodeSuper.tab4:rtab .any (opsOf Try.f42 4)=layout_DecodeSuper.T4:=by kernel_rfl
theorem layout_DecodeSuper.bits4:waitsOk layout_DecodeSuper.T4.2 layout_DecodeSuper.B4=true:=by kernel_rfl
def layout_DecodeSuper.T7:Bool × List (List Nat × List Nat):=(true,[([],[]),([0],[0]),([1],[1]),([2],[2]),([],[]),([4],[4]),([5],[5]),([6],[6]),([3,7],[3,7]),([],[]),([9],[9]),([10],[10]),([11],[11]),([],[]),([13],[13]),([14],[14]),([15],[15]),([],[]),([17],[17]),([18],[18]),([19],[19]),([8,12,16,20],[8,12,16,20]),([],[]),([22,21,0,1,2,3,4,5,6,7,8,9,10,11,12,13,14,15,16,17,18,19,20,21,22],[21,22])])
def layout_DecodeSuper.B7:List Nat:=[0,1,3,7,0,16,48,112,255,0,512,1536,3584,0,8192,24576,57344,0,131072,393216,917504,2097151,0,8388607]
theorem layout_DecodeSuper.tab7:rtab .any (opsOf Try.f42 7)=layout_DecodeSuper.T7:=by kernel_rfl
theorem layout_DecodeSuper.bits7:waitsOk layout_DecodeSuper.T7.2 layout_DecodeSuper.B7=true:=by kernel_rfl
set_option maxHeartbeats 8000000 in
set_option maxRecDepth 100000 in
theorem layout_DecodeSuper.calls (k:Nat) (A0:Option Addr) (c0:Nat) (l0:List Int) (r1:Int) (r2:Int) (r3:Int) (r4:Bool) (r5:Int) (r6:Int) (w:World) (hr0:Kd.C (Kd.int .u8) w A0 l0.length l0) (hc0:l0.length≤c0) (h:layout_DecodeSuper.f k l0=some (r1,r2,r3,r4,r5,r6)) :
  Calls Try.prog 42 #[.slice A0 l0.length c0] w fun e w'=>e=.returned (.tuple #[.agg #[.int .i64 r1,.int .i64 r2,.int .i64 r3,.bool r4,.int .i64 r5],.int .i64 r6])∧Below w.heap.size w w':=by
 have hu63:=Try.underlying63
 have hu24:=Try.underlying24
 have HR0:=Aside0.mk hr0
 have HC0:=Aside0.mk hc0
 clear hr0 hc0
 have HB:=Aside0.mk (Below.refl w.heap.size w)
 have H:((layout_superWidths.f).bind fun t523=>((seal_Width.f k t523).bind fun bt526=>(if (l0.length:Int)=256 then ((layout_superWidths.f).bind fun t528=>(if 0≤bt526.1 then (if bt526.1≤(l0.length:Int) then ((seal_Unpack.f k t528 (l0.take (bt526.1:Int).toNat)).bind fun bt532=>(if bt532.2=0 then (if 0 < (bt532.1.length:Int) then (if (rd bt532.1 0)=1397508432 then (if 3 < (bt532.1.length:Int) then (if (rd bt532.1 3) > 1 then (layout_DecodeSuper.j0 k l0 bt532.1 true) else (if 5 < (bt532.1.length:Int) then (layout_DecodeSuper.j0 k l0 bt532.1 (decide ((rd bt532.1 5) > 1152921504606846976))) else (none))) else (none)) else (layout_DecodeSuper.j0 k l0 bt532.1 true)) else (none)) else (layout_DecodeSuper.j0 k l0 bt532.1 true))) else (none)) else (none))) else (some (0,0,0,false,0,111)))))=some (r1,r2,r3,r4,r5,r6):=h
 clear h
 replace H:=Option.bind_eq_some_iff.mp H
 obtain ⟨t523,A20,H⟩:=H
 replace H:((seal_Width.f k t523).bind fun bt526=>(if (l0.length:Int)=256 then ((layout_superWidths.f).bind fun t528=>(if 0≤bt526.1 then (if bt526.1≤(l0.length:Int) then ((seal_Unpack.f k t528 (l0.take (bt526.1:Int).toNat)).bind fun bt532=>(if bt532.2=0 then (if 0 < (bt532.1.length:Int) then (if (rd bt532.1 0)=1397508432 then (if 3 < (bt532.1.length:Int) then (if (rd bt532.1 3) > 1 then (layout_DecodeSuper.j0 k l0 bt532.1 true) else (if 5 < (bt532.1.length:Int) then (layout_DecodeSuper.j0 k l0 bt532.1 (decide ((rd bt532.1 5) > 1152921504606846976))) else (none))) else (none)) else (layout_DecodeSuper.j0 k l0 bt532.1 true)) else (none)) else (layout_DecodeSuper.j0 k l0 bt532.1 true))) else (none)) else (none))) else (some (0,0,0,false,0,111))))=some (r1,r2,r3,r4,r5,r6):=H
 have A2:=Aside0.mk A20
 clear A20
 replace H:=Option.bind_eq_some_iff.mp H
 obtain ⟨⟨t526,t527⟩,A30,H⟩:=H
 replace H:(if (l0.length:Int)=256 then ((layout_superWidths.f).bind fun t528=>(if 0≤t526 then (if t526≤(l0.length:Int) then ((seal_Unpack.f k t528 (l0.take (t526:Int).toNat)).bind fun bt532=>(if bt532.2=0 then (if 0 < (bt532.1.length:Int) then (if (rd bt532.1 0)=1397508432 then (if 3 < (bt532.1.length:Int) then (if (rd bt532.1 3) > 1 then (layout_DecodeSuper.j0 k l0 bt532.1 true) else (if 5 < (bt532.1.length:Int) then (layout_DecodeSuper.j0 k l0 bt532.1 (decide ((rd bt532.1 5) > 1152921504606846976))) else (none))) else (none)) else (layout_DecodeSuper.j0 k l0 bt532.1 true)) else (none)) else (layout_DecodeSuper.j0 k l0 bt532.1 true))) else (none)) else (none))) else (some (0,0,0,false,0,111)))=some (r1,r2,r3,r4,r5,r6):=H
 have A3:=Aside0.mk A30
 clear A30
 by_cases c4:(l0.length:Int)=256
 ·rw [if_pos c4] at H
  have c4b0:((l0.length:Int) == 256)=true:=beq_iff_eq.mpr c4
  have c4b1:((l0.length:Int) != 256)=false:=bne_eq_false_iff_eq.mpr c4
  clear c4
  replace H:=Option.bind_eq_some_iff.mp H
  obtain ⟨t528,A50,H⟩:=H
  replace H:(if 0≤t526 then (if t526≤(l0.length:Int) then ((seal_Unpack.f k t528 (l0.take (t526:Int).toNat)).bind fun bt532=>(if bt532.2=0 then (if 0 < (bt532.1.length:Int) then (if (rd bt532.1 0)=1397508432 then (if 3 < (bt532.1.length:Int) then (if (rd bt532.1 3) > 1 then (layout_DecodeSuper.j0 k l0 bt532.1 true) else (if 5 < (bt532.1.length:Int) then (layout_DecodeSuper.j0 k l0 bt532.1 (decide ((rd bt532.1 5) > 1152921504606846976))) else (none))) else (none)) else (layout_DecodeSuper.j0 k l0 bt532.1 true)) else (none)) else (layout_DecodeSuper.j0 k l0 bt532.1 true))) else (none)) else (none))=some (r1,r2,r3,r4,r5,r6):=H
  have A5:=Aside0.mk A50
  clear A50
  by_cases c6:0≤t526
  ·rw [if_pos c6] at H
   have c6b0:=eq_true c6
   have c6b1:decide (0≤t526)=true:=decide_eq_true c6
   clear c6
   by_cases c7:t526≤(l0.length:Int)
   ·rw [if_pos c7] at H
    have c7b0:=eq_true c7
    have c7b1:decide (t526≤(l0.length:Int))=true:=decide_eq_true c7
    clear c7
    replace H:=Option.bind_eq_some_iff.mp H
    obtain ⟨⟨t532,t533⟩,A80,H⟩:=H
    replace H:(if t533=0 then (if 0 < (t532.length:Int) then (if (rd t532 0)=1397508432 then (if 3 < (t532.length:Int) then (if (rd t532 3) > 1 then (layout_DecodeSuper.j0 k l0 t532 true) else (if 5 < (t532.length:Int) then (layout_DecodeSuper.j0 k l0 t532 (decide ((rd t532 5) > 1152921504606846976))) else (none))) else (none)) else (layout_DecodeSuper.j0 k l0 t532 true)) else (none)) else (layout_DecodeSuper.j0 k l0 t532 true))=some (r1,r2,r3,r4,r5,r6):=H
    have A8:=Aside0.mk A80
    clear A80
    have HC9:=Aside0.mk H
    clear H
    go_enter Try.func42,Try.ntmps42
    try go_wp2_with (first|((with_reducible refine gate_dst (N:=2) rfl ?_);refine box_event ?hg (N:=2) ?hd (cs:=#[.int .i64 0,.int .i64 0,.int .i64 0,.bool false,.int .i64 0]) (t:=63) ?hr ?_;(case hd=>rfl);(case hg=>rfl);(case hr=>first|(go_simp;done)|(go_simp;rfl));intro gb522 hg w10 hbox hb;have n0_:=Aside0.mk (below_step (by repeat (first|(with_reducible first|exact HB.out|apply below_alloc|apply pw_below_drewN|apply below_drew1)|exact HB.out)) hb);have n1_:=Aside0.mk (hbox);have n2_:=Aside0.mk ((by rw [hg];exact (below_size (by repeat (first|(with_reducible first|exact HB.out|apply below_alloc|apply pw_below_drewN|apply below_drew1)|exact HB.out))):w.heap.size≤gb522));have n3_:=Aside0.mk ((by rw [hg];exact (below_size (by repeat (first|(with_reducible first|exact HB.out|apply below_alloc|apply pw_below_drewN|apply below_drew1)|exact HB.out))):w.heap.size≤gb522));clear HB;have HB:=n0_;have BK522:=n1_;have GW522:=n2_;have GE522:=n3_;clear n0_ n1_ n2_ n3_;clear hb hbox hg)|((with_reducible refine gate_callee (f:=54) rfl ?_);refine goesL_ (some 12) rfl rfl Try.func54 (by kernel_rfl) rfl #[] rfl (by (try simp only [List.map_toArray,List.map_cons,List.map_nil]);first|done|rfl|(simp only [List.length_drop,List.length_take];rfl)) ?_;(with_reducible refine (layout_superWidths.calls  t523 _ A2.out).mono ?_);rintro e w11 ⟨v524,rfl,ho0,hb⟩;refine ⟨_,rfl,?_⟩;have n0_:=Aside0.mk (Kd.R_lower ho0 (below_size (by repeat (first|(with_reducible first|exact HB.out|apply below_alloc|apply pw_below_drewN|apply below_drew1|refine below_set ?_ GE522.out)|exact HB.out))));have n1_:=Aside0.mk (blk_below (g:=gb522) (o:=.cells #[.int .i64 0,.int .i64 0,.int .i64 0,.bool false,.int .i64 0] 63 (0,0)) (by (with_reducible repeat (first|refine blk_drewN ?_ _|refine blk_drew ?_|refine blk_alloc ?_ _));exact BK522.out) hb);have n2_:=Aside0.mk (below_step (by repeat (first|(with_reducible first|exact HB.out|apply below_alloc|apply pw_below_drewN|apply below_drew1|refine below_set ?_ GE522.out)|exact HB.out)) hb);clear BK522 HB;have HO525:=n0_;have BK522:=n1_;have HB:=n2_;clear n0_ n1_ n2_;(try clear hb);(try clear hb2);(try clear hk);(try clear hi);(try clear ho0);obtain ⟨Ao12,co12,eo12⟩:=Kd.R_slice HO525.out;subst eo12)|((with_reducible refine gate_callee (f:=58) rfl ?_);refine goesL_ (some 13) rfl rfl Try.func58 (by kernel_rfl) rfl #[.slice Ao12 t523.length co12] rfl (by (try simp only [List.map_toArray,List.map_cons,List.map_nil]);first|done|rfl|(simp only [List.length_drop,List.length_take];rfl)) ?_;(with_reducible refine (seal_Width.calls k _ _ t523 t526 t527 _ ?side1 ?side2 A3.out).mono ?_);(case side1=>repeat (first|exact (Kd.R_reads' HO525.out).2.2|(with_reducible refine Kd.C_alloc ?_ _)|(with_reducible refine Kd.C_drewN ?_ _)|(with_reducible refine Kd.C_drew ?_)));(case side2=>exact (Kd.R_reads' HO525.out).2.1);rintro e w' ⟨rfl,⟨nd,rfl⟩⟩;refine ⟨_,rfl,?_⟩))
    (try (rw [drewN_self w11];generalize hq_:World.drewN w11 _=w11;have n0_:Aside0 (Kd.R (Kd.int .i64) 3 w11 w.heap.size (fun _=>True) (.slice Ao12 t523.length co12) t523):=⟨by rw [← hq_];exact (by (with_reducible repeat (first|apply Kd.R_alloc|apply Kd.R_drewN|apply Kd.R_drew));exact HO525.out)⟩;have n1_:Aside0 (w11.heap[gb522]?=some (.cells #[.int .i64 0,.int .i64 0,.int .i64 0,.bool false,.int .i64 0] 63 (0,0))):=⟨by rw [← hq_];exact (by (with_reducible repeat (first|refine blk_drewN ?_ _|refine blk_drew ?_|refine blk_alloc ?_ _));exact BK522.out)⟩;have n2_:Aside0 (Below w.heap.size w w11):=⟨by rw [← hq_];exact (by repeat (first|(with_reducible first|exact HB.out|apply below_alloc|apply pw_below_drewN|apply below_drew1|refine below_set ?_ GE522.out)|exact HB.out))⟩;clear HO525 BK522 HB hq_;have HO525:=n0_;have BK522:=n1_;have HB:=n2_;clear n0_ n1_ n2_))
    have n0_:=Aside0.mk (Kd.R_drew HO525.out)
    have n1_:=Aside0.mk (blk_drew BK522.out)
    have n2_:=Aside0.mk (below_drew1 HB.out)
    clear HO525 BK522 HB
    have HO525:=n0_
    have BK522:=n1_
    have HB:=n2_
    clear n0_ n1_ n2_
    obtain ⟨i014,hi014,_,hsz14,_⟩:=info_parts info5
    obtain ⟨hcut14,hA14,hC14⟩:=print_take_of (P:=Try.prog) (Value.int .u8) 0 48 5 .i64 Try.underlying48 hi014 hsz14 A0 c0 l0 t526 (of_decide_eq_true (by first|(with_reducible assumption)|assumption)) (of_decide_eq_true (by first|(with_reducible assumption)|assumption)) HC0.out
    have HR531:=Aside0.mk (Kd.C_of_reads (h1:=fun _=>rfl) (hA14 _ (Kd.reads_of_C HR0.out)))
    have HC531:=Aside0.mk hC14
    clear hA14 hC14 hi014 hsz14
    refine start_ (n:=10) (S:=fun w'=>True) (ds:=[]) #[false,false,false,false,false,false,false,false,false,false] (by kernel_rfl) rfl rfl trivial (fun hHeld=>?_);refine with_tabW layout_DecodeSuper.tab4 layout_DecodeSuper.bits4 (fun HT_ HW_=>?_)
    generalize w11.drew=w13 at HO525 BK522 HB HR531 hHeld ⊢
    refine pure_ (i:=1) (N:=some 22) (v:=?_) (a':=?_) #[false,true,false,false,false,false,false,false,false,false] rfl rfl (any_of HT_.out (by kernel_rfl)) (fun _ _ _ h=>h) (Or.inl ⟨by rfl,?_⟩) ?_ ?_
    rotate_left
    ·intro w'
     go_simp
     with_reducible rfl
    rotate_left
    ·simp only [Act.put,List.setIfInBounds_toArray,List.set_cons_zero,List.set_cons_succ,i64_w,i32_w]
     rfl
    refine pure_ (i:=2) (N:=some 23) (v:=?_) (a':=?_) #[false,true,true,false,false,false,false,false,false,false] rfl rfl (any_of HT_.out (by kernel_rfl)) (fun _ _ _ h=>h) (Or.inl ⟨by rfl,?_⟩) ?_ ?_
    rotate_left
    ·intro w'
     go_simp
     with_reducible rfl
    rotate_left
    ·simp only [Act.put,List.setIfInBounds_toArray,List.set_cons_zero,List.set_cons_succ,i64_w,i32_w]
     rfl
    refine pure_ (i:=3) (N:=some 24) (v:=?_) (a':=?_) #[false,true,true,true,false,false,false,false,false,false] rfl rfl (any_of HT_.out (by kernel_rfl)) (fun _ _ _ h=>h) (Or.inl ⟨by rfl,?_⟩) ?_ ?_
    rotate_left
    ·intro w'
     go_simp
     with_reducible rfl
    rotate_left
    ·simp only [Act.put,List.setIfInBounds_toArray,List.set_cons_zero,List.set_cons_succ,i64_w,i32_w]
     rfl
    refine one_ (i:=0) (N:=some 21) #[true,true,true,true,false,false,false,false,false,false] rfl rfl (one_of HT_.out (by kernel_rfl)) (by decide) (fun K hK=>?_)
    refine goes_ Try.func54 (by kernel_rfl) rfl #[] (by rfl) rfl rfl (by (try simp only [List.map_toArray,List.map_cons,List.map_nil]);first|done|rfl|(simp only [List.length_drop,List.length_take];rfl)) ?_
    with_reducible refine (layout_superWidths.calls  t528 _ A5.out).mono ?_
    rintro e w15 ⟨v529,rfl,ho0,hb⟩
    refine ⟨_,rfl,?_⟩
    have n0_:=Aside0.mk (Kd.R_elder' (by (with_reducible repeat (first|apply Kd.R_alloc|apply Kd.R_drewN|apply Kd.R_drew));exact HO525.out) (Kd.R_base ho0) hb)
    have n1_:=Aside0.mk (Kd.R_lower (Kd.R_new' ho0 (Kd.R_lt (by (with_reducible repeat (first|apply Kd.R_alloc|apply Kd.R_drewN|apply Kd.R_drew));exact HO525.out))) (below_size (by repeat (first|(with_reducible first|exact HB.out|apply below_alloc|apply pw_below_drewN|apply below_drew1|refine below_set ?_ GE522.out)|exact HB.out))))
    have n2_:=Aside0.mk (blk_below (g:=gb522) (o:=.cells #[.int .i64 0,.int .i64 0,.int .i64 0,.bool false,.int .i64 0] 63 (0,0)) (by (with_reducible repeat (first|refine blk_drewN ?_ _|refine blk_drew ?_|refine blk_alloc ?_ _));exact BK522.out) hb)
    have n3_:=Aside0.mk (below_step (by repeat (first|(with_reducible first|exact HB.out|apply below_alloc|apply pw_below_drewN|apply below_drew1|refine below_set ?_ GE522.out)|exact HB.out)) hb)
    clear HO525 BK522 HB
    have HO525:=n0_
    have HO530:=n1_
    have BK522:=n2_
    have HB:=n3_
    clear n0_ n1_ n2_ n3_
    (try clear hb)
    (try clear hb2)
    (try clear hk)
    (try clear hi)
    (try clear ho0)
    obtain ⟨Ao16,co16,eo16⟩:=Kd.R_slice HO530.out
    (first|subst eo16|(injection eo16 with f1_ f2_ f3_;have f4_:=f1_.symm;have f5_:=f3_.symm;clear f1_ f2_ f3_;subst f4_;subst f5_))
    refine hK.out _ _ trivial (fun hHeld=>?_)
    clear hK K
    refine norm_ (a':=?_) ?_ ?_
    rotate_left
    ·show Act.put _ (some 21) _=_
     simp only [Act.put,List.setIfInBounds_toArray,List.set_cons_zero,List.set_cons_succ,i64_w,i32_w]
     rfl
    refine one_ (i:=4) (N:=some 25) #[true,true,true,true,true,false,false,false,false,false] rfl rfl (one_of HT_.out (by kernel_rfl)) (by decide) (fun K hK=>?_)
    refine goes_ Try.func59 (by kernel_rfl) rfl #[.slice Ao16 t528.length co16,.slice A0 (l0.take (t526:Int).toNat).length c0] (by rfl) rfl rfl (by (try simp only [List.map_toArray,List.map_cons,List.map_nil]);first|done|(rw [show (l0.take (t526:Int).toNat).length=t526.toNat from (by rw [List.length_take];have h_:(t526:Int)≤(l0.length:Int):=of_decide_eq_true (by first|(with_reducible assumption)|assumption);omega)] <;> rfl)|rfl|(simp only [List.length_drop,List.length_take];rfl)) ?_
    with_reducible refine (seal_Unpack.calls k _ _ t528 _ _ (l0.take (t526:Int).toNat) t532 t533 _ ?side1 ?side2 ?side3 ?side4 A8.out).mono ?_
    (case side1=>repeat (first|exact (Kd.R_reads' HO530.out).2.2|(with_reducible refine Kd.C_alloc ?_ _)|(with_reducible refine Kd.C_drewN ?_ _)|(with_reducible refine Kd.C_drew ?_)))
    (case side2=>exact (Kd.R_reads' HO530.out).2.1)
    (case side3=>repeat (first|exact (Kd.C_below HR531.out HB.out)|(with_reducible refine Kd.C_alloc ?_ _)|(with_reducible refine Kd.C_drewN ?_ _)|(with_reducible refine Kd.C_drew ?_)))
    (case side4=>exact HC531.out)
    rintro e w17 ⟨v534,rfl,ho0,hb⟩
    refine ⟨_,rfl,?_⟩
    have n0_:=Aside0.mk (Kd.R_below (by (with_reducible repeat (first|apply Kd.R_alloc|apply Kd.R_drewN|apply Kd.R_drew));exact HO525.out) hb)
    have n1_:=Aside0.mk (Kd.R_below (by (with_reducible repeat (first|apply Kd.R_alloc|apply Kd.R_drewN|apply Kd.R_drew));exact HO530.out) hb)
    have n2_:=Aside0.mk (Kd.R_lower ho0 (below_size (by repeat (first|(with_reducible first|exact HB.out|apply below_alloc|apply pw_below_drewN|apply below_drew1|refine below_set ?_ GE522.out)|exact HB.out))))
    have n3_:=Aside0.mk (blk_below (g:=gb522) (o:=.cells #[.int .i64 0,.int .i64 0,.int .i64 0,.bool false,.int .i64 0] 63 (0,0)) (by (with_reducible repeat (first|refine blk_drewN ?_ _|refine blk_drew ?_|refine blk_alloc ?_ _));exact BK522.out) hb)
    have n4_:=Aside0.mk (below_step (by repeat (first|(with_reducible first|exact HB.out|apply below_alloc|apply pw_below_drewN|apply below_drew1|refine below_set ?_ GE522.out)|exact HB.out)) hb)
    clear HO525 HO530 BK522 HB
    have HO525:=n0_
    have HO530:=n1_
    have HO535:=n2_
    have BK522:=n3_
    have HB:=n4_
    clear n0_ n1_ n2_ n3_ n4_
    (try clear hb)
    (try clear hb2)
    (try clear hk)
    (try clear hi)
    (try clear ho0)
    refine hK.out _ _ trivial (fun hHeld=>?_)
    clear hK K
    refine norm_ (a':=?_) ?_ ?_
    rotate_left
    ·show Act.put _ (some 25) _=_
     simp only [Act.put,List.setIfInBounds_toArray,List.set_cons_zero,List.set_cons_succ,i64_w,i32_w]
     rfl
    refine pure_ (i:=5) (N:=some 20) (v:=?_) (a':=?_) #[true,true,true,true,true,true,false,false,false,false] rfl rfl (any_of HT_.out (by kernel_rfl)) (fun _ _ _ h=>h) (Or.inl ⟨by rfl,?_⟩) ?_ ?_
    rotate_left
    ·intro w'
     go_simp
     with_reducible rfl
    rotate_left
    ·simp only [Act.put,List.setIfInBounds_toArray,List.set_cons_zero,List.set_cons_succ,i64_w,i32_w]
     rfl
    refine pure_ (i:=6) (N:=some 26) (v:=?_) (a':=?_) #[true,true,true,true,true,true,true,false,false,false] rfl rfl (any_of HT_.out (by kernel_rfl)) (fun _ _ _ h=>h) (Or.inl ⟨by rfl,?_⟩) ?_ ?_
    rotate_left
    ·intro w'
     go_simp
     with_reducible rfl
    rotate_left
    ·simp only [Act.put,List.setIfInBounds_toArray,List.set_cons_zero,List.set_cons_succ,i64_w,i32_w]
     rfl
    refine pure_ (i:=7) (N:=some 27) (v:=?_) (a':=?_) #[true,true,true,true,true,true,true,true,false,false] rfl rfl (any_of HT_.out (by kernel_rfl)) (fun _ _ _ h=>h) (Or.inl ⟨by rfl,?_⟩) ?_ ?_
    rotate_left
    ·intro w'
     go_simp
     with_reducible rfl
    rotate_left
    ·simp only [Act.put,List.setIfInBounds_toArray,List.set_cons_zero,List.set_cons_succ,i64_w,i32_w]
     rfl
    refine pure_ (i:=8) (N:=some 6) (v:=?_) (a':=?_) #[true,true,true,true,true,true,true,true,true,false] rfl rfl (any_of HT_.out (by kernel_rfl)) (fun _ _ _ h=>h) (Or.inl ⟨by rfl,?_⟩) ?_ ?_
    rotate_left
    ·intro w'
     go_simp
     with_reducible rfl
    rotate_left
    ·simp only [Act.put,List.setIfInBounds_toArray,List.set_cons_zero,List.set_cons_succ,i64_w,i32_w]
     rfl
    refine pure_ (i:=9) (N:=some 7) (v:=?_) (a':=?_) #[true,true,true,true,true,true,true,true,true,true] rfl rfl (any_of HT_.out (by kernel_rfl)) (fun _ _ _ h=>h) (Or.inl ⟨by rfl,?_⟩) ?_ ?_
    rotate_left
    ·intro w'
     go_simp
     with_reducible rfl
    rotate_left
    ·simp only [Act.put,List.setIfInBounds_toArray,List.set_cons_zero,List.set_cons_succ,i64_w,i32_w]
     rfl
    refine done_ (done_of HT_.out (by kernel_rfl)) ?_
    go_upto_region 5 with (fail)
    go_cut [47] (fun v47 wc=>∃ (kq:Nat) (x47_8:Bool),v47=.bool x47_8∧Aside0 (layout_DecodeSuper.j0 kq l0 t532 x47_8=some (r1,r2,r3,r4,r5,r6))∧Aside0 (kq≤k)∧Aside0 (Kd.R (Kd.int .u64) 76 wc w.heap.size (fun _=>True) v534 t532)∧Aside0 (wc.heap[gb522]?=some (.cells #[.int .i64 0,.int .i64 0,.int .i64 0,.bool false,.int .i64 0] 63 (0,0)))∧Aside0 (Below w.heap.size w wc))
    case first =>
     have H:=HC9.out
     clear HC9
     by_cases c18:t533=0
     ·rw [if_pos c18] at H
      have c18b0:(t533 == 0)=true:=beq_iff_eq.mpr c18
      have c18b1:(t533 != 0)=false:=bne_eq_false_iff_eq.mpr c18
      clear c18
      (first|rw [c18b0]|(simp only [i64_w,i32_w];rw [c18b0])|skip)
      by_cases c19:0 < (t532.length:Int)
      ·rw [if_pos c19] at H
       have c19b0:decide (0 < (t532.length:Int))=true:=decide_eq_true c19
       have c19b1:decide (0 < t532.length)=true:=decide_eq_true (by omega)
       clear c19
       by_cases c20:(rd t532 0)=1397508432
       ·rw [if_pos c20] at H
        have c20b0:((rd t532 0) == 1397508432)=true:=beq_iff_eq.mpr c20
        have c20b1:((rd t532 0) != 1397508432)=false:=bne_eq_false_iff_eq.mpr c20
        clear c20
        by_cases c21:3 < (t532.length:Int)
        ·rw [if_pos c21] at H
         have c21b0:decide (3 < (t532.length:Int))=true:=decide_eq_true c21
         have c21b1:decide (3 < t532.length)=true:=decide_eq_true (by omega)
         clear c21
         by_cases c22:(rd t532 3) > 1
         ·rw [if_pos c22] at H
          have c22b0:decide (1 < (rd t532 3))=true:=decide_eq_true c22
          clear c22
          have H':=Aside0.mk H
          clear H
          obtain ⟨Ao23,co23,eo23⟩:=Kd.R_slice HO535.out
          subst eo23
          have p536:0≤(0:Int):=(by omega)
          have q536:0 < (t532.length:Int):=of_decide_eq_true (by first|(with_reducible assumption)|assumption)
          obtain ⟨ad536,e536,hx536_0⟩:=Kd.at_int (Kd.R_reads' HO535.out).2.2 0 p536 q536
          cases e536
          have qi536:(0 < t532.length)=True:=eq_true (by omega)
          (try rw [show ((0:Int)).toNat=0 from rfl] at hx536_0)
          (try rw [Addr.add_zero'] at hx536_0)
          replace p536:=eq_true p536
          replace q536:=eq_true q536
          have p537:0≤(3:Int):=(by omega)
          have q537:3 < (t532.length:Int):=of_decide_eq_true (by first|(with_reducible assumption)|assumption)
          obtain ⟨ad537,e537,hx537_0⟩:=Kd.at_int (Kd.R_reads' HO535.out).2.2 3 p537 q537
          obtain rfl:ad536=ad537:=(by injection e537)
          (try simp only [show (3:Int).toNat=3 from rfl,Nat.reduceMul,Nat.reduceEqDiff,Go.Addr.add,↓reduceIte] at hx537_0)
          have qi537:(3 < t532.length)=True:=eq_true (by omega)
          (try rw [show ((3:Int)).toNat=3 from rfl] at hx537_0)
          replace p537:=eq_true p537
          replace q537:=eq_true q537
          go_wp2
          go_meet
          case rel=>exact ⟨_,(true),(by first|rfl|(simp;done)|(simp [*];done)),H',⟨by first|omega|exact Nat.le_refl _⟩,⟨by (with_reducible repeat (first|apply Kd.R_alloc|apply Kd.R_drewN|apply Kd.R_drew));exact HO535.out⟩,⟨by (with_reducible repeat (first|refine blk_drewN ?_ _|refine blk_drew ?_|refine blk_alloc ?_ _));exact BK522.out⟩,⟨by repeat (first|(with_reducible first|exact HB.out|apply below_alloc|apply pw_below_drewN|apply below_drew1|refine below_set ?_ GE522.out)|exact HB.out)⟩⟩
         ·rw [if_neg c22] at H
          have c22b0:decide (1 < (rd t532 3))=false:=decide_eq_false c22
          clear c22
          by_cases c24:5 < (t532.length:Int)
          ·rw [if_pos c24] at H
           have c24b0:decide (5 < (t532.length:Int))=true:=decide_eq_true c24
           have c24b1:decide (5 < t532.length)=true:=decide_eq_true (by omega)
           clear c24
           have H':=Aside0.mk H
           clear H
           obtain ⟨Ao25,co25,eo25⟩:=Kd.R_slice HO535.out
           subst eo25
           have p536:0≤(0:Int):=(by omega)
           have q536:0 < (t532.length:Int):=of_decide_eq_true (by first|(with_reducible assumption)|assumption)
           obtain ⟨ad536,e536,hx536_0⟩:=Kd.at_int (Kd.R_reads' HO535.out).2.2 0 p536 q536
           cases e536
           have qi536:(0 < t532.length)=True:=eq_true (by omega)
           (try rw [show ((0:Int)).toNat=0 from rfl] at hx536_0)
           (try rw [Addr.add_zero'] at hx536_0)
           replace p536:=eq_true p536
           replace q536:=eq_true q536
           have p537:0≤(3:Int):=(by omega)
           have q537:3 < (t532.length:Int):=of_decide_eq_true (by first|(with_reducible assumption)|assumption)
           obtain ⟨ad537,e537,hx537_0⟩:=Kd.at_int (Kd.R_reads' HO535.out).2.2 3 p537 q537
           obtain rfl:ad536=ad537:=(by injection e537)
           (try simp only [show (3:Int).toNat=3 from rfl,Nat.reduceMul,Nat.reduceEqDiff,Go.Addr.add,↓reduceIte] at hx537_0)
           have qi537:(3 < t532.length)=True:=eq_true (by omega)
           (try rw [show ((3:Int)).toNat=3 from rfl] at hx537_0)
           replace p537:=eq_true p537
           replace q537:=eq_true q537
           have p538:0≤(5:Int):=(by omega)
           have q538:5 < (t532.length:Int):=of_decide_eq_true (by first|(with_reducible assumption)|assumption)
           obtain ⟨ad538,e538,hx538_0⟩:=Kd.at_int (Kd.R_reads' HO535.out).2.2 5 p538 q538
           obtain rfl:ad536=ad538:=(by injection e538)
           (try simp only [show (5:Int).toNat=5 from rfl,Nat.reduceMul,Nat.reduceEqDiff,Go.Addr.add,↓reduceIte] at hx538_0)
           have qi538:(5 < t532.length)=True:=eq_true (by omega)
           (try rw [show ((5:Int)).toNat=5 from rfl] at hx538_0)
           replace p538:=eq_true p538
           replace q538:=eq_true q538
           go_wp2
           go_meet
           case rel=>exact ⟨_,(decide ((rd t532 5) > 1152921504606846976)),(by first|rfl|(simp;done)|(simp [*];done)),H',⟨by first|omega|exact Nat.le_refl _⟩,⟨by (with_reducible repeat (first|apply Kd.R_alloc|apply Kd.R_drewN|apply Kd.R_drew));exact HO535.out⟩,⟨by (with_reducible repeat (first|refine blk_drewN ?_ _|refine blk_drew ?_|refine blk_alloc ?_ _));exact BK522.out⟩,⟨by repeat (first|(with_reducible first|exact HB.out|apply below_alloc|apply pw_below_drewN|apply below_drew1|refine below_set ?_ GE522.out)|exact HB.out)⟩⟩
          ·rw [if_neg c24] at H
           exact absurd H (by simp)
        ·rw [if_neg c21] at H
         exact absurd H (by simp)
       ·rw [if_neg c20] at H
        have c20b0:((rd t532 0) == 1397508432)=false:=beq_eq_false_iff_ne.mpr c20
        have c20b1:((rd t532 0) != 1397508432)=true:=bne_iff_ne.mpr c20
        have H':=Aside0.mk H
        clear H
        obtain ⟨Ao26,co26,eo26⟩:=Kd.R_slice HO535.out
        subst eo26
        have p536:0≤(0:Int):=(by omega)
        have q536:0 < (t532.length:Int):=of_decide_eq_true (by first|(with_reducible assumption)|assumption)
        obtain ⟨ad536,e536,hx536_0⟩:=Kd.at_int (Kd.R_reads' HO535.out).2.2 0 p536 q536
        cases e536
        have qi536:(0 < t532.length)=True:=eq_true (by omega)
        (try rw [show ((0:Int)).toNat=0 from rfl] at hx536_0)
        (try rw [Addr.add_zero'] at hx536_0)
        replace p536:=eq_true p536
        replace q536:=eq_true q536
        go_wp2
        go_meet
        case rel=>exact ⟨_,(true),(by first|rfl|(simp;done)|(simp [*];done)),H',⟨by first|omega|exact Nat.le_refl _⟩,⟨by (with_reducible repeat (first|apply Kd.R_alloc|apply Kd.R_drewN|apply Kd.R_drew));exact HO535.out⟩,⟨by (with_reducible repeat (first|refine blk_drewN ?_ _|refine blk_drew ?_|refine blk_alloc ?_ _));exact BK522.out⟩,⟨by repeat (first|(with_reducible first|exact HB.out|apply below_alloc|apply pw_below_drewN|apply below_drew1|refine below_set ?_ GE522.out)|exact HB.out)⟩⟩
      ·rw [if_neg c19] at H
       exact absurd H (by simp)
     ·rw [if_neg c18] at H
      have c18b0:(t533 == 0)=false:=beq_eq_false_iff_ne.mpr c18
      have c18b1:(t533 != 0)=true:=bne_iff_ne.mpr c18
      (first|rw [c18b0]|(simp only [i64_w,i32_w];rw [c18b0])|skip)
      have H':=Aside0.mk H
      clear H
      go_wp2
      go_meet
      case rel=>exact ⟨_,(true),(by first|rfl|(simp;done)|(simp [*];done)),H',⟨by first|omega|exact Nat.le_refl _⟩,⟨by (with_reducible repeat (first|apply Kd.R_alloc|apply Kd.R_drewN|apply Kd.R_drew));exact HO535.out⟩,⟨by (with_reducible repeat (first|refine blk_drewN ?_ _|refine blk_drew ?_|refine blk_alloc ?_ _));exact BK522.out⟩,⟨by repeat (first|(with_reducible first|exact HB.out|apply below_alloc|apply pw_below_drewN|apply below_drew1|refine below_set ?_ GE522.out)|exact HB.out)⟩⟩
    case rest =>
     clear HC9
     try clear c1
     try clear c2
     try clear p2
     try clear c4
     try clear c4b0
     try clear c4b1
     try clear c5
     try clear p5
     try clear q5
     try clear hx5
     try clear qi5
     try clear c6
     try clear c6b0
     try clear c6b1
     try clear c7
     try clear c7b0
     try clear c7b1
     try clear c18
     try clear c18b0
     try clear c18b1
     try clear c19
     try clear c19b0
     try clear c19b1
     try clear c20
     try clear c20b0
     try clear c20b1
     try clear c21
     try clear c21b0
     try clear c21b1
     try clear c22
     try clear c22b0
     try clear c24
     try clear c24b0
     try clear c24b1
     try clear hx536_0
     try clear hx537_0
     try clear hx538_0
     try clear p536
     try clear p537
     try clear p538
     try clear q536
     try clear q537
     try clear q538
     obtain ⟨kq,x47_8,rfl,HA,HJ8,HO_6,BK522,HB⟩:=hcut
     cases kq with
     | zero=>exact absurd HA.out (by simp [layout_DecodeSuper.j0])
     | succ kj8 =>
      have H:=HA.out
      clear HA
      simp only [layout_DecodeSuper.j0] at H
      by_cases c27:x47_8=true
      ·subst c27
       have H1:(some (0,0,0,false,0,111))=some (r1,r2,r3,r4,r5,r6):=by rw [if_pos rfl] at H;exact H
       clear H
       have H:=H1
       clear H1
       simp only [Option.some.injEq,Prod.mk.injEq] at H
       obtain ⟨rfl,rfl,rfl,rfl,rfl,rfl⟩:=H
       have hcz28_0:wc.cell? ⟨gb522,0,none⟩=some (.int .i64 0):=(blk_cell BK522.out 0).trans rfl
       have hcz28_1:wc.cell? ⟨gb522,1,none⟩=some (.int .i64 0):=(blk_cell BK522.out 1).trans rfl
       have hcz28_2:wc.cell? ⟨gb522,2,none⟩=some (.int .i64 0):=(blk_cell BK522.out 2).trans rfl
       have hcz28_3:wc.cell? ⟨gb522,3,none⟩=some (.bool false):=(blk_cell BK522.out 3).trans rfl
       have hcz28_4:wc.cell? ⟨gb522,4,none⟩=some (.int .i64 0):=(blk_cell BK522.out 4).trans rfl
       have hfz28_0:=blk_frozen BK522.out 0
       have hfz28_1:=blk_frozen BK522.out 1
       have hfz28_2:=blk_frozen BK522.out 2
       have hfz28_3:=blk_frozen BK522.out 3
       have hfz28_4:=blk_frozen BK522.out 4
       go_wp2
       refine bodyPost_ret (results_ct rfl _ _ gb522 63 #[.int .i64 0,.int .i64 0,.int .i64 0,.bool false,.int .i64 0] (0,0) _ rfl (by (with_reducible repeat (first|refine blk_drewN ?_ _|refine blk_drew ?_|refine blk_alloc ?_ _));refine blk_put (cs:=#[.int .i64 0,.int .i64 0,.int .i64 0,.bool false,.int .i64 0]) ?_ 4 _ rfl;(with_reducible repeat (first|refine blk_drewN ?_ _|refine blk_drew ?_|refine blk_alloc ?_ _));refine blk_put (cs:=#[.int .i64 0,.int .i64 0,.int .i64 0,.bool false,.int .i64 0]) ?_ 3 _ rfl;(with_reducible repeat (first|refine blk_drewN ?_ _|refine blk_drew ?_|refine blk_alloc ?_ _));refine blk_put (cs:=#[.int .i64 0,.int .i64 0,.int .i64 0,.bool false,.int .i64 0]) ?_ 2 _ rfl;(with_reducible repeat (first|refine blk_drewN ?_ _|refine blk_drew ?_|refine blk_alloc ?_ _));refine blk_put (cs:=#[.int .i64 0,.int .i64 0,.int .i64 0,.bool false,.int .i64 0]) ?_ 1 _ rfl;(with_reducible repeat (first|refine blk_drewN ?_ _|refine blk_drew ?_|refine blk_alloc ?_ _));refine blk_put (cs:=#[.int .i64 0,.int .i64 0,.int .i64 0,.bool false,.int .i64 0]) ?_ 0 _ rfl;(with_reducible repeat (first|refine blk_drewN ?_ _|refine blk_drew ?_|refine blk_alloc ?_ _));exact BK522.out) Try.underlying63 rfl (by kernel_rfl)) rfl ?_
       exact ⟨by first|rfl|(simp [errW_none,errW_some] <;> rfl)|(simp [*,errW_none,errW_some] <;> rfl),by repeat (first|(with_reducible first|exact HB.out|apply below_alloc|apply pw_below_drewN|apply below_drew1|refine below_set ?_ GE522.out)|exact HB.out)⟩
      ·replace c27:=Bool.eq_false_iff.mpr c27
       subst c27
       have H1:(if 1 < (t532.length:Int) then (if 2 < (t532.length:Int) then (if 3 < (t532.length:Int) then (if 4 < (t532.length:Int) then (if 5 < (t532.length:Int) then ((layout_EncodeSuper.f kj8 (wrap64 (rd t532 1)) (wrap64 (rd t532 2)) (wrap64 (rd t532 4)) ((rd t532 3) == 1) (wrap64 (rd t532 5))).bind fun bt545=>(if bt545.2=0 then ((slices_Equal_byte_byte.f kj8 bt545.1 l0).bind fun t549=>(if t549=true then (some (wrap64 (rd t532 1),wrap64 (rd t532 2),wrap64 (rd t532 4),((rd t532 3) == 1),wrap64 (rd t532 5),0)) else (some (0,0,0,false,0,111)))) else (some (0,0,0,false,0,111)))) else (none)) else (none)) else (none)) else (none)) else (none))=some (r1,r2,r3,r4,r5,r6):=by rw [if_neg (show ¬ (false=true) by decide)] at H;exact H
       clear H
       have H:=H1
       clear H1
       by_cases c29:1 < (t532.length:Int)
       ·rw [if_pos c29] at H
        have c29b0:decide (1 < (t532.length:Int))=true:=decide_eq_true c29
        have c29b1:decide (1 < t532.length)=true:=decide_eq_true (by omega)
        clear c29
        by_cases c30:2 < (t532.length:Int)
        ·rw [if_pos c30] at H
         have c30b0:decide (2 < (t532.length:Int))=true:=decide_eq_true c30
         have c30b1:decide (2 < t532.length)=true:=decide_eq_true (by omega)
         clear c30
         by_cases c31:3 < (t532.length:Int)
         ·rw [if_pos c31] at H
          have c31b0:decide (3 < (t532.length:Int))=true:=decide_eq_true c31
          have c31b1:decide (3 < t532.length)=true:=decide_eq_true (by omega)
          clear c31
          by_cases c32:4 < (t532.length:Int)
          ·rw [if_pos c32] at H
           have c32b0:decide (4 < (t532.length:Int))=true:=decide_eq_true c32
           have c32b1:decide (4 < t532.length)=true:=decide_eq_true (by omega)
           clear c32
           by_cases c33:5 < (t532.length:Int)
           ·rw [if_pos c33] at H
            have c33b0:decide (5 < (t532.length:Int))=true:=decide_eq_true c33
            have c33b1:decide (5 < t532.length)=true:=decide_eq_true (by omega)
            clear c33
            replace H:=Option.bind_eq_some_iff.mp H
            obtain ⟨⟨t545,t548⟩,A340,H⟩:=H
            replace H:(if t548=0 then ((slices_Equal_byte_byte.f kj8 t545 l0).bind fun t549=>(if t549=true then (some (wrap64 (rd t532 1),wrap64 (rd t532 2),wrap64 (rd t532 4),((rd t532 3) == 1),wrap64 (rd t532 5),0)) else (some (0,0,0,false,0,111)))) else (some (0,0,0,false,0,111)))=some (r1,r2,r3,r4,r5,r6):=H
            have A34:=Aside0.mk A340
            clear A340
            by_cases c35:t548=0
            ·rw [if_pos c35] at H
             have c35b0:(t548 == 0)=true:=beq_iff_eq.mpr c35
             have c35b1:(t548 != 0)=false:=bne_eq_false_iff_eq.mpr c35
             clear c35
             replace H:=Option.bind_eq_some_iff.mp H
             obtain ⟨t549,A360,H⟩:=H
             replace H:(if t549=true then (some (wrap64 (rd t532 1),wrap64 (rd t532 2),wrap64 (rd t532 4),((rd t532 3) == 1),wrap64 (rd t532 5),0)) else (some (0,0,0,false,0,111)))=some (r1,r2,r3,r4,r5,r6):=H
             have A36:=Aside0.mk A360
             clear A360
             by_cases c37:t549=true
             ·subst c37
              have H1:(some (wrap64 (rd t532 1),wrap64 (rd t532 2),wrap64 (rd t532 4),((rd t532 3) == 1),wrap64 (rd t532 5),0))=some (r1,r2,r3,r4,r5,r6):=by rw [if_pos rfl] at H;exact H
              clear H
              have H:=H1
              clear H1
              simp only [Option.some.injEq,Prod.mk.injEq] at H
              obtain ⟨rfl,rfl,rfl,rfl,rfl,rfl⟩:=H
              try go_wp2
              have n0_:=Aside0.mk (Kd.R_drew HO_6.out)
              have n1_:=Aside0.mk (blk_drew BK522.out)
              have n2_:=Aside0.mk (below_drew1 HB.out)
              clear HO_6 BK522 HB
              have HO_6:=n0_
              have BK522:=n1_
              have HB:=n2_
              clear n0_ n1_ n2_
              obtain ⟨Ao39,co39,eo39⟩:=Kd.R_slice HO_6.out
              (first|subst eo39|(injection eo39 with f1_ f2_ f3_;have f4_:=f1_.symm;have f5_:=f3_.symm;clear f1_ f2_ f3_;subst f4_;subst f5_))
              have p539:0≤(1:Int):=(by omega)
              have q539:1 < (t532.length:Int):=of_decide_eq_true (by first|(with_reducible assumption)|assumption)
              obtain ⟨ad539,e539,hx539_0⟩:=Kd.at_int (Kd.R_reads' HO_6.out).2.2 1 p539 q539
              cases e539
              (try simp only [show (1:Int).toNat=1 from rfl,Nat.reduceMul,Nat.reduceEqDiff,Go.Addr.add,↓reduceIte] at hx539_0)
              have qi539:(1 < t532.length)=True:=eq_true (by omega)
              (try rw [show ((1:Int)).toNat=1 from rfl] at hx539_0)
              replace p539:=eq_true p539
              replace q539:=eq_true q539
              have p540:0≤(2:Int):=(by omega)
              have q540:2 < (t532.length:Int):=of_decide_eq_true (by first|(with_reducible assumption)|assumption)
              obtain ⟨ad540,e540,hx540_0⟩:=Kd.at_int (Kd.R_reads' HO_6.out).2.2 2 p540 q540
              obtain rfl:ad539=ad540:=(by injection e540)
              (try simp only [show (2:Int).toNat=2 from rfl,Nat.reduceMul,Nat.reduceEqDiff,Go.Addr.add,↓reduceIte] at hx540_0)
              have qi540:(2 < t532.length)=True:=eq_true (by omega)
              (try rw [show ((2:Int)).toNat=2 from rfl] at hx540_0)
              replace p540:=eq_true p540
              replace q540:=eq_true q540
              have p541:0≤(3:Int):=(by omega)
              have q541:3 < (t532.length:Int):=of_decide_eq_true (by first|(with_reducible assumption)|assumption)
              obtain ⟨ad541,e541,hx541_0⟩:=Kd.at_int (Kd.R_reads' HO_6.out).2.2 3 p541 q541
              obtain rfl:ad539=ad541:=(by injection e541)
              (try simp only [show (3:Int).toNat=3 from rfl,Nat.reduceMul,Nat.reduceEqDiff,Go.Addr.add,↓reduceIte] at hx541_0)
              have qi541:(3 < t532.length)=True:=eq_true (by omega)
              (try rw [show ((3:Int)).toNat=3 from rfl] at hx541_0)
              replace p541:=eq_true p541
              replace q541:=eq_true q541
              have p542:0≤(4:Int):=(by omega)
              have q542:4 < (t532.length:Int):=of_decide_eq_true (by first|(with_reducible assumption)|assumption)
              obtain ⟨ad542,e542,hx542_0⟩:=Kd.at_int (Kd.R_reads' HO_6.out).2.2 4 p542 q542
              obtain rfl:ad539=ad542:=(by injection e542)
              (try simp only [show (4:Int).toNat=4 from rfl,Nat.reduceMul,Nat.reduceEqDiff,Go.Addr.add,↓reduceIte] at hx542_0)
              have qi542:(4 < t532.length)=True:=eq_true (by omega)
              (try rw [show ((4:Int)).toNat=4 from rfl] at hx542_0)
              replace p542:=eq_true p542
              replace q542:=eq_true q542
              have p543:0≤(5:Int):=(by omega)
              have q543:5 < (t532.length:Int):=of_decide_eq_true (by first|(with_reducible assumption)|assumption)
              obtain ⟨ad543,e543,hx543_0⟩:=Kd.at_int (Kd.R_reads' HO_6.out).2.2 5 p543 q543
              obtain rfl:ad539=ad543:=(by injection e543)
              (try simp only [show (5:Int).toNat=5 from rfl,Nat.reduceMul,Nat.reduceEqDiff,Go.Addr.add,↓reduceIte] at hx543_0)
              have qi543:(5 < t532.length)=True:=eq_true (by omega)
              (try rw [show ((5:Int)).toNat=5 from rfl] at hx543_0)
              replace p543:=eq_true p543
              replace q543:=eq_true q543
              refine start_ (n:=24) (S:=fun w'=>w'.cell? ⟨ad539.block,ad539.off + 1,none⟩=some (.int .u64 (rd t532 1))∧w'.cell? ⟨ad539.block,ad539.off + 2,none⟩=some (.int .u64 (rd t532 2))∧w'.cell? ⟨ad539.block,ad539.off + 3,none⟩=some (.int .u64 (rd t532 3))∧w'.cell? ⟨ad539.block,ad539.off + 4,none⟩=some (.int .u64 (rd t532 4))∧w'.cell? ⟨ad539.block,ad539.off + 5,none⟩=some (.int .u64 (rd t532 5))) (ds:=[]) #[false,false,false,false,false,false,false,false,false,false,false,false,false,false,false,false,false,false,false,false,false,false,false,false] (by kernel_rfl) rfl rfl ⟨hx539_0,hx540_0,hx541_0,hx542_0,hx543_0⟩ (fun hHeld=>?_);refine with_tabW layout_DecodeSuper.tab7 layout_DecodeSuper.bits7 (fun HT_ HW_=>?_)
              generalize wc.drew=w38 at HO_6 BK522 HB hx539_0 hx540_0 hx541_0 hx542_0 hx543_0 hHeld ⊢
              refine pure_ (i:=0) (N:=some 49) (v:=?_) (a':=?_) #[true,false,false,false,false,false,false,false,false,false,false,false,false,false,false,false,false,false,false,false,false,false,false,false] rfl rfl (any_of HT_.out (by kernel_rfl)) (fun _ _ _ h=>h) (Or.inl ⟨by rfl,?_⟩) ?_ ?_
              rotate_left
              ·intro w'
               go_simp
               with_reducible rfl
              rotate_left
              ·simp only [Act.put,List.setIfInBounds_toArray,List.set_cons_zero,List.set_cons_succ,i64_w,i32_w]
               rfl
              refine pure_ (i:=1) (N:=some 50) (v:=?_) (a':=?_) #[true,true,false,false,false,false,false,false,false,false,false,false,false,false,false,false,false,false,false,false,false,false,false,false] rfl rfl (any_of HT_.out (by kernel_rfl)) (fun _ _ _ h=>h) (Or.inl ⟨by rfl,?_⟩) ?_ ?_
              rotate_left
              ·intro w'
               go_simp
               with_reducible rfl
              rotate_left
              ·simp only [Act.put,List.setIfInBounds_toArray,List.set_cons_zero,List.set_cons_succ,i64_w,i32_w]
               rfl
              refine pure_ (i:=4) (N:=some 53) (v:=?_) (a':=?_) #[true,true,false,false,true,false,false,false,false,false,false,false,false,false,false,false,false,false,false,false,false,false,false,false] rfl rfl (any_of HT_.out (by kernel_rfl)) (fun _ _ _ h=>h) (Or.inl ⟨by rfl,?_⟩) ?_ ?_
              rotate_left
              ·intro w'
               go_simp
               with_reducible rfl
              rotate_left
              ·simp only [Act.put,List.setIfInBounds_toArray,List.set_cons_zero,List.set_cons_succ,i64_w,i32_w]
               rfl
              refine pure_ (i:=5) (N:=some 54) (v:=?_) (a':=?_) #[true,true,false,false,true,true,false,false,false,false,false,false,false,false,false,false,false,false,false,false,false,false,false,false] rfl rfl (any_of HT_.out (by kernel_rfl)) (fun _ _ _ h=>h) (Or.inl ⟨by rfl,?_⟩) ?_ ?_
              rotate_left
              ·intro w'
               go_simp
               with_reducible rfl
              rotate_left
              ·simp only [Act.put,List.setIfInBounds_toArray,List.set_cons_zero,List.set_cons_succ,i64_w,i32_w]
               rfl
              refine pure_ (i:=9) (N:=some 58) (v:=?_) (a':=?_) #[true,true,false,false,true,true,false,false,false,true,false,false,false,false,false,false,false,false,false,false,false,false,false,false] rfl rfl (any_of HT_.out (by kernel_rfl)) (fun _ _ _ h=>h) (Or.inl ⟨by rfl,?_⟩) ?_ ?_
              rotate_left
              ·intro w'
               go_simp
               with_reducible rfl
              rotate_left
              ·simp only [Act.put,List.setIfInBounds_toArray,List.set_cons_zero,List.set_cons_succ,i64_w,i32_w]
               rfl
              refine pure_ (i:=10) (N:=some 59) (v:=?_) (a':=?_) #[true,true,false,false,true,true,false,false,false,true,true,false,false,false,false,false,false,false,false,false,false,false,false,false] rfl rfl (any_of HT_.out (by kernel_rfl)) (fun _ _ _ h=>h) (Or.inl ⟨by rfl,?_⟩) ?_ ?_
              rotate_left
              ·intro w'
               go_simp
               with_reducible rfl
              rotate_left
              ·simp only [Act.put,List.setIfInBounds_toArray,List.set_cons_zero,List.set_cons_succ,i64_w,i32_w]
               rfl
              refine pure_ (i:=13) (N:=some 62) (v:=?_) (a':=?_) #[true,true,false,false,true,true,false,false,false,true,true,false,false,true,false,false,false,false,false,false,false,false,false,false] rfl rfl (any_of HT_.out (by kernel_rfl)) (fun _ _ _ h=>h) (Or.inl ⟨by rfl,?_⟩) ?_ ?_
              rotate_left
              ·intro w'
               go_simp
               with_reducible rfl
              rotate_left
              ·simp only [Act.put,List.setIfInBounds_toArray,List.set_cons_zero,List.set_cons_succ,i64_w,i32_w]
               rfl
              refine pure_ (i:=14) (N:=some 63) (v:=?_) (a':=?_) #[true,true,false,false,true,true,false,false,false,true,true,false,false,true,true,false,false,false,false,false,false,false,false,false] rfl rfl (any_of HT_.out (by kernel_rfl)) (fun _ _ _ h=>h) (Or.inl ⟨by rfl,?_⟩) ?_ ?_
              rotate_left
              ·intro w'
               go_simp
               with_reducible rfl
              rotate_left
              ·simp only [Act.put,List.setIfInBounds_toArray,List.set_cons_zero,List.set_cons_succ,i64_w,i32_w]
               rfl
              refine pure_ (i:=17) (N:=some 66) (v:=?_) (a':=?_) #[true,true,false,false,true,true,false,false,false,true,true,false,false,true,true,false,false,true,false,false,false,false,false,false] rfl rfl (any_of HT_.out (by kernel_rfl)) (fun _ _ _ h=>h) (Or.inl ⟨by rfl,?_⟩) ?_ ?_
              rotate_left
              ·intro w'
               go_simp
               with_reducible rfl
              rotate_left
              ·simp only [Act.put,List.setIfInBounds_toArray,List.set_cons_zero,List.set_cons_succ,i64_w,i32_w]
               rfl
              refine pure_ (i:=18) (N:=some 67) (v:=?_) (a':=?_) #[true,true,false,false,true,true,false,false,false,true,true,false,false,true,true,false,false,true,true,false,false,false,false,false] rfl rfl (any_of HT_.out (by kernel_rfl)) (fun _ _ _ h=>h) (Or.inl ⟨by rfl,?_⟩) ?_ ?_
              rotate_left
              ·intro w'
               go_simp
               with_reducible rfl
              rotate_left
              ·simp only [Act.put,List.setIfInBounds_toArray,List.set_cons_zero,List.set_cons_succ,i64_w,i32_w]
               rfl
              refine take_ (i:=2) (N:=some 51) (v:=?_) (a':=?_) #[true,true,true,false,true,true,false,false,false,true,true,false,false,true,true,false,false,true,true,false,false,false,false,false] rfl rfl (take_ofW HT_.out HW_.out (by kernel_rfl)) (fun _ _ _ h=>h) (Or.inl ⟨by rfl,?_⟩) hHeld ?_ ?_
              rotate_left
              ·rintro w' ⟨s0,s1,s2,s3,s4⟩
               go_simp
               with_reducible rfl
              rotate_left
              ·simp only [Act.put,List.setIfInBounds_toArray,List.set_cons_zero,List.set_cons_succ,i64_w,i32_w]
               rfl
              refine pure_ (i:=3) (N:=some 52) (v:=?_) (a':=?_) #[true,true,true,true,true,true,false,false,false,true,true,false,false,true,true,false,false,true,true,false,false,false,false,false] rfl rfl (any_of HT_.out (by kernel_rfl)) (fun _ _ _ h=>h) (Or.inl ⟨by rfl,?_⟩) ?_ ?_
              rotate_left
              ·intro w'
               go_simp
               with_reducible rfl
              rotate_left
              ·simp only [Act.put,List.setIfInBounds_toArray,List.set_cons_zero,List.set_cons_succ,i64_w,i32_w]
               rfl
              refine take_ (i:=6) (N:=some 55) (v:=?_) (a':=?_) #[true,true,true,true,true,true,true,false,false,true,true,false,false,true,true,false,false,true,true,false,false,false,false,false] rfl rfl (take_ofW HT_.out HW_.out (by kernel_rfl)) (fun _ _ _ h=>h) (Or.inl ⟨by rfl,?_⟩) hHeld ?_ ?_
              rotate_left
              ·rintro w' ⟨s0,s1,s2,s3,s4⟩
               go_simp
               with_reducible rfl
              rotate_left
              ·simp only [Act.put,List.setIfInBounds_toArray,List.set_cons_zero,List.set_cons_succ,i64_w,i32_w]
               rfl
              refine pure_ (i:=7) (N:=some 56) (v:=?_) (a':=?_) #[true,true,true,true,true,true,true,true,false,true,true,false,false,true,true,false,false,true,true,false,false,false,false,false] rfl rfl (any_of HT_.out (by kernel_rfl)) (fun _ _ _ h=>h) (Or.inl ⟨by rfl,?_⟩) ?_ ?_
              rotate_left
              ·intro w'
               go_simp
               with_reducible rfl
              rotate_left
              ·simp only [Act.put,List.setIfInBounds_toArray,List.set_cons_zero,List.set_cons_succ,i64_w,i32_w]
               rfl
              refine pure_ (i:=8) (N:=some 57) (v:=?_) (a':=?_) #[true,true,true,true,true,true,true,true,true,true,true,false,false,true,true,false,false,true,true,false,false,false,false,false] rfl rfl (any_of HT_.out (by kernel_rfl)) (fun _ _ _ h=>h) (Or.inl ⟨by rfl,?_⟩) ?_ ?_
              rotate_left
              ·intro w'
               go_simp
               with_reducible rfl
              rotate_left
              ·simp only [Act.put,List.setIfInBounds_toArray,List.set_cons_zero,List.set_cons_succ,i64_w,i32_w]
               rfl
              refine take_ (i:=11) (N:=some 60) (v:=?_) (a':=?_) #[true,true,true,true,true,true,true,true,true,true,true,true,false,true,true,false,false,true,true,false,false,false,false,false] rfl rfl (take_ofW HT_.out HW_.out (by kernel_rfl)) (fun _ _ _ h=>h) (Or.inl ⟨by rfl,?_⟩) hHeld ?_ ?_
              rotate_left
              ·rintro w' ⟨s0,s1,s2,s3,s4⟩
               go_simp
               with_reducible rfl
              rotate_left
              ·simp only [Act.put,List.setIfInBounds_toArray,List.set_cons_zero,List.set_cons_succ,i64_w,i32_w]
               rfl
              refine pure_ (i:=12) (N:=some 61) (v:=?_) (a':=?_) #[true,true,true,true,true,true,true,true,true,true,true,true,true,true,true,false,false,true,true,false,false,false,false,false] rfl rfl (any_of HT_.out (by kernel_rfl)) (fun _ _ _ h=>h) (Or.inl ⟨by rfl,?_⟩) ?_ ?_
              rotate_left
              ·intro w'
               go_simp
               with_reducible rfl
              rotate_left
              ·simp only [Act.put,List.setIfInBounds_toArray,List.set_cons_zero,List.set_cons_succ,i64_w,i32_w]
               rfl
              refine take_ (i:=15) (N:=some 64) (v:=?_) (a':=?_) #[true,true,true,true,true,true,true,true,true,true,true,true,true,true,true,true,false,true,true,false,false,false,false,false] rfl rfl (take_ofW HT_.out HW_.out (by kernel_rfl)) (fun _ _ _ h=>h) (Or.inl ⟨by rfl,?_⟩) hHeld ?_ ?_
              rotate_left
              ·rintro w' ⟨s0,s1,s2,s3,s4⟩
               go_simp
               with_reducible rfl
              rotate_left
              ·simp only [Act.put,List.setIfInBounds_toArray,List.set_cons_zero,List.set_cons_succ,i64_w,i32_w]
               rfl
              refine pure_ (i:=16) (N:=some 65) (v:=?_) (a':=?_) #[true,true,true,true,true,true,true,true,true,true,true,true,true,true,true,true,true,true,true,false,false,false,false,false] rfl rfl (any_of HT_.out (by kernel_rfl)) (fun _ _ _ h=>h) (Or.inl ⟨by rfl,?_⟩) ?_ ?_
              rotate_left
              ·intro w'
               go_simp
               with_reducible rfl
              rotate_left
              ·simp only [Act.put,List.setIfInBounds_toArray,List.set_cons_zero,List.set_cons_succ,i64_w,i32_w]
               rfl
              refine take_ (i:=19) (N:=some 68) (v:=?_) (a':=?_) #[true,true,true,true,true,true,true,true,true,true,true,true,true,true,true,true,true,true,true,true,false,false,false,false] rfl rfl (take_ofW HT_.out HW_.out (by kernel_rfl)) (fun _ _ _ h=>h) (Or.inl ⟨by rfl,?_⟩) hHeld ?_ ?_
              rotate_left
              ·rintro w' ⟨s0,s1,s2,s3,s4⟩
               go_simp
               with_reducible rfl
              rotate_left
              ·simp only [Act.put,List.setIfInBounds_toArray,List.set_cons_zero,List.set_cons_succ,i64_w,i32_w]
               rfl
              refine pure_ (i:=20) (N:=some 69) (v:=?_) (a':=?_) #[true,true,true,true,true,true,true,true,true,true,true,true,true,true,true,true,true,true,true,true,true,false,false,false] rfl rfl (any_of HT_.out (by kernel_rfl)) (fun _ _ _ h=>h) (Or.inl ⟨by rfl,?_⟩) ?_ ?_
              rotate_left
              ·intro w'
               go_simp
               with_reducible rfl
              rotate_left
              ·simp only [Act.put,List.setIfInBounds_toArray,List.set_cons_zero,List.set_cons_succ,i64_w,i32_w]
               rfl
              refine pure_ (i:=21) (N:=some 70) (v:=?_) (a':=?_) #[true,true,true,true,true,true,true,true,true,true,true,true,true,true,true,true,true,true,true,true,true,true,false,false] rfl rfl (any_of HT_.out (by kernel_rfl)) (fun _ _ _ h=>h) (Or.inl ⟨by rfl,?_⟩) ?_ ?_
              rotate_left
              ·intro w'
               go_simp
               with_reducible rfl
              rotate_left
              ·simp only [Act.put,List.setIfInBounds_toArray,List.set_cons_zero,List.set_cons_succ,i64_w,i32_w]
               rfl
              refine one_ (i:=22) (N:=some 8) #[true,true,true,true,true,true,true,true,true,true,true,true,true,true,true,true,true,true,true,true,true,true,true,false] rfl rfl (one_of HT_.out (by kernel_rfl)) (by decide) (fun K hK=>?_)
              refine box_step ?hg (N:=8) ?hd (cs:=#[.int .i64 0,.int .i64 0,.int .i64 0,.bool false,.int .i64 0]) (t:=63) ?hr ?_;(case hd=>rfl);(case hg=>rfl);(case hr=>first|(go_simp;done)|(go_simp;rfl))
              intro gb544 hg w40 hbox hb
              have HS0_:=(hb.cell (World.block_lt_of_cell? _ _ (hHeld.1))).trans (hHeld.1)
              have HS1_:=(hb.cell (World.block_lt_of_cell? _ _ (hHeld.2.1))).trans (hHeld.2.1)
              have HS2_:=(hb.cell (World.block_lt_of_cell? _ _ (hHeld.2.2.1))).trans (hHeld.2.2.1)
              have HS3_:=(hb.cell (World.block_lt_of_cell? _ _ (hHeld.2.2.2.1))).trans (hHeld.2.2.2.1)
              have HS4_:=(hb.cell (World.block_lt_of_cell? _ _ (hHeld.2.2.2.2))).trans (hHeld.2.2.2.2)
              have n0_:=Aside0.mk (Kd.R_below (by (with_reducible repeat (first|apply Kd.R_alloc|apply Kd.R_drewN|apply Kd.R_drew));exact HO_6.out) hb)
              have n1_:=Aside0.mk (blk_below (g:=gb522) (o:=.cells #[.int .i64 0,.int .i64 0,.int .i64 0,.bool false,.int .i64 0] 63 (0,0)) (by (with_reducible repeat (first|refine blk_drewN ?_ _|refine blk_drew ?_|refine blk_alloc ?_ _));exact BK522.out) hb)
              have n2_:=Aside0.mk (below_step (by repeat (first|(with_reducible first|exact HB.out|apply below_alloc|apply pw_below_drewN|apply below_drew1|refine below_set ?_ GE522.out)|exact HB.out)) hb)
              have n3_:=Aside0.mk (hbox)
              have n4_:=Aside0.mk ((by rw [hg];exact (below_size (by repeat (first|(with_reducible first|exact HB.out|apply below_alloc|apply pw_below_drewN|apply below_drew1|refine below_set ?_ GE522.out)|exact HB.out))):w.heap.size≤gb544))
              have n5_:=Aside0.mk ((by rw [hg];exact (below_size (by repeat (first|(with_reducible first|exact HB.out|apply below_alloc|apply pw_below_drewN|apply below_drew1|refine below_set ?_ GE522.out)|exact HB.out))):w.heap.size≤gb544))
              have n6_:=Aside0.mk ((by rw [hg];exact Nat.ne_of_lt (blk_lt (g:=gb522) (o:=.cells #[.int .i64 0,.int .i64 0,.int .i64 0,.bool false,.int .i64 0] 63 (0,0)) (by (with_reducible repeat (first|refine blk_drewN ?_ _|refine blk_drew ?_|refine blk_alloc ?_ _));exact BK522.out)):gb522≠gb544))
              have n7_:=Aside0.mk ((by rw [hg];exact Nat.ne_of_gt (blk_lt (g:=gb522) (o:=.cells #[.int .i64 0,.int .i64 0,.int .i64 0,.bool false,.int .i64 0] 63 (0,0)) (by (with_reducible repeat (first|refine blk_drewN ?_ _|refine blk_drew ?_|refine blk_alloc ?_ _));exact BK522.out)):gb544≠gb522))
              clear HO_6 BK522 HB
              have HO_6:=n0_
              have BK522:=n1_
              have HB:=n2_
              have BK544:=n3_
              have GW544:=n4_
              have GE544:=n5_
              have NB522_544:=n6_
              have NB544_522:=n7_
              clear n0_ n1_ n2_ n3_ n4_ n5_ n6_ n7_ hb hbox hg
              refine hK.out _ _ ⟨HS0_,HS1_,HS2_,HS3_,HS4_⟩ (fun hHeld=>?_)
              clear hK K
              refine norm_ (a':=?_) ?_ ?_
              rotate_left
              ·show Act.put _ (some 8) _=_
               simp only [Act.put,List.setIfInBounds_toArray,List.set_cons_zero,List.set_cons_succ,i64_w,i32_w]
               rfl
              refine one_ (i:=23) (N:=none) #[true,true,true,true,true,true,true,true,true,true,true,true,true,true,true,true,true,true,true,true,true,true,true,true] rfl rfl (one_of HT_.out (by kernel_rfl)) (by decide) (fun K hK=>?_)
              have hs41:w40.cell? ⟨gb544,0,none⟩=some (.int .i64 0):=(blk_cell BK544.out 0).trans rfl
              have hfs41:=blk_frozen BK544.out 0
              have hns41_0:=NB522_544.out
              have hms41_0:=NB544_522.out
              have hs42:w40.cell? ⟨gb544,1,none⟩=some (.int .i64 0):=(blk_cell BK544.out 1).trans rfl
              have hfs42:=blk_frozen BK544.out 1
              have hns42_0:=NB522_544.out
              have hms42_0:=NB544_522.out
              have hs43:w40.cell? ⟨gb544,2,none⟩=some (.int .i64 0):=(blk_cell BK544.out 2).trans rfl
              have hfs43:=blk_frozen BK544.out 2
              have hns43_0:=NB522_544.out
              have hms43_0:=NB544_522.out
              have hs44:w40.cell? ⟨gb544,3,none⟩=some (.bool false):=(blk_cell BK544.out 3).trans rfl
              have hfs44:=blk_frozen BK544.out 3
              have hns44_0:=NB522_544.out
              have hms44_0:=NB544_522.out
              have hs45:w40.cell? ⟨gb544,4,none⟩=some (.int .i64 0):=(blk_cell BK544.out 4).trans rfl
              have hfs45:=blk_frozen BK544.out 4
              have hns45_0:=NB522_544.out
              have hms45_0:=NB544_522.out
              refine skip_ (w1:=?_) (by rfl) rfl ?_ ?_
              rotate_left
              ·go_simp
               rfl
              have NEF0_:=Kd.own_blk (Kd.R_ne HO_6.out BK544.out (by decide))
              refine hK.out _ _ ⟨?_,?_,?_,?_,?_⟩ ?_
              ·exact ((Go.Proofs.Ytbdnmdmfnopihaa.Sem.far5 (g:=gb544) (by first|exact NEF0_|(rw [add_block];exact NEF0_))).trans (hHeld.1))
              ·exact ((Go.Proofs.Ytbdnmdmfnopihaa.Sem.far5 (g:=gb544) (by first|exact NEF0_|(rw [add_block];exact NEF0_))).trans (hHeld.2.1))
              ·exact ((Go.Proofs.Ytbdnmdmfnopihaa.Sem.far5 (g:=gb544) (by first|exact NEF0_|(rw [add_block];exact NEF0_))).trans (hHeld.2.2.1))
              ·exact ((Go.Proofs.Ytbdnmdmfnopihaa.Sem.far5 (g:=gb544) (by first|exact NEF0_|(rw [add_block];exact NEF0_))).trans (hHeld.2.2.2.1))
              ·exact ((Go.Proofs.Ytbdnmdmfnopihaa.Sem.far5 (g:=gb544) (by first|exact NEF0_|(rw [add_block];exact NEF0_))).trans (hHeld.2.2.2.2))
              intro hHeld
              clear hK K
              refine done_ (done_of HT_.out (by kernel_rfl)) ?_
              have hnb46:=NB544_522.out
              have hnc46:=NB522_544.out
              have hcz47_0:w40.cell? ⟨gb544,0,none⟩=some (.int .i64 0):=(blk_cell BK544.out 0).trans rfl
              have hcz47_1:w40.cell? ⟨gb544,1,none⟩=some (.int .i64 0):=(blk_cell BK544.out 1).trans rfl
              have hcz47_2:w40.cell? ⟨gb544,2,none⟩=some (.int .i64 0):=(blk_cell BK544.out 2).trans rfl
              have hcz47_3:w40.cell? ⟨gb544,3,none⟩=some (.bool false):=(blk_cell BK544.out 3).trans rfl
              have hcz47_4:w40.cell? ⟨gb544,4,none⟩=some (.int .i64 0):=(blk_cell BK544.out 4).trans rfl
              have hfz47_0:=blk_frozen BK544.out 0
              have hfz47_1:=blk_frozen BK544.out 1
              have hfz47_2:=blk_frozen BK544.out 2
              have hfz47_3:=blk_frozen BK544.out 3
              have hfz47_4:=blk_frozen BK544.out 4
              try go_wp2_with (first|((with_reducible refine gate_callee (f:=40) rfl ?_);refine goesL_ (some 73) rfl rfl Try.func40 (by kernel_rfl) rfl #[.agg #[.int .i64 (wrap64 (rd t532 1)),.int .i64 (wrap64 (rd t532 2)),.int .i64 (wrap64 (rd t532 4)),.bool ((rd t532 3) == 1),.int .i64 (wrap64 (rd t532 5))]] rfl (by (try simp only [List.map_toArray,List.map_cons,List.map_nil]);first|done|rfl|(simp only [List.length_drop,List.length_take];rfl)) ?_;(with_reducible refine (layout_EncodeSuper.calls kj8 (wrap64 (rd t532 1)) (wrap64 (rd t532 2)) (wrap64 (rd t532 4)) ((rd t532 3) == 1) (wrap64 (rd t532 5)) t545 t548 _ A34.out).mono ?_);rintro e w48 ⟨v546,rfl,ho0,hb⟩;refine ⟨_,rfl,?_⟩;have n0_:=Aside0.mk (Kd.R_below (by (with_reducible repeat (first|apply Kd.R_alloc|apply Kd.R_drewN|apply Kd.R_drew));exact (Kd.R_mono (Kd.R_far (p:=⟨gb544,4,none⟩) (Kd.R_far (p:=⟨gb544,3,none⟩) (Kd.R_far (p:=⟨gb544,2,none⟩) (Kd.R_far (p:=⟨gb544,1,none⟩) (Kd.R_far (p:=⟨gb544,0,none⟩) (Kd.R_types HO_6.out BK544.out (by decide)) (fun _ hk=>hk.2) (.int .i64 (wrap64 (rd t532 1)))) (fun _ hk=>hk.2) (.int .i64 (wrap64 (rd t532 2)))) (fun _ hk=>hk.2) (.int .i64 (wrap64 (rd t532 4)))) (fun _ hk=>hk.2) (.bool ((rd t532 3) == 1))) (fun _ hk=>hk.2) (.int .i64 (wrap64 (rd t532 5)))) (fun _ h_=>h_.1))) hb);have n1_:=Aside0.mk (Kd.R_lower ho0 (below_size (by repeat (first|(with_reducible first|exact HB.out|apply below_alloc|apply pw_below_drewN|apply below_drew1|refine below_set ?_ GE522.out|refine below_set ?_ GE544.out)|exact HB.out))));have n2_:=Aside0.mk (blk_below (g:=gb522) (o:=.cells #[.int .i64 0,.int .i64 0,.int .i64 0,.bool false,.int .i64 0] 63 (0,0)) (by (with_reducible repeat (first|refine blk_drewN ?_ _|refine blk_drew ?_|refine blk_alloc ?_ _));refine blk_far ?_ NB522_544.out _;(with_reducible repeat (first|refine blk_drewN ?_ _|refine blk_drew ?_|refine blk_alloc ?_ _));refine blk_far ?_ NB522_544.out _;(with_reducible repeat (first|refine blk_drewN ?_ _|refine blk_drew ?_|refine blk_alloc ?_ _));refine blk_far ?_ NB522_544.out _;(with_reducible repeat (first|refine blk_drewN ?_ _|refine blk_drew ?_|refine blk_alloc ?_ _));refine blk_far ?_ NB522_544.out _;(with_reducible repeat (first|refine blk_drewN ?_ _|refine blk_drew ?_|refine blk_alloc ?_ _));refine blk_far ?_ NB522_544.out _;(with_reducible repeat (first|refine blk_drewN ?_ _|refine blk_drew ?_|refine blk_alloc ?_ _));exact BK522.out) hb);have n3_:=Aside0.mk (blk_below (g:=gb544) (o:=.cells #[.int .i64 (wrap64 (rd t532 1)),.int .i64 (wrap64 (rd t532 2)),.int .i64 (wrap64 (rd t532 4)),.bool ((rd t532 3) == 1),.int .i64 (wrap64 (rd t532 5))] 63 (0,0)) (by (with_reducible repeat (first|refine blk_drewN ?_ _|refine blk_drew ?_|refine blk_alloc ?_ _));refine blk_put (cs:=#[.int .i64 (wrap64 (rd t532 1)),.int .i64 (wrap64 (rd t532 2)),.int .i64 (wrap64 (rd t532 4)),.bool ((rd t532 3) == 1),.int .i64 0]) ?_ 4 _ rfl;(with_reducible repeat (first|refine blk_drewN ?_ _|refine blk_drew ?_|refine blk_alloc ?_ _));refine blk_put (cs:=#[.int .i64 (wrap64 (rd t532 1)),.int .i64 (wrap64 (rd t532 2)),.int .i64 (wrap64 (rd t532 4)),.bool false,.int .i64 0]) ?_ 3 _ rfl;(with_reducible repeat (first|refine blk_drewN ?_ _|refine blk_drew ?_|refine blk_alloc ?_ _));refine blk_put (cs:=#[.int .i64 (wrap64 (rd t532 1)),.int .i64 (wrap64 (rd t532 2)),.int .i64 0,.bool false,.int .i64 0]) ?_ 2 _ rfl;(with_reducible repeat (first|refine blk_drewN ?_ _|refine blk_drew ?_|refine blk_alloc ?_ _));refine blk_put (cs:=#[.int .i64 (wrap64 (rd t532 1)),.int .i64 0,.int .i64 0,.bool false,.int .i64 0]) ?_ 1 _ rfl;(with_reducible repeat (first|refine blk_drewN ?_ _|refine blk_drew ?_|refine blk_alloc ?_ _));refine blk_put (cs:=#[.int .i64 0,.int .i64 0,.int .i64 0,.bool false,.int .i64 0]) ?_ 0 _ rfl;(with_reducible repeat (first|refine blk_drewN ?_ _|refine blk_drew ?_|refine blk_alloc ?_ _));exact BK544.out) hb);have n4_:=Aside0.mk (below_step (by repeat (first|(with_reducible first|exact HB.out|apply below_alloc|apply pw_below_drewN|apply below_drew1|refine below_set ?_ GE522.out|refine below_set ?_ GE544.out)|exact HB.out)) hb);clear HO_6 BK522 BK544 HB;have HO_6:=n0_;have HO547:=n1_;have BK522:=n2_;have BK544:=n3_;have HB:=n4_;clear n0_ n1_ n2_ n3_ n4_;(try clear hb);(try clear hb2);(try clear hk);(try clear hi);(try clear ho0);obtain ⟨Ao49,co49,eo49⟩:=Kd.R_slice HO547.out;subst eo49)|(go_at_call 51;(with_reducible refine (slices_Equal_byte_byte.calls kj8 _ _ t545 _ _ l0 true _ ?side1 ?side2 ?side3 ?side4 A36.out).mono ?_);(case side1=>repeat (first|exact (Kd.R_reads' HO547.out).2.2|(with_reducible refine Kd.C_alloc ?_ _)|(with_reducible refine Kd.C_drewN ?_ _)|(with_reducible refine Kd.C_drew ?_)));(case side2=>exact (Kd.R_reads' HO547.out).2.1);(case side3=>repeat (first|exact (Kd.C_below HR0.out HB.out)|(with_reducible refine Kd.C_alloc ?_ _)|(with_reducible refine Kd.C_drewN ?_ _)|(with_reducible refine Kd.C_drew ?_)));(case side4=>exact HC0.out);rintro e w' ⟨rfl,⟨nd,rfl⟩⟩;(try (rw [drewN_self w48];generalize hq_:World.drewN w48 _=w48;have n0_:Aside0 (Kd.R (Kd.int .u8) 5 w48 w.heap.size (fun _=>True) (.slice Ao49 t545.length co49) t545):=⟨by rw [← hq_];exact (by (with_reducible repeat (first|apply Kd.R_alloc|apply Kd.R_drewN|apply Kd.R_drew));exact HO547.out)⟩;have n1_:Aside0 (Kd.R (Kd.int .u64) 76 w48 w.heap.size (fun _=>True) (.slice (some ad539) t532.length co39) t532):=⟨by rw [← hq_];exact (by (with_reducible repeat (first|apply Kd.R_alloc|apply Kd.R_drewN|apply Kd.R_drew));exact HO_6.out)⟩;have n2_:Aside0 (w48.heap[gb522]?=some (.cells #[.int .i64 0,.int .i64 0,.int .i64 0,.bool false,.int .i64 0] 63 (0,0))):=⟨by rw [← hq_];exact (by (with_reducible repeat (first|refine blk_drewN ?_ _|refine blk_drew ?_|refine blk_alloc ?_ _));exact BK522.out)⟩;have n3_:Aside0 (w48.heap[gb544]?=some (.cells #[.int .i64 (wrap64 (rd t532 1)),.int .i64 (wrap64 (rd t532 2)),.int .i64 (wrap64 (rd t532 4)),.bool ((rd t532 3) == 1),.int .i64 (wrap64 (rd t532 5))] 63 (0,0))):=⟨by rw [← hq_];exact (by (with_reducible repeat (first|refine blk_drewN ?_ _|refine blk_drew ?_|refine blk_alloc ?_ _));exact BK544.out)⟩;have n4_:Aside0 (Below w.heap.size w w48):=⟨by rw [← hq_];exact (by repeat (first|(with_reducible first|exact HB.out|apply below_alloc|apply pw_below_drewN|apply below_drew1|refine below_set ?_ GE522.out|refine below_set ?_ GE544.out)|exact HB.out))⟩;clear HO547 HO_6 BK522 BK544 HB hq_;have HO547:=n0_;have HO_6:=n1_;have BK522:=n2_;have BK544:=n3_;have HB:=n4_;clear n0_ n1_ n2_ n3_ n4_));have hcz50_0:w48.cell? ⟨gb544,0,none⟩=some (.int .i64 (wrap64 (rd t532 1))):=(blk_cell BK544.out 0).trans rfl;have hcz50_1:w48.cell? ⟨gb544,1,none⟩=some (.int .i64 (wrap64 (rd t532 2))):=(blk_cell BK544.out 1).trans rfl;have hcz50_2:w48.cell? ⟨gb544,2,none⟩=some (.int .i64 (wrap64 (rd t532 4))):=(blk_cell BK544.out 2).trans rfl;have hcz50_3:w48.cell? ⟨gb544,3,none⟩=some (.bool ((rd t532 3) == 1)):=(blk_cell BK544.out 3).trans rfl;have hcz50_4:w48.cell? ⟨gb544,4,none⟩=some (.int .i64 (wrap64 (rd t532 5))):=(blk_cell BK544.out 4).trans rfl;have hfz50_0:=blk_frozen BK544.out 0;have hfz50_1:=blk_frozen BK544.out 1;have hfz50_2:=blk_frozen BK544.out 2;have hfz50_3:=blk_frozen BK544.out 3;have hfz50_4:=blk_frozen BK544.out 4;have hcz51_0:w48.cell? ⟨gb522,0,none⟩=some (.int .i64 0):=(blk_cell BK522.out 0).trans rfl;have hcz51_1:w48.cell? ⟨gb522,1,none⟩=some (.int .i64 0):=(blk_cell BK522.out 1).trans rfl;have hcz51_2:w48.cell? ⟨gb522,2,none⟩=some (.int .i64 0):=(blk_cell BK522.out 2).trans rfl;have hcz51_3:w48.cell? ⟨gb522,3,none⟩=some (.bool false):=(blk_cell BK522.out 3).trans rfl;have hcz51_4:w48.cell? ⟨gb522,4,none⟩=some (.int .i64 0):=(blk_cell BK522.out 4).trans rfl;have hfz51_0:=blk_frozen BK522.out 0;have hfz51_1:=blk_frozen BK522.out 1;have hfz51_2:=blk_frozen BK522.out 2;have hfz51_3:=blk_frozen BK522.out 3;have hfz51_4:=blk_frozen BK522.out 4))
              refine bodyPost_ret (results_ct rfl _ _ gb522 63 #[.int .i64 (wrap64 (rd t532 1)),.int .i64 (wrap64 (rd t532 2)),.int .i64 (wrap64 (rd t532 4)),.bool ((rd t532 3) == 1),.int .i64 (wrap64 (rd t532 5))] (0,0) _ rfl (by (with_reducible repeat (first|refine blk_drewN ?_ _|refine blk_drew ?_|refine blk_alloc ?_ _));refine blk_put (cs:=#[.int .i64 (wrap64 (rd t532 1)),.int .i64 (wrap64 (rd t532 2)),.int .i64 (wrap64 (rd t532 4)),.bool ((rd t532 3) == 1),.int .i64 0]) ?_ 4 _ rfl;(with_reducible repeat (first|refine blk_drewN ?_ _|refine blk_drew ?_|refine blk_alloc ?_ _));refine blk_put (cs:=#[.int .i64 (wrap64 (rd t532 1)),.int .i64 (wrap64 (rd t532 2)),.int .i64 (wrap64 (rd t532 4)),.bool false,.int .i64 0]) ?_ 3 _ rfl;(with_reducible repeat (first|refine blk_drewN ?_ _|refine blk_drew ?_|refine blk_alloc ?_ _));refine blk_put (cs:=#[.int .i64 (wrap64 (rd t532 1)),.int .i64 (wrap64 (rd t532 2)),.int .i64 0,.bool false,.int .i64 0]) ?_ 2 _ rfl;(with_reducible repeat (first|refine blk_drewN ?_ _|refine blk_drew ?_|refine blk_alloc ?_ _));refine blk_put (cs:=#[.int .i64 (wrap64 (rd t532 1)),.int .i64 0,.int .i64 0,.bool false,.int .i64 0]) ?_ 1 _ rfl;(with_reducible repeat (first|refine blk_drewN ?_ _|refine blk_drew ?_|refine blk_alloc ?_ _));refine blk_put (cs:=#[.int .i64 0,.int .i64 0,.int .i64 0,.bool false,.int .i64 0]) ?_ 0 _ rfl;(with_reducible repeat (first|refine blk_drewN ?_ _|refine blk_drew ?_|refine blk_alloc ?_ _));exact BK522.out) Try.underlying63 rfl (by kernel_rfl)) rfl ?_
              exact ⟨by first|rfl|(simp [errW_none,errW_some] <;> rfl)|(simp [*,errW_none,errW_some] <;> rfl),by repeat (first|(with_reducible first|exact HB.out|apply below_alloc|apply pw_below_drewN|apply below_drew1|refine below_set ?_ GE522.out|refine below_set ?_ GE544.out)|exact HB.out)⟩
             ·replace c37:=Bool.eq_false_iff.mpr c37
              subst c37
              have H1:(some (0,0,0,false,0,111))=some (r1,r2,r3,r4,r5,r6):=by rw [if_neg (show ¬ (false=true) by decide)] at H;exact H
              clear H
              have H:=H1
              clear H1
              simp only [Option.some.injEq,Prod.mk.injEq] at H
              obtain ⟨rfl,rfl,rfl,rfl,rfl,rfl⟩:=H
              try go_wp2
              have n0_:=Aside0.mk (Kd.R_drew HO_6.out)
              have n1_:=Aside0.mk (blk_drew BK522.out)
              have n2_:=Aside0.mk (below_drew1 HB.out)
              clear HO_6 BK522 HB
              have HO_6:=n0_
              have BK522:=n1_
              have HB:=n2_
              clear n0_ n1_ n2_
              obtain ⟨Ao53,co53,eo53⟩:=Kd.R_slice HO_6.out
              (first|subst eo53|(injection eo53 with f1_ f2_ f3_;have f4_:=f1_.symm;have f5_:=f3_.symm;clear f1_ f2_ f3_;subst f4_;subst f5_))
              have p539:0≤(1:Int):=(by omega)
              have q539:1 < (t532.length:Int):=of_decide_eq_true (by first|(with_reducible assumption)|assumption)
              obtain ⟨ad539,e539,hx539_0⟩:=Kd.at_int (Kd.R_reads' HO_6.out).2.2 1 p539 q539
              cases e539
              (try simp only [show (1:Int).toNat=1 from rfl,Nat.reduceMul,Nat.reduceEqDiff,Go.Addr.add,↓reduceIte] at hx539_0)
              have qi539:(1 < t532.length)=True:=eq_true (by omega)
              (try rw [show ((1:Int)).toNat=1 from rfl] at hx539_0)
              replace p539:=eq_true p539
              replace q539:=eq_true q539
              have p540:0≤(2:Int):=(by omega)
              have q540:2 < (t532.length:Int):=of_decide_eq_true (by first|(with_reducible assumption)|assumption)
              obtain ⟨ad540,e540,hx540_0⟩:=Kd.at_int (Kd.R_reads' HO_6.out).2.2 2 p540 q540
              obtain rfl:ad539=ad540:=(by injection e540)
              (try simp only [show (2:Int).toNat=2 from rfl,Nat.reduceMul,Nat.reduceEqDiff,Go.Addr.add,↓reduceIte] at hx540_0)
              have qi540:(2 < t532.length)=True:=eq_true (by omega)
              (try rw [show ((2:Int)).toNat=2 from rfl] at hx540_0)
              replace p540:=eq_true p540
              replace q540:=eq_true q540
              have p541:0≤(3:Int):=(by omega)
              have q541:3 < (t532.length:Int):=of_decide_eq_true (by first|(with_reducible assumption)|assumption)
              obtain ⟨ad541,e541,hx541_0⟩:=Kd.at_int (Kd.R_reads' HO_6.out).2.2 3 p541 q541
              obtain rfl:ad539=ad541:=(by injection e541)
              (try simp only [show (3:Int).toNat=3 from rfl,Nat.reduceMul,Nat.reduceEqDiff,Go.Addr.add,↓reduceIte] at hx541_0)
              have qi541:(3 < t532.length)=True:=eq_true (by omega)
              (try rw [show ((3:Int)).toNat=3 from rfl] at hx541_0)
              replace p541:=eq_true p541
              replace q541:=eq_true q541
              have p542:0≤(4:Int):=(by omega)
              have q542:4 < (t532.length:Int):=of_decide_eq_true (by first|(with_reducible assumption)|assumption)
              obtain ⟨ad542,e542,hx542_0⟩:=Kd.at_int (Kd.R_reads' HO_6.out).2.2 4 p542 q542
              obtain rfl:ad539=ad542:=(by injection e542)
              (try simp only [show (4:Int).toNat=4 from rfl,Nat.reduceMul,Nat.reduceEqDiff,Go.Addr.add,↓reduceIte] at hx542_0)
              have qi542:(4 < t532.length)=True:=eq_true (by omega)
              (try rw [show ((4:Int)).toNat=4 from rfl] at hx542_0)
              replace p542:=eq_true p542
              replace q542:=eq_true q542
              have p543:0≤(5:Int):=(by omega)
              have q543:5 < (t532.length:Int):=of_decide_eq_true (by first|(with_reducible assumption)|assumption)
              obtain ⟨ad543,e543,hx543_0⟩:=Kd.at_int (Kd.R_reads' HO_6.out).2.2 5 p543 q543
              obtain rfl:ad539=ad543:=(by injection e543)
              (try simp only [show (5:Int).toNat=5 from rfl,Nat.reduceMul,Nat.reduceEqDiff,Go.Addr.add,↓reduceIte] at hx543_0)
              have qi543:(5 < t532.length)=True:=eq_true (by omega)
              (try rw [show ((5:Int)).toNat=5 from rfl] at hx543_0)
              replace p543:=eq_true p543
              replace q543:=eq_true q543
              refine start_ (n:=24) (S:=fun w'=>w'.cell? ⟨ad539.block,ad539.off + 1,none⟩=some (.int .u64 (rd t532 1))∧w'.cell? ⟨ad539.block,ad539.off + 2,none⟩=some (.int .u64 (rd t532 2))∧w'.cell? ⟨ad539.block,ad539.off + 3,none⟩=some (.int .u64 (rd t532 3))∧w'.cell? ⟨ad539.block,ad539.off + 4,none⟩=some (.int .u64 (rd t532 4))∧w'.cell? ⟨ad539.block,ad539.off + 5,none⟩=some (.int .u64 (rd t532 5))) (ds:=[]) #[false,false,false,false,false,false,false,false,false,false,false,false,false,false,false,false,false,false,false,false,false,false,false,false] (by kernel_rfl) rfl rfl ⟨hx539_0,hx540_0,hx541_0,hx542_0,hx543_0⟩ (fun hHeld=>?_);refine with_tabW layout_DecodeSuper.tab7 layout_DecodeSuper.bits7 (fun HT_ HW_=>?_)
              generalize wc.drew=w52 at HO_6 BK522 HB hx539_0 hx540_0 hx541_0 hx542_0 hx543_0 hHeld ⊢
              refine pure_ (i:=0) (N:=some 49) (v:=?_) (a':=?_) #[true,false,false,false,false,false,false,false,false,false,false,false,false,false,false,false,false,false,false,false,false,false,false,false] rfl rfl (any_of HT_.out (by kernel_rfl)) (fun _ _ _ h=>h) (Or.inl ⟨by rfl,?_⟩) ?_ ?_
              rotate_left
              ·intro w'
               go_simp
               with_reducible rfl
              rotate_left
              ·simp only [Act.put,List.setIfInBounds_toArray,List.set_cons_zero,List.set_cons_succ,i64_w,i32_w]
               rfl
              refine pure_ (i:=1) (N:=some 50) (v:=?_) (a':=?_) #[true,true,false,false,false,false,false,false,false,false,false,false,false,false,false,false,false,false,false,false,false,false,false,false] rfl rfl (any_of HT_.out (by kernel_rfl)) (fun _ _ _ h=>h) (Or.inl ⟨by rfl,?_⟩) ?_ ?_
              rotate_left
              ·intro w'
               go_simp
               with_reducible rfl
              rotate_left
              ·simp only [Act.put,List.setIfInBounds_toArray,List.set_cons_zero,List.set_cons_succ,i64_w,i32_w]
               rfl
              refine pure_ (i:=4) (N:=some 53) (v:=?_) (a':=?_) #[true,true,false,false,true,false,false,false,false,false,false,false,false,false,false,false,false,false,false,false,false,false,false,false] rfl rfl (any_of HT_.out (by kernel_rfl)) (fun _ _ _ h=>h) (Or.inl ⟨by rfl,?_⟩) ?_ ?_
              rotate_left
              ·intro w'
               go_simp
               with_reducible rfl
              rotate_left
              ·simp only [Act.put,List.setIfInBounds_toArray,List.set_cons_zero,List.set_cons_succ,i64_w,i32_w]
               rfl
              refine pure_ (i:=5) (N:=some 54) (v:=?_) (a':=?_) #[true,true,false,false,true,true,false,false,false,false,false,false,false,false,false,false,false,false,false,false,false,false,false,false] rfl rfl (any_of HT_.out (by kernel_rfl)) (fun _ _ _ h=>h) (Or.inl ⟨by rfl,?_⟩) ?_ ?_
              rotate_left
              ·intro w'
               go_simp
               with_reducible rfl
              rotate_left
              ·simp only [Act.put,List.setIfInBounds_toArray,List.set_cons_zero,List.set_cons_succ,i64_w,i32_w]
               rfl
              refine pure_ (i:=9) (N:=some 58) (v:=?_) (a':=?_) #[true,true,false,false,true,true,false,false,false,true,false,false,false,false,false,false,false,false,false,false,false,false,false,false] rfl rfl (any_of HT_.out (by kernel_rfl)) (fun _ _ _ h=>h) (Or.inl ⟨by rfl,?_⟩) ?_ ?_
              rotate_left
              ·intro w'
               go_simp
               with_reducible rfl
              rotate_left
              ·simp only [Act.put,List.setIfInBounds_toArray,List.set_cons_zero,List.set_cons_succ,i64_w,i32_w]
               rfl
              refine pure_ (i:=10) (N:=some 59) (v:=?_) (a':=?_) #[true,true,false,false,true,true,false,false,false,true,true,false,false,false,false,false,false,false,false,false,false,false,false,false] rfl rfl (any_of HT_.out (by kernel_rfl)) (fun _ _ _ h=>h) (Or.inl ⟨by rfl,?_⟩) ?_ ?_
              rotate_left
              ·intro w'
               go_simp
               with_reducible rfl
              rotate_left
              ·simp only [Act.put,List.setIfInBounds_toArray,List.set_cons_zero,List.set_cons_succ,i64_w,i32_w]
               rfl
              refine pure_ (i:=13) (N:=some 62) (v:=?_) (a':=?_) #[true,true,false,false,true,true,false,false,false,true,true,false,false,true,false,false,false,false,false,false,false,false,false,false] rfl rfl (any_of HT_.out (by kernel_rfl)) (fun _ _ _ h=>h) (Or.inl ⟨by rfl,?_⟩) ?_ ?_
              rotate_left
              ·intro w'
               go_simp
               with_reducible rfl
              rotate_left
              ·simp only [Act.put,List.setIfInBounds_toArray,List.set_cons_zero,List.set_cons_succ,i64_w,i32_w]
               rfl
              refine pure_ (i:=14) (N:=some 63) (v:=?_) (a':=?_) #[true,true,false,false,true,true,false,false,false,true,true,false,false,true,true,false,false,false,false,false,false,false,false,false] rfl rfl (any_of HT_.out (by kernel_rfl)) (fun _ _ _ h=>h) (Or.inl ⟨by rfl,?_⟩) ?_ ?_
              rotate_left
              ·intro w'
               go_simp
               with_reducible rfl
              rotate_left
              ·simp only [Act.put,List.setIfInBounds_toArray,List.set_cons_zero,List.set_cons_succ,i64_w,i32_w]
               rfl
              refine pure_ (i:=17) (N:=some 66) (v:=?_) (a':=?_) #[true,true,false,false,true,true,false,false,false,true,true,false,false,true,true,false,false,true,false,false,false,false,false,false] rfl rfl (any_of HT_.out (by kernel_rfl)) (fun _ _ _ h=>h) (Or.inl ⟨by rfl,?_⟩) ?_ ?_
              rotate_left
              ·intro w'
               go_simp
               with_reducible rfl
              rotate_left
              ·simp only [Act.put,List.setIfInBounds_toArray,List.set_cons_zero,List.set_cons_succ,i64_w,i32_w]
               rfl
              refine pure_ (i:=18) (N:=some 67) (v:=?_) (a':=?_) #[true,true,false,false,true,true,false,false,false,true,true,false,false,true,true,false,false,true,true,false,false,false,false,false] rfl rfl (any_of HT_.out (by kernel_rfl)) (fun _ _ _ h=>h) (Or.inl ⟨by rfl,?_⟩) ?_ ?_
              rotate_left
              ·intro w'
               go_simp
               with_reducible rfl
              rotate_left
              ·simp only [Act.put,List.setIfInBounds_toArray,List.set_cons_zero,List.set_cons_succ,i64_w,i32_w]
               rfl
              refine take_ (i:=2) (N:=some 51) (v:=?_) (a':=?_) #[true,true,true,false,true,true,false,false,false,true,true,false,false,true,true,false,false,true,true,false,false,false,false,false] rfl rfl (take_ofW HT_.out HW_.out (by kernel_rfl)) (fun _ _ _ h=>h) (Or.inl ⟨by rfl,?_⟩) hHeld ?_ ?_
              rotate_left
              ·rintro w' ⟨s0,s1,s2,s3,s4⟩
               go_simp
               with_reducible rfl
              rotate_left
              ·simp only [Act.put,List.setIfInBounds_toArray,List.set_cons_zero,List.set_cons_succ,i64_w,i32_w]
               rfl
              refine pure_ (i:=3) (N:=some 52) (v:=?_) (a':=?_) #[true,true,true,true,true,true,false,false,false,true,true,false,false,true,true,false,false,true,true,false,false,false,false,false] rfl rfl (any_of HT_.out (by kernel_rfl)) (fun _ _ _ h=>h) (Or.inl ⟨by rfl,?_⟩) ?_ ?_
              rotate_left
              ·intro w'
               go_simp
               with_reducible rfl
              rotate_left
              ·simp only [Act.put,List.setIfInBounds_toArray,List.set_cons_zero,List.set_cons_succ,i64_w,i32_w]
               rfl
              refine take_ (i:=6) (N:=some 55) (v:=?_) (a':=?_) #[true,true,true,true,true,true,true,false,false,true,true,false,false,true,true,false,false,true,true,false,false,false,false,false] rfl rfl (take_ofW HT_.out HW_.out (by kernel_rfl)) (fun _ _ _ h=>h) (Or.inl ⟨by rfl,?_⟩) hHeld ?_ ?_
              rotate_left
              ·rintro w' ⟨s0,s1,s2,s3,s4⟩
               go_simp
               with_reducible rfl
              rotate_left
              ·simp only [Act.put,List.setIfInBounds_toArray,List.set_cons_zero,List.set_cons_succ,i64_w,i32_w]
               rfl
              refine pure_ (i:=7) (N:=some 56) (v:=?_) (a':=?_) #[true,true,true,true,true,true,true,true,false,true,true,false,false,true,true,false,false,true,true,false,false,false,false,false] rfl rfl (any_of HT_.out (by kernel_rfl)) (fun _ _ _ h=>h) (Or.inl ⟨by rfl,?_⟩) ?_ ?_
              rotate_left
              ·intro w'
               go_simp
               with_reducible rfl
              rotate_left
              ·simp only [Act.put,List.setIfInBounds_toArray,List.set_cons_zero,List.set_cons_succ,i64_w,i32_w]
               rfl
              refine pure_ (i:=8) (N:=some 57) (v:=?_) (a':=?_) #[true,true,true,true,true,true,true,true,true,true,true,false,false,true,true,false,false,true,true,false,false,false,false,false] rfl rfl (any_of HT_.out (by kernel_rfl)) (fun _ _ _ h=>h) (Or.inl ⟨by rfl,?_⟩) ?_ ?_
              rotate_left
              ·intro w'
               go_simp
               with_reducible rfl
              rotate_left
              ·simp only [Act.put,List.setIfInBounds_toArray,List.set_cons_zero,List.set_cons_succ,i64_w,i32_w]
               rfl
              refine take_ (i:=11) (N:=some 60) (v:=?_) (a':=?_) #[true,true,true,true,true,true,true,true,true,true,true,true,false,true,true,false,false,true,true,false,false,false,false,false] rfl rfl (take_ofW HT_.out HW_.out (by kernel_rfl)) (fun _ _ _ h=>h) (Or.inl ⟨by rfl,?_⟩) hHeld ?_ ?_
              rotate_left
              ·rintro w' ⟨s0,s1,s2,s3,s4⟩
               go_simp
               with_reducible rfl
              rotate_left
              ·simp only [Act.put,List.setIfInBounds_toArray,List.set_cons_zero,List.set_cons_succ,i64_w,i32_w]
               rfl
              refine pure_ (i:=12) (N:=some 61) (v:=?_) (a':=?_) #[true,true,true,true,true,true,true,true,true,true,true,true,true,true,true,false,false,true,true,false,false,false,false,false] rfl rfl (any_of HT_.out (by kernel_rfl)) (fun _ _ _ h=>h) (Or.inl ⟨by rfl,?_⟩) ?_ ?_
              rotate_left
              ·intro w'
               go_simp
               with_reducible rfl
              rotate_left
              ·simp only [Act.put,List.setIfInBounds_toArray,List.set_cons_zero,List.set_cons_succ,i64_w,i32_w]
               rfl
              refine take_ (i:=15) (N:=some 64) (v:=?_) (a':=?_) #[true,true,true,true,true,true,true,true,true,true,true,true,true,true,true,true,false,true,true,false,false,false,false,false] rfl rfl (take_ofW HT_.out HW_.out (by kernel_rfl)) (fun _ _ _ h=>h) (Or.inl ⟨by rfl,?_⟩) hHeld ?_ ?_
              rotate_left
              ·rintro w' ⟨s0,s1,s2,s3,s4⟩
               go_simp
               with_reducible rfl
              rotate_left
              ·simp only [Act.put,List.setIfInBounds_toArray,List.set_cons_zero,List.set_cons_succ,i64_w,i32_w]
               rfl
              refine pure_ (i:=16) (N:=some 65) (v:=?_) (a':=?_) #[true,true,true,true,true,true,true,true,true,true,true,true,true,true,true,true,true,true,true,false,false,false,false,false] rfl rfl (any_of HT_.out (by kernel_rfl)) (fun _ _ _ h=>h) (Or.inl ⟨by rfl,?_⟩) ?_ ?_
              rotate_left
              ·intro w'
               go_simp
               with_reducible rfl
              rotate_left
              ·simp only [Act.put,List.setIfInBounds_toArray,List.set_cons_zero,List.set_cons_succ,i64_w,i32_w]
               rfl
              refine take_ (i:=19) (N:=some 68) (v:=?_) (a':=?_) #[true,true,true,true,true,true,true,true,true,true,true,true,true,true,true,true,true,true,true,true,false,false,false,false] rfl rfl (take_ofW HT_.out HW_.out (by kernel_rfl)) (fun _ _ _ h=>h) (Or.inl ⟨by rfl,?_⟩) hHeld ?_ ?_
              rotate_left
              ·rintro w' ⟨s0,s1,s2,s3,s4⟩
               go_simp
               with_reducible rfl
              rotate_left
              ·simp only [Act.put,List.setIfInBounds_toArray,List.set_cons_zero,List.set_cons_succ,i64_w,i32_w]
               rfl
              refine pure_ (i:=20) (N:=some 69) (v:=?_) (a':=?_) #[true,true,true,true,true,true,true,true,true,true,true,true,true,true,true,true,true,true,true,true,true,false,false,false] rfl rfl (any_of HT_.out (by kernel_rfl)) (fun _ _ _ h=>h) (Or.inl ⟨by rfl,?_⟩) ?_ ?_
              rotate_left
              ·intro w'
               go_simp
               with_reducible rfl
              rotate_left
              ·simp only [Act.put,List.setIfInBounds_toArray,List.set_cons_zero,List.set_cons_succ,i64_w,i32_w]
               rfl
              refine pure_ (i:=21) (N:=some 70) (v:=?_) (a':=?_) #[true,true,true,true,true,true,true,true,true,true,true,true,true,true,true,true,true,true,true,true,true,true,false,false] rfl rfl (any_of HT_.out (by kernel_rfl)) (fun _ _ _ h=>h) (Or.inl ⟨by rfl,?_⟩) ?_ ?_
              rotate_left
              ·intro w'
               go_simp
               with_reducible rfl
              rotate_left
              ·simp only [Act.put,List.setIfInBounds_toArray,List.set_cons_zero,List.set_cons_succ,i64_w,i32_w]
               rfl
              refine one_ (i:=22) (N:=some 8) #[true,true,true,true,true,true,true,true,true,true,true,true,true,true,true,true,true,true,true,true,true,true,true,false] rfl rfl (one_of HT_.out (by kernel_rfl)) (by decide) (fun K hK=>?_)
              refine box_step ?hg (N:=8) ?hd (cs:=#[.int .i64 0,.int .i64 0,.int .i64 0,.bool false,.int .i64 0]) (t:=63) ?hr ?_;(case hd=>rfl);(case hg=>rfl);(case hr=>first|(go_simp;done)|(go_simp;rfl))
              intro gb544 hg w54 hbox hb
              have HS0_:=(hb.cell (World.block_lt_of_cell? _ _ (hHeld.1))).trans (hHeld.1)
              have HS1_:=(hb.cell (World.block_lt_of_cell? _ _ (hHeld.2.1))).trans (hHeld.2.1)
              have HS2_:=(hb.cell (World.block_lt_of_cell? _ _ (hHeld.2.2.1))).trans (hHeld.2.2.1)
              have HS3_:=(hb.cell (World.block_lt_of_cell? _ _ (hHeld.2.2.2.1))).trans (hHeld.2.2.2.1)
              have HS4_:=(hb.cell (World.block_lt_of_cell? _ _ (hHeld.2.2.2.2))).trans (hHeld.2.2.2.2)
              have n0_:=Aside0.mk (Kd.R_below (by (with_reducible repeat (first|apply Kd.R_alloc|apply Kd.R_drewN|apply Kd.R_drew));exact HO_6.out) hb)
              have n1_:=Aside0.mk (blk_below (g:=gb522) (o:=.cells #[.int .i64 0,.int .i64 0,.int .i64 0,.bool false,.int .i64 0] 63 (0,0)) (by (with_reducible repeat (first|refine blk_drewN ?_ _|refine blk_drew ?_|refine blk_alloc ?_ _));exact BK522.out) hb)
              have n2_:=Aside0.mk (below_step (by repeat (first|(with_reducible first|exact HB.out|apply below_alloc|apply pw_below_drewN|apply below_drew1|refine below_set ?_ GE522.out)|exact HB.out)) hb)
              have n3_:=Aside0.mk (hbox)
              have n4_:=Aside0.mk ((by rw [hg];exact (below_size (by repeat (first|(with_reducible first|exact HB.out|apply below_alloc|apply pw_below_drewN|apply below_drew1|refine below_set ?_ GE522.out)|exact HB.out))):w.heap.size≤gb544))
              have n5_:=Aside0.mk ((by rw [hg];exact (below_size (by repeat (first|(with_reducible first|exact HB.out|apply below_alloc|apply pw_below_drewN|apply below_drew1|refine below_set ?_ GE522.out)|exact HB.out))):w.heap.size≤gb544))
              have n6_:=Aside0.mk ((by rw [hg];exact Nat.ne_of_lt (blk_lt (g:=gb522) (o:=.cells #[.int .i64 0,.int .i64 0,.int .i64 0,.bool false,.int .i64 0] 63 (0,0)) (by (with_reducible repeat (first|refine blk_drewN ?_ _|refine blk_drew ?_|refine blk_alloc ?_ _));exact BK522.out)):gb522≠gb544))
              have n7_:=Aside0.mk ((by rw [hg];exact Nat.ne_of_gt (blk_lt (g:=gb522) (o:=.cells #[.int .i64 0,.int .i64 0,.int .i64 0,.bool false,.int .i64 0] 63 (0,0)) (by (with_reducible repeat (first|refine blk_drewN ?_ _|refine blk_drew ?_|refine blk_alloc ?_ _));exact BK522.out)):gb544≠gb522))
              clear HO_6 BK522 HB
              have HO_6:=n0_
              have BK522:=n1_
              have HB:=n2_
              have BK544:=n3_
              have GW544:=n4_
              have GE544:=n5_
              have NB522_544:=n6_
              have NB544_522:=n7_
              clear n0_ n1_ n2_ n3_ n4_ n5_ n6_ n7_ hb hbox hg
              refine hK.out _ _ ⟨HS0_,HS1_,HS2_,HS3_,HS4_⟩ (fun hHeld=>?_)
              clear hK K
              refine norm_ (a':=?_) ?_ ?_
              rotate_left
              ·show Act.put _ (some 8) _=_
               simp only [Act.put,List.setIfInBounds_toArray,List.set_cons_zero,List.set_cons_succ,i64_w,i32_w]
               rfl
              refine one_ (i:=23) (N:=none) #[true,true,true,true,true,true,true,true,true,true,true,true,true,true,true,true,true,true,true,true,true,true,true,true] rfl rfl (one_of HT_.out (by kernel_rfl)) (by decide) (fun K hK=>?_)
              have hs55:w54.cell? ⟨gb544,0,none⟩=some (.int .i64 0):=(blk_cell BK544.out 0).trans rfl
              have hfs55:=blk_frozen BK544.out 0
              have hns55_0:=NB522_544.out
              have hms55_0:=NB544_522.out
              have hs56:w54.cell? ⟨gb544,1,none⟩=some (.int .i64 0):=(blk_cell BK544.out 1).trans rfl
              have hfs56:=blk_frozen BK544.out 1
              have hns56_0:=NB522_544.out
              have hms56_0:=NB544_522.out
              have hs57:w54.cell? ⟨gb544,2,none⟩=some (.int .i64 0):=(blk_cell BK544.out 2).trans rfl
              have hfs57:=blk_frozen BK544.out 2
              have hns57_0:=NB522_544.out
              have hms57_0:=NB544_522.out
              have hs58:w54.cell? ⟨gb544,3,none⟩=some (.bool false):=(blk_cell BK544.out 3).trans rfl
              have hfs58:=blk_frozen BK544.out 3
              have hns58_0:=NB522_544.out
              have hms58_0:=NB544_522.out
              have hs59:w54.cell? ⟨gb544,4,none⟩=some (.int .i64 0):=(blk_cell BK544.out 4).trans rfl
              have hfs59:=blk_frozen BK544.out 4
              have hns59_0:=NB522_544.out
              have hms59_0:=NB544_522.out
              refine skip_ (w1:=?_) (by rfl) rfl ?_ ?_
              rotate_left
              ·go_simp
               rfl
              have NEF0_:=Kd.own_blk (Kd.R_ne HO_6.out BK544.out (by decide))
              refine hK.out _ _ ⟨?_,?_,?_,?_,?_⟩ ?_
              ·exact ((Go.Proofs.Ytbdnmdmfnopihaa.Sem.far5 (g:=gb544) (by first|exact NEF0_|(rw [add_block];exact NEF0_))).trans (hHeld.1))
              ·exact ((Go.Proofs.Ytbdnmdmfnopihaa.Sem.far5 (g:=gb544) (by first|exact NEF0_|(rw [add_block];exact NEF0_))).trans (hHeld.2.1))
              ·exact ((Go.Proofs.Ytbdnmdmfnopihaa.Sem.far5 (g:=gb544) (by first|exact NEF0_|(rw [add_block];exact NEF0_))).trans (hHeld.2.2.1))
              ·exact ((Go.Proofs.Ytbdnmdmfnopihaa.Sem.far5 (g:=gb544) (by first|exact NEF0_|(rw [add_block];exact NEF0_))).trans (hHeld.2.2.2.1))
              ·exact ((Go.Proofs.Ytbdnmdmfnopihaa.Sem.far5 (g:=gb544) (by first|exact NEF0_|(rw [add_block];exact NEF0_))).trans (hHeld.2.2.2.2))
              intro hHeld
              clear hK K
              refine done_ (done_of HT_.out (by kernel_rfl)) ?_
              have hnb60:=NB544_522.out
              have hnc60:=NB522_544.out
              have hcz61_0:w54.cell? ⟨gb544,0,none⟩=some (.int .i64 0):=(blk_cell BK544.out 0).trans rfl
              have hcz61_1:w54.cell? ⟨gb544,1,none⟩=some (.int .i64 0):=(blk_cell BK544.out 1).trans rfl
              have hcz61_2:w54.cell? ⟨gb544,2,none⟩=some (.int .i64 0):=(blk_cell BK544.out 2).trans rfl
              have hcz61_3:w54.cell? ⟨gb544,3,none⟩=some (.bool false):=(blk_cell BK544.out 3).trans rfl
              have hcz61_4:w54.cell? ⟨gb544,4,none⟩=some (.int .i64 0):=(blk_cell BK544.out 4).trans rfl
              have hfz61_0:=blk_frozen BK544.out 0
              have hfz61_1:=blk_frozen BK544.out 1
              have hfz61_2:=blk_frozen BK544.out 2
              have hfz61_3:=blk_frozen BK544.out 3
              have hfz61_4:=blk_frozen BK544.out 4
              try go_wp2_with (first|((with_reducible refine gate_callee (f:=40) rfl ?_);refine goesL_ (some 73) rfl rfl Try.func40 (by kernel_rfl) rfl #[.agg #[.int .i64 (wrap64 (rd t532 1)),.int .i64 (wrap64 (rd t532 2)),.int .i64 (wrap64 (rd t532 4)),.bool ((rd t532 3) == 1),.int .i64 (wrap64 (rd t532 5))]] rfl (by (try simp only [List.map_toArray,List.map_cons,List.map_nil]);first|done|rfl|(simp only [List.length_drop,List.length_take];rfl)) ?_;(with_reducible refine (layout_EncodeSuper.calls kj8 (wrap64 (rd t532 1)) (wrap64 (rd t532 2)) (wrap64 (rd t532 4)) ((rd t532 3) == 1) (wrap64 (rd t532 5)) t545 t548 _ A34.out).mono ?_);rintro e w62 ⟨v546,rfl,ho0,hb⟩;refine ⟨_,rfl,?_⟩;have n0_:=Aside0.mk (Kd.R_below (by (with_reducible repeat (first|apply Kd.R_alloc|apply Kd.R_drewN|apply Kd.R_drew));exact (Kd.R_mono (Kd.R_far (p:=⟨gb544,4,none⟩) (Kd.R_far (p:=⟨gb544,3,none⟩) (Kd.R_far (p:=⟨gb544,2,none⟩) (Kd.R_far (p:=⟨gb544,1,none⟩) (Kd.R_far (p:=⟨gb544,0,none⟩) (Kd.R_types HO_6.out BK544.out (by decide)) (fun _ hk=>hk.2) (.int .i64 (wrap64 (rd t532 1)))) (fun _ hk=>hk.2) (.int .i64 (wrap64 (rd t532 2)))) (fun _ hk=>hk.2) (.int .i64 (wrap64 (rd t532 4)))) (fun _ hk=>hk.2) (.bool ((rd t532 3) == 1))) (fun _ hk=>hk.2) (.int .i64 (wrap64 (rd t532 5)))) (fun _ h_=>h_.1))) hb);have n1_:=Aside0.mk (Kd.R_lower ho0 (below_size (by repeat (first|(with_reducible first|exact HB.out|apply below_alloc|apply pw_below_drewN|apply below_drew1|refine below_set ?_ GE522.out|refine below_set ?_ GE544.out)|exact HB.out))));have n2_:=Aside0.mk (blk_below (g:=gb522) (o:=.cells #[.int .i64 0,.int .i64 0,.int .i64 0,.bool false,.int .i64 0] 63 (0,0)) (by (with_reducible repeat (first|refine blk_drewN ?_ _|refine blk_drew ?_|refine blk_alloc ?_ _));refine blk_far ?_ NB522_544.out _;(with_reducible repeat (first|refine blk_drewN ?_ _|refine blk_drew ?_|refine blk_alloc ?_ _));refine blk_far ?_ NB522_544.out _;(with_reducible repeat (first|refine blk_drewN ?_ _|refine blk_drew ?_|refine blk_alloc ?_ _));refine blk_far ?_ NB522_544.out _;(with_reducible repeat (first|refine blk_drewN ?_ _|refine blk_drew ?_|refine blk_alloc ?_ _));refine blk_far ?_ NB522_544.out _;(with_reducible repeat (first|refine blk_drewN ?_ _|refine blk_drew ?_|refine blk_alloc ?_ _));refine blk_far ?_ NB522_544.out _;(with_reducible repeat (first|refine blk_drewN ?_ _|refine blk_drew ?_|refine blk_alloc ?_ _));exact BK522.out) hb);have n3_:=Aside0.mk (blk_below (g:=gb544) (o:=.cells #[.int .i64 (wrap64 (rd t532 1)),.int .i64 (wrap64 (rd t532 2)),.int .i64 (wrap64 (rd t532 4)),.bool ((rd t532 3) == 1),.int .i64 (wrap64 (rd t532 5))] 63 (0,0)) (by (with_reducible repeat (first|refine blk_drewN ?_ _|refine blk_drew ?_|refine blk_alloc ?_ _));refine blk_put (cs:=#[.int .i64 (wrap64 (rd t532 1)),.int .i64 (wrap64 (rd t532 2)),.int .i64 (wrap64 (rd t532 4)),.bool ((rd t532 3) == 1),.int .i64 0]) ?_ 4 _ rfl;(with_reducible repeat (first|refine blk_drewN ?_ _|refine blk_drew ?_|refine blk_alloc ?_ _));refine blk_put (cs:=#[.int .i64 (wrap64 (rd t532 1)),.int .i64 (wrap64 (rd t532 2)),.int .i64 (wrap64 (rd t532 4)),.bool false,.int .i64 0]) ?_ 3 _ rfl;(with_reducible repeat (first|refine blk_drewN ?_ _|refine blk_drew ?_|refine blk_alloc ?_ _));refine blk_put (cs:=#[.int .i64 (wrap64 (rd t532 1)),.int .i64 (wrap64 (rd t532 2)),.int .i64 0,.bool false,.int .i64 0]) ?_ 2 _ rfl;(with_reducible repeat (first|refine blk_drewN ?_ _|refine blk_drew ?_|refine blk_alloc ?_ _));refine blk_put (cs:=#[.int .i64 (wrap64 (rd t532 1)),.int .i64 0,.int .i64 0,.bool false,.int .i64 0]) ?_ 1 _ rfl;(with_reducible repeat (first|refine blk_drewN ?_ _|refine blk_drew ?_|refine blk_alloc ?_ _));refine blk_put (cs:=#[.int .i64 0,.int .i64 0,.int .i64 0,.bool false,.int .i64 0]) ?_ 0 _ rfl;(with_reducible repeat (first|refine blk_drewN ?_ _|refine blk_drew ?_|refine blk_alloc ?_ _));exact BK544.out) hb);have n4_:=Aside0.mk (below_step (by repeat (first|(with_reducible first|exact HB.out|apply below_alloc|apply pw_below_drewN|apply below_drew1|refine below_set ?_ GE522.out|refine below_set ?_ GE544.out)|exact HB.out)) hb);clear HO_6 BK522 BK544 HB;have HO_6:=n0_;have HO547:=n1_;have BK522:=n2_;have BK544:=n3_;have HB:=n4_;clear n0_ n1_ n2_ n3_ n4_;(try clear hb);(try clear hb2);(try clear hk);(try clear hi);(try clear ho0);obtain ⟨Ao63,co63,eo63⟩:=Kd.R_slice HO547.out;subst eo63)|(go_at_call 51;(with_reducible refine (slices_Equal_byte_byte.calls kj8 _ _ t545 _ _ l0 false _ ?side1 ?side2 ?side3 ?side4 A36.out).mono ?_);(case side1=>repeat (first|exact (Kd.R_reads' HO547.out).2.2|(with_reducible refine Kd.C_alloc ?_ _)|(with_reducible refine Kd.C_drewN ?_ _)|(with_reducible refine Kd.C_drew ?_)));(case side2=>exact (Kd.R_reads' HO547.out).2.1);(case side3=>repeat (first|exact (Kd.C_below HR0.out HB.out)|(with_reducible refine Kd.C_alloc ?_ _)|(with_reducible refine Kd.C_drewN ?_ _)|(with_reducible refine Kd.C_drew ?_)));(case side4=>exact HC0.out);rintro e w' ⟨rfl,⟨nd,rfl⟩⟩;(try (rw [drewN_self w62];generalize hq_:World.drewN w62 _=w62;have n0_:Aside0 (Kd.R (Kd.int .u8) 5 w62 w.heap.size (fun _=>True) (.slice Ao63 t545.length co63) t545):=⟨by rw [← hq_];exact (by (with_reducible repeat (first|apply Kd.R_alloc|apply Kd.R_drewN|apply Kd.R_drew));exact HO547.out)⟩;have n1_:Aside0 (Kd.R (Kd.int .u64) 76 w62 w.heap.size (fun _=>True) (.slice (some ad539) t532.length co53) t532):=⟨by rw [← hq_];exact (by (with_reducible repeat (first|apply Kd.R_alloc|apply Kd.R_drewN|apply Kd.R_drew));exact HO_6.out)⟩;have n2_:Aside0 (w62.heap[gb522]?=some (.cells #[.int .i64 0,.int .i64 0,.int .i64 0,.bool false,.int .i64 0] 63 (0,0))):=⟨by rw [← hq_];exact (by (with_reducible repeat (first|refine blk_drewN ?_ _|refine blk_drew ?_|refine blk_alloc ?_ _));exact BK522.out)⟩;have n3_:Aside0 (w62.heap[gb544]?=some (.cells #[.int .i64 (wrap64 (rd t532 1)),.int .i64 (wrap64 (rd t532 2)),.int .i64 (wrap64 (rd t532 4)),.bool ((rd t532 3) == 1),.int .i64 (wrap64 (rd t532 5))] 63 (0,0))):=⟨by rw [← hq_];exact (by (with_reducible repeat (first|refine blk_drewN ?_ _|refine blk_drew ?_|refine blk_alloc ?_ _));exact BK544.out)⟩;have n4_:Aside0 (Below w.heap.size w w62):=⟨by rw [← hq_];exact (by repeat (first|(with_reducible first|exact HB.out|apply below_alloc|apply pw_below_drewN|apply below_drew1|refine below_set ?_ GE522.out|refine below_set ?_ GE544.out)|exact HB.out))⟩;clear HO547 HO_6 BK522 BK544 HB hq_;have HO547:=n0_;have HO_6:=n1_;have BK522:=n2_;have BK544:=n3_;have HB:=n4_;clear n0_ n1_ n2_ n3_ n4_));have hcz64_0:w62.cell? ⟨gb522,0,none⟩=some (.int .i64 0):=(blk_cell BK522.out 0).trans rfl;have hcz64_1:w62.cell? ⟨gb522,1,none⟩=some (.int .i64 0):=(blk_cell BK522.out 1).trans rfl;have hcz64_2:w62.cell? ⟨gb522,2,none⟩=some (.int .i64 0):=(blk_cell BK522.out 2).trans rfl;have hcz64_3:w62.cell? ⟨gb522,3,none⟩=some (.bool false):=(blk_cell BK522.out 3).trans rfl;have hcz64_4:w62.cell? ⟨gb522,4,none⟩=some (.int .i64 0):=(blk_cell BK522.out 4).trans rfl;have hfz64_0:=blk_frozen BK522.out 0;have hfz64_1:=blk_frozen BK522.out 1;have hfz64_2:=blk_frozen BK522.out 2;have hfz64_3:=blk_frozen BK522.out 3;have hfz64_4:=blk_frozen BK522.out 4))
              refine bodyPost_ret (results_ct rfl _ _ gb522 63 #[.int .i64 0,.int .i64 0,.int .i64 0,.bool false,.int .i64 0] (0,0) _ rfl (by (with_reducible repeat (first|refine blk_drewN ?_ _|refine blk_drew ?_|refine blk_alloc ?_ _));refine blk_put (cs:=#[.int .i64 0,.int .i64 0,.int .i64 0,.bool false,.int .i64 0]) ?_ 4 _ rfl;(with_reducible repeat (first|refine blk_drewN ?_ _|refine blk_drew ?_|refine blk_alloc ?_ _));refine blk_put (cs:=#[.int .i64 0,.int .i64 0,.int .i64 0,.bool false,.int .i64 0]) ?_ 3 _ rfl;(with_reducible repeat (first|refine blk_drewN ?_ _|refine blk_drew ?_|refine blk_alloc ?_ _));refine blk_put (cs:=#[.int .i64 0,.int .i64 0,.int .i64 0,.bool false,.int .i64 0]) ?_ 2 _ rfl;(with_reducible repeat (first|refine blk_drewN ?_ _|refine blk_drew ?_|refine blk_alloc ?_ _));refine blk_put (cs:=#[.int .i64 0,.int .i64 0,.int .i64 0,.bool false,.int .i64 0]) ?_ 1 _ rfl;(with_reducible repeat (first|refine blk_drewN ?_ _|refine blk_drew ?_|refine blk_alloc ?_ _));refine blk_put (cs:=#[.int .i64 0,.int .i64 0,.int .i64 0,.bool false,.int .i64 0]) ?_ 0 _ rfl;(with_reducible repeat (first|refine blk_drewN ?_ _|refine blk_drew ?_|refine blk_alloc ?_ _));exact BK522.out) Try.underlying63 rfl (by kernel_rfl)) rfl ?_
              exact ⟨by first|rfl|(simp [errW_none,errW_some] <;> rfl)|(simp [*,errW_none,errW_some] <;> rfl),by repeat (first|(with_reducible first|exact HB.out|apply below_alloc|apply pw_below_drewN|apply below_drew1|refine below_set ?_ GE522.out|refine below_set ?_ GE544.out)|exact HB.out)⟩
            ·rw [if_neg c35] at H
             have c35b0:(t548 == 0)=false:=beq_eq_false_iff_ne.mpr c35
             have c35b1:(t548 != 0)=true:=bne_iff_ne.mpr c35
             simp only [Option.some.injEq,Prod.mk.injEq] at H
             obtain ⟨rfl,rfl,rfl,rfl,rfl,rfl⟩:=H
             try go_wp2
             have n0_:=Aside0.mk (Kd.R_drew HO_6.out)
             have n1_:=Aside0.mk (blk_drew BK522.out)
             have n2_:=Aside0.mk (below_drew1 HB.out)
             clear HO_6 BK522 HB
             have HO_6:=n0_
             have BK522:=n1_
             have HB:=n2_
             clear n0_ n1_ n2_
             obtain ⟨Ao66,co66,eo66⟩:=Kd.R_slice HO_6.out
             (first|subst eo66|(injection eo66 with f1_ f2_ f3_;have f4_:=f1_.symm;have f5_:=f3_.symm;clear f1_ f2_ f3_;subst f4_;subst f5_))
             have p539:0≤(1:Int):=(by omega)
             have q539:1 < (t532.length:Int):=of_decide_eq_true (by first|(with_reducible assumption)|assumption)
             obtain ⟨ad539,e539,hx539_0⟩:=Kd.at_int (Kd.R_reads' HO_6.out).2.2 1 p539 q539
             cases e539
             (try simp only [show (1:Int).toNat=1 from rfl,Nat.reduceMul,Nat.reduceEqDiff,Go.Addr.add,↓reduceIte] at hx539_0)
             have qi539:(1 < t532.length)=True:=eq_true (by omega)
             (try rw [show ((1:Int)).toNat=1 from rfl] at hx539_0)
             replace p539:=eq_true p539
             replace q539:=eq_true q539
             have p540:0≤(2:Int):=(by omega)
             have q540:2 < (t532.length:Int):=of_decide_eq_true (by first|(with_reducible assumption)|assumption)
             obtain ⟨ad540,e540,hx540_0⟩:=Kd.at_int (Kd.R_reads' HO_6.out).2.2 2 p540 q540
             obtain rfl:ad539=ad540:=(by injection e540)
             (try simp only [show (2:Int).toNat=2 from rfl,Nat.reduceMul,Nat.reduceEqDiff,Go.Addr.add,↓reduceIte] at hx540_0)
             have qi540:(2 < t532.length)=True:=eq_true (by omega)
             (try rw [show ((2:Int)).toNat=2 from rfl] at hx540_0)
             replace p540:=eq_true p540
             replace q540:=eq_true q540
             have p541:0≤(3:Int):=(by omega)
             have q541:3 < (t532.length:Int):=of_decide_eq_true (by first|(with_reducible assumption)|assumption)
             obtain ⟨ad541,e541,hx541_0⟩:=Kd.at_int (Kd.R_reads' HO_6.out).2.2 3 p541 q541
             obtain rfl:ad539=ad541:=(by injection e541)
             (try simp only [show (3:Int).toNat=3 from rfl,Nat.reduceMul,Nat.reduceEqDiff,Go.Addr.add,↓reduceIte] at hx541_0)
             have qi541:(3 < t532.length)=True:=eq_true (by omega)
             (try rw [show ((3:Int)).toNat=3 from rfl] at hx541_0)
             replace p541:=eq_true p541
             replace q541:=eq_true q541
             have p542:0≤(4:Int):=(by omega)
             have q542:4 < (t532.length:Int):=of_decide_eq_true (by first|(with_reducible assumption)|assumption)
             obtain ⟨ad542,e542,hx542_0⟩:=Kd.at_int (Kd.R_reads' HO_6.out).2.2 4 p542 q542
             obtain rfl:ad539=ad542:=(by injection e542)
             (try simp only [show (4:Int).toNat=4 from rfl,Nat.reduceMul,Nat.reduceEqDiff,Go.Addr.add,↓reduceIte] at hx542_0)
             have qi542:(4 < t532.length)=True:=eq_true (by omega)
             (try rw [show ((4:Int)).toNat=4 from rfl] at hx542_0)
             replace p542:=eq_true p542
             replace q542:=eq_true q542
             have p543:0≤(5:Int):=(by omega)
             have q543:5 < (t532.length:Int):=of_decide_eq_true (by first|(with_reducible assumption)|assumption)
             obtain ⟨ad543,e543,hx543_0⟩:=Kd.at_int (Kd.R_reads' HO_6.out).2.2 5 p543 q543
             obtain rfl:ad539=ad543:=(by injection e543)
             (try simp only [show (5:Int).toNat=5 from rfl,Nat.reduceMul,Nat.reduceEqDiff,Go.Addr.add,↓reduceIte] at hx543_0)
             have qi543:(5 < t532.length)=True:=eq_true (by omega)
             (try rw [show ((5:Int)).toNat=5 from rfl] at hx543_0)
             replace p543:=eq_true p543
             replace q543:=eq_true q543
             refine start_ (n:=24) (S:=fun w'=>w'.cell? ⟨ad539.block,ad539.off + 1,none⟩=some (.int .u64 (rd t532 1))∧w'.cell? ⟨ad539.block,ad539.off + 2,none⟩=some (.int .u64 (rd t532 2))∧w'.cell? ⟨ad539.block,ad539.off + 3,none⟩=some (.int .u64 (rd t532 3))∧w'.cell? ⟨ad539.block,ad539.off + 4,none⟩=some (.int .u64 (rd t532 4))∧w'.cell? ⟨ad539.block,ad539.off + 5,none⟩=some (.int .u64 (rd t532 5))) (ds:=[]) #[false,false,false,false,false,false,false,false,false,false,false,false,false,false,false,false,false,false,false,false,false,false,false,false] (by kernel_rfl) rfl rfl ⟨hx539_0,hx540_0,hx541_0,hx542_0,hx543_0⟩ (fun hHeld=>?_);refine with_tabW layout_DecodeSuper.tab7 layout_DecodeSuper.bits7 (fun HT_ HW_=>?_)
             generalize wc.drew=w65 at HO_6 BK522 HB hx539_0 hx540_0 hx541_0 hx542_0 hx543_0 hHeld ⊢
             refine pure_ (i:=0) (N:=some 49) (v:=?_) (a':=?_) #[true,false,false,false,false,false,false,false,false,false,false,false,false,false,false,false,false,false,false,false,false,false,false,false] rfl rfl (any_of HT_.out (by kernel_rfl)) (fun _ _ _ h=>h) (Or.inl ⟨by rfl,?_⟩) ?_ ?_
             rotate_left
             ·intro w'
              go_simp
              with_reducible rfl
             rotate_left
             ·simp only [Act.put,List.setIfInBounds_toArray,List.set_cons_zero,List.set_cons_succ,i64_w,i32_w]
              rfl
             refine pure_ (i:=1) (N:=some 50) (v:=?_) (a':=?_) #[true,true,false,false,false,false,false,false,false,false,false,false,false,false,false,false,false,false,false,false,false,false,false,false] rfl rfl (any_of HT_.out (by kernel_rfl)) (fun _ _ _ h=>h) (Or.inl ⟨by rfl,?_⟩) ?_ ?_
             rotate_left
             ·intro w'
              go_simp
              with_reducible rfl
             rotate_left
             ·simp only [Act.put,List.setIfInBounds_toArray,List.set_cons_zero,List.set_cons_succ,i64_w,i32_w]
              rfl
             refine pure_ (i:=4) (N:=some 53) (v:=?_) (a':=?_) #[true,true,false,false,true,false,false,false,false,false,false,false,false,false,false,false,false,false,false,false,false,false,false,false] rfl rfl (any_of HT_.out (by kernel_rfl)) (fun _ _ _ h=>h) (Or.inl ⟨by rfl,?_⟩) ?_ ?_
             rotate_left
             ·intro w'
              go_simp
              with_reducible rfl
             rotate_left
             ·simp only [Act.put,List.setIfInBounds_toArray,List.set_cons_zero,List.set_cons_succ,i64_w,i32_w]
              rfl
             refine pure_ (i:=5) (N:=some 54) (v:=?_) (a':=?_) #[true,true,false,false,true,true,false,false,false,false,false,false,false,false,false,false,false,false,false,false,false,false,false,false] rfl rfl (any_of HT_.out (by kernel_rfl)) (fun _ _ _ h=>h) (Or.inl ⟨by rfl,?_⟩) ?_ ?_
             rotate_left
             ·intro w'
              go_simp
              with_reducible rfl
             rotate_left
             ·simp only [Act.put,List.setIfInBounds_toArray,List.set_cons_zero,List.set_cons_succ,i64_w,i32_w]
              rfl
             refine pure_ (i:=9) (N:=some 58) (v:=?_) (a':=?_) #[true,true,false,false,true,true,false,false,false,true,false,false,false,false,false,false,false,false,false,false,false,false,false,false] rfl rfl (any_of HT_.out (by kernel_rfl)) (fun _ _ _ h=>h) (Or.inl ⟨by rfl,?_⟩) ?_ ?_
             rotate_left
             ·intro w'
              go_simp
              with_reducible rfl
             rotate_left
             ·simp only [Act.put,List.setIfInBounds_toArray,List.set_cons_zero,List.set_cons_succ,i64_w,i32_w]
              rfl
             refine pure_ (i:=10) (N:=some 59) (v:=?_) (a':=?_) #[true,true,false,false,true,true,false,false,false,true,true,false,false,false,false,false,false,false,false,false,false,false,false,false] rfl rfl (any_of HT_.out (by kernel_rfl)) (fun _ _ _ h=>h) (Or.inl ⟨by rfl,?_⟩) ?_ ?_
             rotate_left
             ·intro w'
              go_simp
              with_reducible rfl
             rotate_left
             ·simp only [Act.put,List.setIfInBounds_toArray,List.set_cons_zero,List.set_cons_succ,i64_w,i32_w]
              rfl
             refine pure_ (i:=13) (N:=some 62) (v:=?_) (a':=?_) #[true,true,false,false,true,true,false,false,false,true,true,false,false,true,false,false,false,false,false,false,false,false,false,false] rfl rfl (any_of HT_.out (by kernel_rfl)) (fun _ _ _ h=>h) (Or.inl ⟨by rfl,?_⟩) ?_ ?_
             rotate_left
             ·intro w'
              go_simp
              with_reducible rfl
             rotate_left
             ·simp only [Act.put,List.setIfInBounds_toArray,List.set_cons_zero,List.set_cons_succ,i64_w,i32_w]
              rfl
             refine pure_ (i:=14) (N:=some 63) (v:=?_) (a':=?_) #[true,true,false,false,true,true,false,false,false,true,true,false,false,true,true,false,false,false,false,false,false,false,false,false] rfl rfl (any_of HT_.out (by kernel_rfl)) (fun _ _ _ h=>h) (Or.inl ⟨by rfl,?_⟩) ?_ ?_
             rotate_left
             ·intro w'
              go_simp
              with_reducible rfl
             rotate_left
             ·simp only [Act.put,List.setIfInBounds_toArray,List.set_cons_zero,List.set_cons_succ,i64_w,i32_w]
              rfl
             refine pure_ (i:=17) (N:=some 66) (v:=?_) (a':=?_) #[true,true,false,false,true,true,false,false,false,true,true,false,false,true,true,false,false,true,false,false,false,false,false,false] rfl rfl (any_of HT_.out (by kernel_rfl)) (fun _ _ _ h=>h) (Or.inl ⟨by rfl,?_⟩) ?_ ?_
             rotate_left
             ·intro w'
              go_simp
              with_reducible rfl
             rotate_left
             ·simp only [Act.put,List.setIfInBounds_toArray,List.set_cons_zero,List.set_cons_succ,i64_w,i32_w]
              rfl
             refine pure_ (i:=18) (N:=some 67) (v:=?_) (a':=?_) #[true,true,false,false,true,true,false,false,false,true,true,false,false,true,true,false,false,true,true,false,false,false,false,false] rfl rfl (any_of HT_.out (by kernel_rfl)) (fun _ _ _ h=>h) (Or.inl ⟨by rfl,?_⟩) ?_ ?_
             rotate_left
             ·intro w'
              go_simp
              with_reducible rfl
             rotate_left
             ·simp only [Act.put,List.setIfInBounds_toArray,List.set_cons_zero,List.set_cons_succ,i64_w,i32_w]
              rfl
             refine take_ (i:=2) (N:=some 51) (v:=?_) (a':=?_) #[true,true,true,false,true,true,false,false,false,true,true,false,false,true,true,false,false,true,true,false,false,false,false,false] rfl rfl (take_ofW HT_.out HW_.out (by kernel_rfl)) (fun _ _ _ h=>h) (Or.inl ⟨by rfl,?_⟩) hHeld ?_ ?_
             rotate_left
             ·rintro w' ⟨s0,s1,s2,s3,s4⟩
              go_simp
              with_reducible rfl
             rotate_left
             ·simp only [Act.put,List.setIfInBounds_toArray,List.set_cons_zero,List.set_cons_succ,i64_w,i32_w]
              rfl
             refine pure_ (i:=3) (N:=some 52) (v:=?_) (a':=?_) #[true,true,true,true,true,true,false,false,false,true,true,false,false,true,true,false,false,true,true,false,false,false,false,false] rfl rfl (any_of HT_.out (by kernel_rfl)) (fun _ _ _ h=>h) (Or.inl ⟨by rfl,?_⟩) ?_ ?_
             rotate_left
             ·intro w'
              go_simp
              with_reducible rfl
             rotate_left
             ·simp only [Act.put,List.setIfInBounds_toArray,List.set_cons_zero,List.set_cons_succ,i64_w,i32_w]
              rfl
             refine take_ (i:=6) (N:=some 55) (v:=?_) (a':=?_) #[true,true,true,true,true,true,true,false,false,true,true,false,false,true,true,false,false,true,true,false,false,false,false,false] rfl rfl (take_ofW HT_.out HW_.out (by kernel_rfl)) (fun _ _ _ h=>h) (Or.inl ⟨by rfl,?_⟩) hHeld ?_ ?_
             rotate_left
             ·rintro w' ⟨s0,s1,s2,s3,s4⟩
              go_simp
              with_reducible rfl
             rotate_left
             ·simp only [Act.put,List.setIfInBounds_toArray,List.set_cons_zero,List.set_cons_succ,i64_w,i32_w]
              rfl
             refine pure_ (i:=7) (N:=some 56) (v:=?_) (a':=?_) #[true,true,true,true,true,true,true,true,false,true,true,false,false,true,true,false,false,true,true,false,false,false,false,false] rfl rfl (any_of HT_.out (by kernel_rfl)) (fun _ _ _ h=>h) (Or.inl ⟨by rfl,?_⟩) ?_ ?_
             rotate_left
             ·intro w'
              go_simp
              with_reducible rfl
             rotate_left
             ·simp only [Act.put,List.setIfInBounds_toArray,List.set_cons_zero,List.set_cons_succ,i64_w,i32_w]
              rfl
             refine pure_ (i:=8) (N:=some 57) (v:=?_) (a':=?_) #[true,true,true,true,true,true,true,true,true,true,true,false,false,true,true,false,false,true,true,false,false,false,false,false] rfl rfl (any_of HT_.out (by kernel_rfl)) (fun _ _ _ h=>h) (Or.inl ⟨by rfl,?_⟩) ?_ ?_
             rotate_left
             ·intro w'
              go_simp
              with_reducible rfl
             rotate_left
             ·simp only [Act.put,List.setIfInBounds_toArray,List.set_cons_zero,List.set_cons_succ,i64_w,i32_w]
              rfl
             refine take_ (i:=11) (N:=some 60) (v:=?_) (a':=?_) #[true,true,true,true,true,true,true,true,true,true,true,true,false,true,true,false,false,true,true,false,false,false,false,false] rfl rfl (take_ofW HT_.out HW_.out (by kernel_rfl)) (fun _ _ _ h=>h) (Or.inl ⟨by rfl,?_⟩) hHeld ?_ ?_
             rotate_left
             ·rintro w' ⟨s0,s1,s2,s3,s4⟩
              go_simp
              with_reducible rfl
             rotate_left
             ·simp only [Act.put,List.setIfInBounds_toArray,List.set_cons_zero,List.set_cons_succ,i64_w,i32_w]
              rfl
             refine pure_ (i:=12) (N:=some 61) (v:=?_) (a':=?_) #[true,true,true,true,true,true,true,true,true,true,true,true,true,true,true,false,false,true,true,false,false,false,false,false] rfl rfl (any_of HT_.out (by kernel_rfl)) (fun _ _ _ h=>h) (Or.inl ⟨by rfl,?_⟩) ?_ ?_
             rotate_left
             ·intro w'
              go_simp
              with_reducible rfl
             rotate_left
             ·simp only [Act.put,List.setIfInBounds_toArray,List.set_cons_zero,List.set_cons_succ,i64_w,i32_w]
              rfl
             refine take_ (i:=15) (N:=some 64) (v:=?_) (a':=?_) #[true,true,true,true,true,true,true,true,true,true,true,true,true,true,true,true,false,true,true,false,false,false,false,false] rfl rfl (take_ofW HT_.out HW_.out (by kernel_rfl)) (fun _ _ _ h=>h) (Or.inl ⟨by rfl,?_⟩) hHeld ?_ ?_
             rotate_left
             ·rintro w' ⟨s0,s1,s2,s3,s4⟩
              go_simp
              with_reducible rfl
             rotate_left
             ·simp only [Act.put,List.setIfInBounds_toArray,List.set_cons_zero,List.set_cons_succ,i64_w,i32_w]
              rfl
             refine pure_ (i:=16) (N:=some 65) (v:=?_) (a':=?_) #[true,true,true,true,true,true,true,true,true,true,true,true,true,true,true,true,true,true,true,false,false,false,false,false] rfl rfl (any_of HT_.out (by kernel_rfl)) (fun _ _ _ h=>h) (Or.inl ⟨by rfl,?_⟩) ?_ ?_
             rotate_left
             ·intro w'
              go_simp
              with_reducible rfl
             rotate_left
             ·simp only [Act.put,List.setIfInBounds_toArray,List.set_cons_zero,List.set_cons_succ,i64_w,i32_w]
              rfl
             refine take_ (i:=19) (N:=some 68) (v:=?_) (a':=?_) #[true,true,true,true,true,true,true,true,true,true,true,true,true,true,true,true,true,true,true,true,false,false,false,false] rfl rfl (take_ofW HT_.out HW_.out (by kernel_rfl)) (fun _ _ _ h=>h) (Or.inl ⟨by rfl,?_⟩) hHeld ?_ ?_
             rotate_left
             ·rintro w' ⟨s0,s1,s2,s3,s4⟩
              go_simp
              with_reducible rfl
             rotate_left
             ·simp only [Act.put,List.setIfInBounds_toArray,List.set_cons_zero,List.set_cons_succ,i64_w,i32_w]
              rfl
             refine pure_ (i:=20) (N:=some 69) (v:=?_) (a':=?_) #[true,true,true,true,true,true,true,true,true,true,true,true,true,true,true,true,true,true,true,true,true,false,false,false] rfl rfl (any_of HT_.out (by kernel_rfl)) (fun _ _ _ h=>h) (Or.inl ⟨by rfl,?_⟩) ?_ ?_
             rotate_left
             ·intro w'
              go_simp
              with_reducible rfl
             rotate_left
             ·simp only [Act.put,List.setIfInBounds_toArray,List.set_cons_zero,List.set_cons_succ,i64_w,i32_w]
              rfl
             refine pure_ (i:=21) (N:=some 70) (v:=?_) (a':=?_) #[true,true,true,true,true,true,true,true,true,true,true,true,true,true,true,true,true,true,true,true,true,true,false,false] rfl rfl (any_of HT_.out (by kernel_rfl)) (fun _ _ _ h=>h) (Or.inl ⟨by rfl,?_⟩) ?_ ?_
             rotate_left
             ·intro w'
              go_simp
              with_reducible rfl
             rotate_left
             ·simp only [Act.put,List.setIfInBounds_toArray,List.set_cons_zero,List.set_cons_succ,i64_w,i32_w]
              rfl
             refine one_ (i:=22) (N:=some 8) #[true,true,true,true,true,true,true,true,true,true,true,true,true,true,true,true,true,true,true,true,true,true,true,false] rfl rfl (one_of HT_.out (by kernel_rfl)) (by decide) (fun K hK=>?_)
             refine box_step ?hg (N:=8) ?hd (cs:=#[.int .i64 0,.int .i64 0,.int .i64 0,.bool false,.int .i64 0]) (t:=63) ?hr ?_;(case hd=>rfl);(case hg=>rfl);(case hr=>first|(go_simp;done)|(go_simp;rfl))
             intro gb544 hg w67 hbox hb
             have HS0_:=(hb.cell (World.block_lt_of_cell? _ _ (hHeld.1))).trans (hHeld.1)
             have HS1_:=(hb.cell (World.block_lt_of_cell? _ _ (hHeld.2.1))).trans (hHeld.2.1)
             have HS2_:=(hb.cell (World.block_lt_of_cell? _ _ (hHeld.2.2.1))).trans (hHeld.2.2.1)
             have HS3_:=(hb.cell (World.block_lt_of_cell? _ _ (hHeld.2.2.2.1))).trans (hHeld.2.2.2.1)
             have HS4_:=(hb.cell (World.block_lt_of_cell? _ _ (hHeld.2.2.2.2))).trans (hHeld.2.2.2.2)
             have n0_:=Aside0.mk (Kd.R_below (by (with_reducible repeat (first|apply Kd.R_alloc|apply Kd.R_drewN|apply Kd.R_drew));exact HO_6.out) hb)
             have n1_:=Aside0.mk (blk_below (g:=gb522) (o:=.cells #[.int .i64 0,.int .i64 0,.int .i64 0,.bool false,.int .i64 0] 63 (0,0)) (by (with_reducible repeat (first|refine blk_drewN ?_ _|refine blk_drew ?_|refine blk_alloc ?_ _));exact BK522.out) hb)
             have n2_:=Aside0.mk (below_step (by repeat (first|(with_reducible first|exact HB.out|apply below_alloc|apply pw_below_drewN|apply below_drew1|refine below_set ?_ GE522.out)|exact HB.out)) hb)
             have n3_:=Aside0.mk (hbox)
             have n4_:=Aside0.mk ((by rw [hg];exact (below_size (by repeat (first|(with_reducible first|exact HB.out|apply below_alloc|apply pw_below_drewN|apply below_drew1|refine below_set ?_ GE522.out)|exact HB.out))):w.heap.size≤gb544))
             have n5_:=Aside0.mk ((by rw [hg];exact (below_size (by repeat (first|(with_reducible first|exact HB.out|apply below_alloc|apply pw_below_drewN|apply below_drew1|refine below_set ?_ GE522.out)|exact HB.out))):w.heap.size≤gb544))
             have n6_:=Aside0.mk ((by rw [hg];exact Nat.ne_of_lt (blk_lt (g:=gb522) (o:=.cells #[.int .i64 0,.int .i64 0,.int .i64 0,.bool false,.int .i64 0] 63 (0,0)) (by (with_reducible repeat (first|refine blk_drewN ?_ _|refine blk_drew ?_|refine blk_alloc ?_ _));exact BK522.out)):gb522≠gb544))
             have n7_:=Aside0.mk ((by rw [hg];exact Nat.ne_of_gt (blk_lt (g:=gb522) (o:=.cells #[.int .i64 0,.int .i64 0,.int .i64 0,.bool false,.int .i64 0] 63 (0,0)) (by (with_reducible repeat (first|refine blk_drewN ?_ _|refine blk_drew ?_|refine blk_alloc ?_ _));exact BK522.out)):gb544≠gb522))
             clear HO_6 BK522 HB
             have HO_6:=n0_
             have BK522:=n1_
             have HB:=n2_
             have BK544:=n3_
             have GW544:=n4_
             have GE544:=n5_
             have NB522_544:=n6_
             have NB544_522:=n7_
             clear n0_ n1_ n2_ n3_ n4_ n5_ n6_ n7_ hb hbox hg
             refine hK.out _ _ ⟨HS0_,HS1_,HS2_,HS3_,HS4_⟩ (fun hHeld=>?_)
             clear hK K
             refine norm_ (a':=?_) ?_ ?_
             rotate_left
             ·show Act.put _ (some 8) _=_
              simp only [Act.put,List.setIfInBounds_toArray,List.set_cons_zero,List.set_cons_succ,i64_w,i32_w]
              rfl
             refine one_ (i:=23) (N:=none) #[true,true,true,true,true,true,true,true,true,true,true,true,true,true,true,true,true,true,true,true,true,true,true,true] rfl rfl (one_of HT_.out (by kernel_rfl)) (by decide) (fun K hK=>?_)
             have hs68:w67.cell? ⟨gb544,0,none⟩=some (.int .i64 0):=(blk_cell BK544.out 0).trans rfl
             have hfs68:=blk_frozen BK544.out 0
             have hns68_0:=NB522_544.out
             have hms68_0:=NB544_522.out
             have hs69:w67.cell? ⟨gb544,1,none⟩=some (.int .i64 0):=(blk_cell BK544.out 1).trans rfl
             have hfs69:=blk_frozen BK544.out 1
             have hns69_0:=NB522_544.out
             have hms69_0:=NB544_522.out
             have hs70:w67.cell? ⟨gb544,2,none⟩=some (.int .i64 0):=(blk_cell BK544.out 2).trans rfl
             have hfs70:=blk_frozen BK544.out 2
             have hns70_0:=NB522_544.out
             have hms70_0:=NB544_522.out
             have hs71:w67.cell? ⟨gb544,3,none⟩=some (.bool false):=(blk_cell BK544.out 3).trans rfl
             have hfs71:=blk_frozen BK544.out 3
             have hns71_0:=NB522_544.out
             have hms71_0:=NB544_522.out
             have hs72:w67.cell? ⟨gb544,4,none⟩=some (.int .i64 0):=(blk_cell BK544.out 4).trans rfl
             have hfs72:=blk_frozen BK544.out 4
             have hns72_0:=NB522_544.out
             have hms72_0:=NB544_522.out
             refine skip_ (w1:=?_) (by rfl) rfl ?_ ?_
             rotate_left
             ·go_simp
              rfl
             have NEF0_:=Kd.own_blk (Kd.R_ne HO_6.out BK544.out (by decide))
             refine hK.out _ _ ⟨?_,?_,?_,?_,?_⟩ ?_
             ·exact ((Go.Proofs.Ytbdnmdmfnopihaa.Sem.far5 (g:=gb544) (by first|exact NEF0_|(rw [add_block];exact NEF0_))).trans (hHeld.1))
             ·exact ((Go.Proofs.Ytbdnmdmfnopihaa.Sem.far5 (g:=gb544) (by first|exact NEF0_|(rw [add_block];exact NEF0_))).trans (hHeld.2.1))
             ·exact ((Go.Proofs.Ytbdnmdmfnopihaa.Sem.far5 (g:=gb544) (by first|exact NEF0_|(rw [add_block];exact NEF0_))).trans (hHeld.2.2.1))
             ·exact ((Go.Proofs.Ytbdnmdmfnopihaa.Sem.far5 (g:=gb544) (by first|exact NEF0_|(rw [add_block];exact NEF0_))).trans (hHeld.2.2.2.1))
             ·exact ((Go.Proofs.Ytbdnmdmfnopihaa.Sem.far5 (g:=gb544) (by first|exact NEF0_|(rw [add_block];exact NEF0_))).trans (hHeld.2.2.2.2))
             intro hHeld
             clear hK K
             refine done_ (done_of HT_.out (by kernel_rfl)) ?_
             have hnb73:=NB544_522.out
             have hnc73:=NB522_544.out
             have hcz74_0:w67.cell? ⟨gb544,0,none⟩=some (.int .i64 0):=(blk_cell BK544.out 0).trans rfl
             have hcz74_1:w67.cell? ⟨gb544,1,none⟩=some (.int .i64 0):=(blk_cell BK544.out 1).trans rfl
             have hcz74_2:w67.cell? ⟨gb544,2,none⟩=some (.int .i64 0):=(blk_cell BK544.out 2).trans rfl
             have hcz74_3:w67.cell? ⟨gb544,3,none⟩=some (.bool false):=(blk_cell BK544.out 3).trans rfl
             have hcz74_4:w67.cell? ⟨gb544,4,none⟩=some (.int .i64 0):=(blk_cell BK544.out 4).trans rfl
             have hfz74_0:=blk_frozen BK544.out 0
             have hfz74_1:=blk_frozen BK544.out 1
             have hfz74_2:=blk_frozen BK544.out 2
             have hfz74_3:=blk_frozen BK544.out 3
             have hfz74_4:=blk_frozen BK544.out 4
             try go_wp2_with (first|((with_reducible refine gate_callee (f:=40) rfl ?_);refine goesL_ (some 73) rfl rfl Try.func40 (by kernel_rfl) rfl #[.agg #[.int .i64 (wrap64 (rd t532 1)),.int .i64 (wrap64 (rd t532 2)),.int .i64 (wrap64 (rd t532 4)),.bool ((rd t532 3) == 1),.int .i64 (wrap64 (rd t532 5))]] rfl (by (try simp only [List.map_toArray,List.map_cons,List.map_nil]);first|done|rfl|(simp only [List.length_drop,List.length_take];rfl)) ?_;(with_reducible refine (layout_EncodeSuper.calls kj8 (wrap64 (rd t532 1)) (wrap64 (rd t532 2)) (wrap64 (rd t532 4)) ((rd t532 3) == 1) (wrap64 (rd t532 5)) t545 t548 _ A34.out).mono ?_);rintro e w75 ⟨v546,rfl,ho0,hb⟩;refine ⟨_,rfl,?_⟩;have n0_:=Aside0.mk (Kd.R_below (by (with_reducible repeat (first|apply Kd.R_alloc|apply Kd.R_drewN|apply Kd.R_drew));exact (Kd.R_mono (Kd.R_far (p:=⟨gb544,4,none⟩) (Kd.R_far (p:=⟨gb544,3,none⟩) (Kd.R_far (p:=⟨gb544,2,none⟩) (Kd.R_far (p:=⟨gb544,1,none⟩) (Kd.R_far (p:=⟨gb544,0,none⟩) (Kd.R_types HO_6.out BK544.out (by decide)) (fun _ hk=>hk.2) (.int .i64 (wrap64 (rd t532 1)))) (fun _ hk=>hk.2) (.int .i64 (wrap64 (rd t532 2)))) (fun _ hk=>hk.2) (.int .i64 (wrap64 (rd t532 4)))) (fun _ hk=>hk.2) (.bool ((rd t532 3) == 1))) (fun _ hk=>hk.2) (.int .i64 (wrap64 (rd t532 5)))) (fun _ h_=>h_.1))) hb);have n1_:=Aside0.mk (Kd.R_lower ho0 (below_size (by repeat (first|(with_reducible first|exact HB.out|apply below_alloc|apply pw_below_drewN|apply below_drew1|refine below_set ?_ GE522.out|refine below_set ?_ GE544.out)|exact HB.out))));have n2_:=Aside0.mk (blk_below (g:=gb522) (o:=.cells #[.int .i64 0,.int .i64 0,.int .i64 0,.bool false,.int .i64 0] 63 (0,0)) (by (with_reducible repeat (first|refine blk_drewN ?_ _|refine blk_drew ?_|refine blk_alloc ?_ _));refine blk_far ?_ NB522_544.out _;(with_reducible repeat (first|refine blk_drewN ?_ _|refine blk_drew ?_|refine blk_alloc ?_ _));refine blk_far ?_ NB522_544.out _;(with_reducible repeat (first|refine blk_drewN ?_ _|refine blk_drew ?_|refine blk_alloc ?_ _));refine blk_far ?_ NB522_544.out _;(with_reducible repeat (first|refine blk_drewN ?_ _|refine blk_drew ?_|refine blk_alloc ?_ _));refine blk_far ?_ NB522_544.out _;(with_reducible repeat (first|refine blk_drewN ?_ _|refine blk_drew ?_|refine blk_alloc ?_ _));refine blk_far ?_ NB522_544.out _;(with_reducible repeat (first|refine blk_drewN ?_ _|refine blk_drew ?_|refine blk_alloc ?_ _));exact BK522.out) hb);have n3_:=Aside0.mk (blk_below (g:=gb544) (o:=.cells #[.int .i64 (wrap64 (rd t532 1)),.int .i64 (wrap64 (rd t532 2)),.int .i64 (wrap64 (rd t532 4)),.bool ((rd t532 3) == 1),.int .i64 (wrap64 (rd t532 5))] 63 (0,0)) (by (with_reducible repeat (first|refine blk_drewN ?_ _|refine blk_drew ?_|refine blk_alloc ?_ _));refine blk_put (cs:=#[.int .i64 (wrap64 (rd t532 1)),.int .i64 (wrap64 (rd t532 2)),.int .i64 (wrap64 (rd t532 4)),.bool ((rd t532 3) == 1),.int .i64 0]) ?_ 4 _ rfl;(with_reducible repeat (first|refine blk_drewN ?_ _|refine blk_drew ?_|refine blk_alloc ?_ _));refine blk_put (cs:=#[.int .i64 (wrap64 (rd t532 1)),.int .i64 (wrap64 (rd t532 2)),.int .i64 (wrap64 (rd t532 4)),.bool false,.int .i64 0]) ?_ 3 _ rfl;(with_reducible repeat (first|refine blk_drewN ?_ _|refine blk_drew ?_|refine blk_alloc ?_ _));refine blk_put (cs:=#[.int .i64 (wrap64 (rd t532 1)),.int .i64 (wrap64 (rd t532 2)),.int .i64 0,.bool false,.int .i64 0]) ?_ 2 _ rfl;(with_reducible repeat (first|refine blk_drewN ?_ _|refine blk_drew ?_|refine blk_alloc ?_ _));refine blk_put (cs:=#[.int .i64 (wrap64 (rd t532 1)),.int .i64 0,.int .i64 0,.bool false,.int .i64 0]) ?_ 1 _ rfl;(with_reducible repeat (first|refine blk_drewN ?_ _|refine blk_drew ?_|refine blk_alloc ?_ _));refine blk_put (cs:=#[.int .i64 0,.int .i64 0,.int .i64 0,.bool false,.int .i64 0]) ?_ 0 _ rfl;(with_reducible repeat (first|refine blk_drewN ?_ _|refine blk_drew ?_|refine blk_alloc ?_ _));exact BK544.out) hb);have n4_:=Aside0.mk (below_step (by repeat (first|(with_reducible first|exact HB.out|apply below_alloc|apply pw_below_drewN|apply below_drew1|refine below_set ?_ GE522.out|refine below_set ?_ GE544.out)|exact HB.out)) hb);clear HO_6 BK522 BK544 HB;have HO_6:=n0_;have HO547:=n1_;have BK522:=n2_;have BK544:=n3_;have HB:=n4_;clear n0_ n1_ n2_ n3_ n4_;(try clear hb);(try clear hb2);(try clear hk);(try clear hi);(try clear ho0);have hcz76_0:w75.cell? ⟨gb522,0,none⟩=some (.int .i64 0):=(blk_cell BK522.out 0).trans rfl;have hcz76_1:w75.cell? ⟨gb522,1,none⟩=some (.int .i64 0):=(blk_cell BK522.out 1).trans rfl;have hcz76_2:w75.cell? ⟨gb522,2,none⟩=some (.int .i64 0):=(blk_cell BK522.out 2).trans rfl;have hcz76_3:w75.cell? ⟨gb522,3,none⟩=some (.bool false):=(blk_cell BK522.out 3).trans rfl;have hcz76_4:w75.cell? ⟨gb522,4,none⟩=some (.int .i64 0):=(blk_cell BK522.out 4).trans rfl;have hfz76_0:=blk_frozen BK522.out 0;have hfz76_1:=blk_frozen BK522.out 1;have hfz76_2:=blk_frozen BK522.out 2;have hfz76_3:=blk_frozen BK522.out 3;have hfz76_4:=blk_frozen BK522.out 4))
             refine bodyPost_ret (results_ct rfl _ _ gb522 63 #[.int .i64 0,.int .i64 0,.int .i64 0,.bool false,.int .i64 0] (0,0) _ rfl (by (with_reducible repeat (first|refine blk_drewN ?_ _|refine blk_drew ?_|refine blk_alloc ?_ _));refine blk_put (cs:=#[.int .i64 0,.int .i64 0,.int .i64 0,.bool false,.int .i64 0]) ?_ 4 _ rfl;(with_reducible repeat (first|refine blk_drewN ?_ _|refine blk_drew ?_|refine blk_alloc ?_ _));refine blk_put (cs:=#[.int .i64 0,.int .i64 0,.int .i64 0,.bool false,.int .i64 0]) ?_ 3 _ rfl;(with_reducible repeat (first|refine blk_drewN ?_ _|refine blk_drew ?_|refine blk_alloc ?_ _));refine blk_put (cs:=#[.int .i64 0,.int .i64 0,.int .i64 0,.bool false,.int .i64 0]) ?_ 2 _ rfl;(with_reducible repeat (first|refine blk_drewN ?_ _|refine blk_drew ?_|refine blk_alloc ?_ _));refine blk_put (cs:=#[.int .i64 0,.int .i64 0,.int .i64 0,.bool false,.int .i64 0]) ?_ 1 _ rfl;(with_reducible repeat (first|refine blk_drewN ?_ _|refine blk_drew ?_|refine blk_alloc ?_ _));refine blk_put (cs:=#[.int .i64 0,.int .i64 0,.int .i64 0,.bool false,.int .i64 0]) ?_ 0 _ rfl;(with_reducible repeat (first|refine blk_drewN ?_ _|refine blk_drew ?_|refine blk_alloc ?_ _));exact BK522.out) Try.underlying63 rfl (by kernel_rfl)) rfl ?_
             exact ⟨by first|rfl|(simp [errW_none,errW_some] <;> rfl)|(simp [*,errW_none,errW_some] <;> rfl),by repeat (first|(with_reducible first|exact HB.out|apply below_alloc|apply pw_below_drewN|apply below_drew1|refine below_set ?_ GE522.out|refine below_set ?_ GE544.out)|exact HB.out)⟩
           ·rw [if_neg c33] at H
            exact absurd H (by simp)
          ·rw [if_neg c32] at H
           exact absurd H (by simp)
         ·rw [if_neg c31] at H
          exact absurd H (by simp)
        ·rw [if_neg c30] at H
         exact absurd H (by simp)
       ·rw [if_neg c29] at H
        exact absurd H (by simp)
   ·rw [if_neg c7] at H
    exact absurd H (by simp)
  ·rw [if_neg c6] at H
   exact absurd H (by simp)
 ·rw [if_neg c4] at H
  have c4b0:((l0.length:Int) == 256)=false:=beq_eq_false_iff_ne.mpr c4
  have c4b1:((l0.length:Int) != 256)=true:=bne_iff_ne.mpr c4
  simp only [Option.some.injEq,Prod.mk.injEq] at H
  obtain ⟨rfl,rfl,rfl,rfl,rfl,rfl⟩:=H
  go_enter Try.func42,Try.ntmps42
  go_wp2_with (first|((with_reducible refine gate_dst (N:=2) rfl ?_);refine box_event ?hg (N:=2) ?hd (cs:=#[.int .i64 0,.int .i64 0,.int .i64 0,.bool false,.int .i64 0]) (t:=63) ?hr ?_;(case hd=>rfl);(case hg=>rfl);(case hr=>first|(go_simp;done)|(go_simp;rfl));intro gb522 hg w77 hbox hb;have n0_:=Aside0.mk (below_step (by repeat (first|(with_reducible first|exact HB.out|apply below_alloc|apply pw_below_drewN|apply below_drew1)|exact HB.out)) hb);have n1_:=Aside0.mk (hbox);have n2_:=Aside0.mk ((by rw [hg];exact (below_size (by repeat (first|(with_reducible first|exact HB.out|apply below_alloc|apply pw_below_drewN|apply below_drew1)|exact HB.out))):w.heap.size≤gb522));have n3_:=Aside0.mk ((by rw [hg];exact (below_size (by repeat (first|(with_reducible first|exact HB.out|apply below_alloc|apply pw_below_drewN|apply below_drew1)|exact HB.out))):w.heap.size≤gb522));clear HB;have HB:=n0_;have BK522:=n1_;have GW522:=n2_;have GE522:=n3_;clear n0_ n1_ n2_ n3_;clear hb hbox hg)|((with_reducible refine gate_callee (f:=54) rfl ?_);refine goesL_ (some 12) rfl rfl Try.func54 (by kernel_rfl) rfl #[] rfl (by (try simp only [List.map_toArray,List.map_cons,List.map_nil]);first|done|rfl|(simp only [List.length_drop,List.length_take];rfl)) ?_;(with_reducible refine (layout_superWidths.calls  t523 _ A2.out).mono ?_);rintro e w78 ⟨v524,rfl,ho0,hb⟩;refine ⟨_,rfl,?_⟩;have n0_:=Aside0.mk (Kd.R_lower ho0 (below_size (by repeat (first|(with_reducible first|exact HB.out|apply below_alloc|apply pw_below_drewN|apply below_drew1|refine below_set ?_ GE522.out)|exact HB.out))));have n1_:=Aside0.mk (blk_below (g:=gb522) (o:=.cells #[.int .i64 0,.int .i64 0,.int .i64 0,.bool false,.int .i64 0] 63 (0,0)) (by (with_reducible repeat (first|refine blk_drewN ?_ _|refine blk_drew ?_|refine blk_alloc ?_ _));exact BK522.out) hb);have n2_:=Aside0.mk (below_step (by repeat (first|(with_reducible first|exact HB.out|apply below_alloc|apply pw_below_drewN|apply below_drew1|refine below_set ?_ GE522.out)|exact HB.out)) hb);clear BK522 HB;have HO525:=n0_;have BK522:=n1_;have HB:=n2_;clear n0_ n1_ n2_;(try clear hb);(try clear hb2);(try clear hk);(try clear hi);(try clear ho0);obtain ⟨Ao79,co79,eo79⟩:=Kd.R_slice HO525.out;subst eo79)|((with_reducible refine gate_callee (f:=58) rfl ?_);refine goesL_ (some 13) rfl rfl Try.func58 (by kernel_rfl) rfl #[.slice Ao79 t523.length co79] rfl (by (try simp only [List.map_toArray,List.map_cons,List.map_nil]);first|done|rfl|(simp only [List.length_drop,List.length_take];rfl)) ?_;(with_reducible refine (seal_Width.calls k _ _ t523 t526 t527 _ ?side1 ?side2 A3.out).mono ?_);(case side1=>repeat (first|exact (Kd.R_reads' HO525.out).2.2|(with_reducible refine Kd.C_alloc ?_ _)|(with_reducible refine Kd.C_drewN ?_ _)|(with_reducible refine Kd.C_drew ?_)));(case side2=>exact (Kd.R_reads' HO525.out).2.1);rintro e w' ⟨rfl,⟨nd,rfl⟩⟩;refine ⟨_,rfl,?_⟩;(try (rw [drewN_self w78];generalize hq_:World.drewN w78 _=w78;have n0_:Aside0 (Kd.R (Kd.int .i64) 3 w78 w.heap.size (fun _=>True) (.slice Ao79 t523.length co79) t523):=⟨by rw [← hq_];exact (by (with_reducible repeat (first|apply Kd.R_alloc|apply Kd.R_drewN|apply Kd.R_drew));exact HO525.out)⟩;have n1_:Aside0 (w78.heap[gb522]?=some (.cells #[.int .i64 0,.int .i64 0,.int .i64 0,.bool false,.int .i64 0] 63 (0,0))):=⟨by rw [← hq_];exact (by (with_reducible repeat (first|refine blk_drewN ?_ _|refine blk_drew ?_|refine blk_alloc ?_ _));exact BK522.out)⟩;have n2_:Aside0 (Below w.heap.size w w78):=⟨by rw [← hq_];exact (by repeat (first|(with_reducible first|exact HB.out|apply below_alloc|apply pw_below_drewN|apply below_drew1|refine below_set ?_ GE522.out)|exact HB.out))⟩;clear HO525 BK522 HB hq_;have HO525:=n0_;have BK522:=n1_;have HB:=n2_;clear n0_ n1_ n2_));have hcz80_0:w78.cell? ⟨gb522,0,none⟩=some (.int .i64 0):=(blk_cell BK522.out 0).trans rfl;have hcz80_1:w78.cell? ⟨gb522,1,none⟩=some (.int .i64 0):=(blk_cell BK522.out 1).trans rfl;have hcz80_2:w78.cell? ⟨gb522,2,none⟩=some (.int .i64 0):=(blk_cell BK522.out 2).trans rfl;have hcz80_3:w78.cell? ⟨gb522,3,none⟩=some (.bool false):=(blk_cell BK522.out 3).trans rfl;have hcz80_4:w78.cell? ⟨gb522,4,none⟩=some (.int .i64 0):=(blk_cell BK522.out 4).trans rfl;have hfz80_0:=blk_frozen BK522.out 0;have hfz80_1:=blk_frozen BK522.out 1;have hfz80_2:=blk_frozen BK522.out 2;have hfz80_3:=blk_frozen BK522.out 3;have hfz80_4:=blk_frozen BK522.out 4))
  refine bodyPost_ret (results_ct rfl _ _ gb522 63 #[.int .i64 0,.int .i64 0,.int .i64 0,.bool false,.int .i64 0] (0,0) _ rfl (by (with_reducible repeat (first|refine blk_drewN ?_ _|refine blk_drew ?_|refine blk_alloc ?_ _));refine blk_put (cs:=#[.int .i64 0,.int .i64 0,.int .i64 0,.bool false,.int .i64 0]) ?_ 4 _ rfl;(with_reducible repeat (first|refine blk_drewN ?_ _|refine blk_drew ?_|refine blk_alloc ?_ _));refine blk_put (cs:=#[.int .i64 0,.int .i64 0,.int .i64 0,.bool false,.int .i64 0]) ?_ 3 _ rfl;(with_reducible repeat (first|refine blk_drewN ?_ _|refine blk_drew ?_|refine blk_alloc ?_ _));refine blk_put (cs:=#[.int .i64 0,.int .i64 0,.int .i64 0,.bool false,.int .i64 0]) ?_ 2 _ rfl;(with_reducible repeat (first|refine blk_drewN ?_ _|refine blk_drew ?_|refine blk_alloc ?_ _));refine blk_put (cs:=#[.int .i64 0,.int .i64 0,.int .i64 0,.bool false,.int .i64 0]) ?_ 1 _ rfl;(with_reducible repeat (first|refine blk_drewN ?_ _|refine blk_drew ?_|refine blk_alloc ?_ _));refine blk_put (cs:=#[.int .i64 0,.int .i64 0,.int .i64 0,.bool false,.int .i64 0]) ?_ 0 _ rfl;(with_reducible repeat (first|refine blk_drewN ?_ _|refine blk_drew ?_|refine blk_alloc ?_ _));exact BK522.out) Try.underlying63 rfl (by kernel_rfl)) rfl ?_
  exact ⟨by first|rfl|(simp [errW_none,errW_some] <;> rfl)|(simp [*,errW_none,errW_some] <;> rfl),by repeat (first|(with_reducible first|exact HB.out|apply below_alloc|apply pw_below_drewN|apply below_drew1|refine below_set ?_ GE522.out)|exact HB.out)⟩
end Go.Proofs.Ytbdnmdmfnopihaa.Print
end
section
namespace Go.Proofs.Ytbdnmdmfnopihaa.Print
open Go.RowKit Go.Proofs.YtbdnmdmfnopihaaW.PrintWords Go.Proofs.YtbdnmdmfnopihaaW.PrintLast Go.Proofs.YtbdnmdmfnopihaaW.PrintMore
attribute [local go_sem] max2_int min2_int max_two min_two max_three min_three max_four min_four   -- for this text's walks alone
attribute [local go_sem ↓] Go.Proofs.Ytbdnmdmfnopihaa.Sem.isSome_setCell
attribute [local go_sem] Go.Instr.field Go.asAgg
set_option linter.unusedVariables false
set_option linter.unusedSimpArgs false
def slipwayref01_ones.l0:Nat → List Int → Int → Option (Bool)
 | 0,_,_=>none
 | k + 1,x0,x3=>if x3 < (x0.length:Int) then (if 0≤x3 then (if (rd x0 x3)=255 then (slipwayref01_ones.l0 k x0 (wrap64 (x3 + 1))) else (some false)) else (none)) else (some true)
def slipwayref01_ones.f (k:Nat) (l0:List Int):Option (Bool):=slipwayref01_ones.l0 k l0 0
set_option maxHeartbeats 8000000 in
set_option maxRecDepth 100000 in
theorem slipwayref01_ones.calls (k:Nat) (A0:Option Addr) (c0:Nat) (l0:List Int) (r:Bool) (w:World) (hr0:Kd.C (Kd.int .u8) w A0 l0.length l0) (hc0:l0.length≤c0) (h:slipwayref01_ones.f k l0=some r) :
  Calls Try.prog 71 #[.slice A0 l0.length c0] w fun e w'=>e=.returned (.bool r)∧Drawn0 w w':=by
 have HR0:=Aside0.mk hr0
 have HC0:=Aside0.mk hc0
 clear hr0 hc0
 have H:(slipwayref01_ones.l0 k l0 0)=some r:=h
 clear h
 have H':=Aside0.mk H
 clear H
 go_enter Try.func71,Try.ntmps71
 go_wp2
 go_loopg [3] k (fun kq v3 w'=>∃ (x3_1:Int),v3=.int .i64 x3_1∧Aside0 (slipwayref01_ones.l0 kq l0 x3_1=some r)∧Aside0 (kq≤k)∧Drawn0 w w')
 case atStart=>exact ⟨(0),(by first|rfl|(simp;done)|(simp [*];done)),H',⟨Nat.le_refl _⟩,by repeat (first|exact Drawn0.refl _|apply Drawn0.step)⟩
 case round =>
  clear H'
  obtain ⟨x3_1,rfl,HA,HK1,⟨m1,rfl⟩⟩:=hrel
  cases gk with
  | zero=>exact absurd HA.out (by simp [slipwayref01_ones.l0])
  | succ k1 =>
   have H:=HA.out
   clear HA
   simp only [slipwayref01_ones.l0] at H
   by_cases c2:x3_1 < (l0.length:Int)
   ·rw [if_pos c2] at H
    have c2b0:decide (x3_1 < (l0.length:Int))=true:=decide_eq_true c2
    clear c2
    by_cases c3:0≤x3_1
    ·rw [if_pos c3] at H
     have c3b0:decide (0≤x3_1)=true:=decide_eq_true c3
     clear c3
     by_cases c4:(rd l0 x3_1)=255
     ·rw [if_pos c4] at H
      have c4b0:((rd l0 x3_1) == 255)=true:=beq_iff_eq.mpr c4
      have c4b1:((rd l0 x3_1) != 255)=false:=bne_eq_false_iff_eq.mpr c4
      clear c4
      have H':=Aside0.mk H
      clear H
      have p550:0≤(x3_1:Int):=of_decide_eq_true (by first|(with_reducible assumption)|assumption)
      have q550:x3_1 < (l0.length:Int):=of_decide_eq_true (by first|(with_reducible assumption)|assumption)
      obtain ⟨ad550,e550,hx550_0⟩:=Kd.at_int HR0.out x3_1 p550 q550
      cases e550
      replace p550:=eq_true p550
      replace q550:=eq_true q550
      go_wp2
      go_roundg k1
      case measure=>have:=HK1.out;omega
      case rel=>exact ⟨(wrap64 (x3_1 + 1)),(by first|rfl|(simp;done)|(simp [*];done)),H',⟨by have:=HK1.out;omega⟩,by repeat (first|exact Drawn0.refl _|apply Drawn0.step)⟩
     ·rw [if_neg c4] at H
      have c4b0:((rd l0 x3_1) == 255)=false:=beq_eq_false_iff_ne.mpr c4
      have c4b1:((rd l0 x3_1) != 255)=true:=bne_iff_ne.mpr c4
      obtain rfl:=Option.some.inj H
      have p550:0≤(x3_1:Int):=of_decide_eq_true (by first|(with_reducible assumption)|assumption)
      have q550:x3_1 < (l0.length:Int):=of_decide_eq_true (by first|(with_reducible assumption)|assumption)
      obtain ⟨ad550,e550,hx550_0⟩:=Kd.at_int HR0.out x3_1 p550 q550
      cases e550
      replace p550:=eq_true p550
      replace q550:=eq_true q550
      go_wp2
      go_ret
      exact ⟨by first|rfl|(simp;done)|(simp [*];done),by repeat (first|exact Drawn0.refl _|apply Drawn0.step)⟩
    ·rw [if_neg c3] at H
     exact absurd H (by simp)
   ·rw [if_neg c2] at H
    have c2b0:decide (x3_1 < (l0.length:Int))=false:=decide_eq_false c2
    clear c2
    obtain rfl:=Option.some.inj H
    go_wp2
    go_ret
    exact ⟨by first|rfl|(simp;done)|(simp [*];done),by repeat (first|exact Drawn0.refl _|apply Drawn0.step)⟩
end Go.Proofs.Ytbdnmdmfnopihaa.Print
end
section
namespace Go.Proofs.Ytbdnmdmfnopihaa.Print
open Go.RowKit Go.Proofs.YtbdnmdmfnopihaaW.PrintWords Go.Proofs.YtbdnmdmfnopihaaW.PrintLast Go.Proofs.YtbdnmdmfnopihaaW.PrintMore
attribute [local go_sem] max2_int min2_int max_two min_two max_three min_three max_four min_four   -- for this text's walks alone
attribute [local go_sem ↓] Go.Proofs.Ytbdnmdmfnopihaa.Sem.isSome_setCell
attribute [local go_sem] Go.Instr.field Go.asAgg
set_option linter.unusedVariables false
set_option linter.unusedSimpArgs false
mutual
def slipwayref01_State.j0:Nat → List Int → Bool → Option (Int)
 | 0,_,_=>none
 | k + 1,x0,x11=>if x11=true then (some 10) else (if (x0.length:Int) < 4 then (slipwayref01_State.j1 k x0 true) else (slipwayref01_State.j1 k x0 (decide ((x0.length:Int) > 1048580))))
def slipwayref01_State.j1:Nat → List Int → Bool → Option (Int)
 | 0,_,_=>none
 | k + 1,x0,x19=>if x19=true then (some 11) else (if 0≤(wrap64 ((x0.length:Int) - 4)) then (if (wrap64 ((x0.length:Int) - 4)) < (x0.length:Int) then (if 0≤(wrap64 ((wrap64 ((x0.length:Int) - 4)) + 1)) then (if (wrap64 ((wrap64 ((x0.length:Int) - 4)) + 1)) < (x0.length:Int) then (if 0≤(wrap64 ((wrap64 ((x0.length:Int) - 4)) + 2)) then (if (wrap64 ((wrap64 ((x0.length:Int) - 4)) + 2)) < (x0.length:Int) then (if 0≤(wrap64 ((wrap64 ((x0.length:Int) - 4)) + 3)) then (if (wrap64 ((wrap64 ((x0.length:Int) - 4)) + 3)) < (x0.length:Int) then (if (wrap64 ((x0.length:Int) - 4))≤(x0.length:Int) then ((slipwayref01_Zeros.f k (x0.take ((wrap64 ((x0.length:Int) - 4)):Int).toNat)).bind fun t557=>(if (Go.bits .or .i64 (Go.bits .or .i64 (Go.bits .or .i64 (wrap64 ((wrap64 (rd x0 (wrap64 ((x0.length:Int) - 4)))) * 16777216)) (wrap64 ((wrap64 (rd x0 (wrap64 ((wrap64 ((x0.length:Int) - 4)) + 1)))) * 65536))) (wrap64 ((wrap64 (rd x0 (wrap64 ((wrap64 ((x0.length:Int) - 4)) + 2)))) * 256))) (wrap64 (rd x0 (wrap64 ((wrap64 ((x0.length:Int) - 4)) + 3)))))=t557 then (some 0) else (some 11))) else (none)) else (none)) else (none)) else (none)) else (none)) else (none)) else (none)) else (none)) else (none))
end
def slipwayref01_State.f (k:Nat) (l0:List Int):Option (Int):=if (l0.length:Int) > 0 then ((slipwayref01_ones.f k l0).bind fun t551=>(slipwayref01_State.j0 k l0 t551)) else (slipwayref01_State.j0 k l0 false)
set_option maxHeartbeats 8000000 in
set_option maxRecDepth 100000 in
theorem slipwayref01_State.calls (k:Nat) (A0:Option Addr) (c0:Nat) (l0:List Int) (r:Int) (w:World) (hr0:Kd.C (Kd.int .u8) w A0 l0.length l0) (hc0:l0.length≤c0) (h:slipwayref01_State.f k l0=some r) :
  Calls Try.prog 68 #[.slice A0 l0.length c0] w fun e w'=>e=.returned (.int .i64 r)∧Drawn0 w w':=by
 have HR0:=Aside0.mk hr0
 have HC0:=Aside0.mk hc0
 clear hr0 hc0
 have H:(if (l0.length:Int) > 0 then ((slipwayref01_ones.f k l0).bind fun t551=>(slipwayref01_State.j0 k l0 t551)) else (slipwayref01_State.j0 k l0 false))=some r:=h
 clear h
 have HC2:=Aside0.mk H
 clear H
 go_enter Try.func68,Try.ntmps68
 go_upto_region 1 with (fail)
 repeat (go_quiet (fail);go_upto_region 1 with (fail))
 go_cut [11] (fun v11 wc=>∃ (kq:Nat) (x11_1:Bool),v11=.bool x11_1∧Aside0 (slipwayref01_State.j0 kq l0 x11_1=some r)∧Aside0 (kq≤k)∧Drawn0 w wc)
 case first =>
  have H:=HC2.out
  clear HC2
  by_cases c3:(l0.length:Int) > 0
  ·rw [if_pos c3] at H
   have c3b0:decide (0 < (l0.length:Int))=true:=decide_eq_true c3
   have c3b1:decide (0 < l0.length)=true:=decide_eq_true (by omega)
   clear c3
   (first|rw [c3b0]|(simp only [i64_w,i32_w];rw [c3b0])|skip)
   replace H:=Option.bind_eq_some_iff.mp H
   obtain ⟨t551,A40,H⟩:=H
   replace H:(slipwayref01_State.j0 k l0 t551)=some r:=H
   have A4:=Aside0.mk A40
   clear A40
   have H':=Aside0.mk H
   clear H
   go_wp2_with (first|(go_at_call 71;(with_reducible refine (slipwayref01_ones.calls k _ _ l0 t551 _ ?side1 ?side2 A4.out).mono ?_);(case side1=>repeat (first|exact HR0.out|(with_reducible refine Kd.C_alloc ?_ _)|(with_reducible refine Kd.C_drewN ?_ _)|(with_reducible refine Kd.C_drew ?_)));(case side2=>exact HC0.out);rintro e w' ⟨rfl,⟨nd,rfl⟩⟩;(try first|exact ⟨rfl,_,World.drewN_drewN _ _ _⟩|exact ⟨rfl,_,Eq.trans (World.drewN_drewN _ _ _) (congrArg (World.drewN _) (Nat.add_assoc _ _ _))⟩)))
   repeat (go_quiet (first|(go_at_call 71;(with_reducible refine (slipwayref01_ones.calls k _ _ l0 t551 _ ?side1 ?side2 A4.out).mono ?_);(case side1=>repeat (first|exact HR0.out|(with_reducible refine Kd.C_alloc ?_ _)|(with_reducible refine Kd.C_drewN ?_ _)|(with_reducible refine Kd.C_drew ?_)));(case side2=>exact HC0.out);rintro e w' ⟨rfl,⟨nd,rfl⟩⟩;(try first|exact ⟨rfl,_,World.drewN_drewN _ _ _⟩|exact ⟨rfl,_,Eq.trans (World.drewN_drewN _ _ _) (congrArg (World.drewN _) (Nat.add_assoc _ _ _))⟩)));try go_wp2_with (first|(go_at_call 71;(with_reducible refine (slipwayref01_ones.calls k _ _ l0 t551 _ ?side1 ?side2 A4.out).mono ?_);(case side1=>repeat (first|exact HR0.out|(with_reducible refine Kd.C_alloc ?_ _)|(with_reducible refine Kd.C_drewN ?_ _)|(with_reducible refine Kd.C_drew ?_)));(case side2=>exact HC0.out);rintro e w' ⟨rfl,⟨nd,rfl⟩⟩;(try first|exact ⟨rfl,_,World.drewN_drewN _ _ _⟩|exact ⟨rfl,_,Eq.trans (World.drewN_drewN _ _ _) (congrArg (World.drewN _) (Nat.add_assoc _ _ _))⟩))))
   go_meet
   case rel=>exact ⟨_,(t551),(by first|rfl|(simp;done)|(simp [*];done)),H',⟨by first|omega|exact Nat.le_refl _⟩,by repeat (first|exact Drawn0.refl _|apply Drawn0.step)⟩
  ·rw [if_neg c3] at H
   have c3b0:decide (0 < (l0.length:Int))=false:=decide_eq_false c3
   have c3b1:decide (0 < l0.length)=false:=decide_eq_false (by omega)
   clear c3
   (first|rw [c3b0]|(simp only [i64_w,i32_w];rw [c3b0])|skip)
   have H':=Aside0.mk H
   clear H
   go_wp2
   repeat (go_quiet (fail);try go_wp2)
   go_meet
   case rel=>exact ⟨_,(false),(by first|rfl|(simp;done)|(simp [*];done)),H',⟨by first|omega|exact Nat.le_refl _⟩,by repeat (first|exact Drawn0.refl _|apply Drawn0.step)⟩
 case rest =>
  clear HC2
  try clear p2
  try clear c3
  try clear c3b0
  try clear c3b1
  obtain ⟨kq,x11_1,rfl,HA,HJ1,⟨mc1,rfl⟩⟩:=hcut
  cases kq with
  | zero=>exact absurd HA.out (by simp [slipwayref01_State.j0])
  | succ kj1 =>
   have H:=HA.out
   clear HA
   simp only [slipwayref01_State.j0] at H
   by_cases c5:x11_1=true
   ·subst c5
    have H1:(some 10)=some r:=by rw [if_pos rfl] at H;exact H
    clear H
    have H:=H1
    clear H1
    obtain rfl:=Option.some.inj H
    go_wp2
    repeat (go_quiet (fail);try go_wp2)
    go_ret
    exact ⟨by first|rfl|(simp;done)|(simp [*];done),by repeat (first|exact Drawn0.refl _|apply Drawn0.step)⟩
   ·replace c5:=Bool.eq_false_iff.mpr c5
    subst c5
    have H1:(if (l0.length:Int) < 4 then (slipwayref01_State.j1 kj1 l0 true) else (slipwayref01_State.j1 kj1 l0 (decide ((l0.length:Int) > 1048580))))=some r:=by rw [if_neg (show ¬ (false=true) by decide)] at H;exact H
    clear H
    have H:=H1
    clear H1
    have HC6:=Aside0.mk H
    clear H
    go_upto_region 3 with (fail)
    repeat (go_quiet (fail);go_upto_region 3 with (fail))
    go_cut [19] (fun v19 wc=>∃ (kq:Nat) (x19_5:Bool),v19=.bool x19_5∧Aside0 (slipwayref01_State.j1 kq l0 x19_5=some r)∧Aside0 (kq≤kj1)∧Drawn0 w wc)
    case first =>
     have H:=HC6.out
     clear HC6
     by_cases c7:(l0.length:Int) < 4
     ·rw [if_pos c7] at H
      have c7b0:decide ((l0.length:Int) < 4)=true:=decide_eq_true c7
      have c7b1:decide (l0.length < 4)=true:=decide_eq_true (by omega)
      clear c7
      (first|rw [c7b0]|(simp only [i64_w,i32_w];rw [c7b0])|skip)
      have H':=Aside0.mk H
      clear H
      go_wp2
      repeat (go_quiet (fail);try go_wp2)
      go_meet
      case rel=>exact ⟨_,(true),(by first|rfl|(simp;done)|(simp [*];done)),H',⟨by have:=HJ1.out;first|omega|exact Nat.le_refl _⟩,by repeat (first|exact Drawn0.refl _|apply Drawn0.step)⟩
     ·rw [if_neg c7] at H
      have c7b0:decide ((l0.length:Int) < 4)=false:=decide_eq_false c7
      have c7b1:decide (l0.length < 4)=false:=decide_eq_false (by omega)
      clear c7
      (first|rw [c7b0]|(simp only [i64_w,i32_w];rw [c7b0])|skip)
      have H':=Aside0.mk H
      clear H
      go_wp2
      repeat (go_quiet (fail);try go_wp2)
      go_meet
      case rel=>exact ⟨_,(decide ((l0.length:Int) > 1048580)),(by first|rfl|(simp;done)|(simp [*];done)),H',⟨by have:=HJ1.out;first|omega|exact Nat.le_refl _⟩,by repeat (first|exact Drawn0.refl _|apply Drawn0.step)⟩
    case rest =>
     clear HC6
     try clear c1
     try clear p2
     try clear c3
     try clear c3b0
     try clear c3b1
     try clear c5
     try clear c6
     try clear c7
     try clear c7b0
     try clear c7b1
     try clear p2
     obtain ⟨kq,x19_5,rfl,HA,HJ5,⟨mc5,rfl⟩⟩:=hcut
     cases kq with
     | zero=>exact absurd HA.out (by simp [slipwayref01_State.j1])
     | succ kj5 =>
      have H:=HA.out
      clear HA
      simp only [slipwayref01_State.j1] at H
      by_cases c8:x19_5=true
      ·subst c8
       have H1:(some 11)=some r:=by rw [if_pos rfl] at H;exact H
       clear H
       have H:=H1
       clear H1
       obtain rfl:=Option.some.inj H
       go_wp2
       repeat (go_quiet (fail);try go_wp2)
       go_ret
       exact ⟨by first|rfl|(simp;done)|(simp [*];done),by repeat (first|exact Drawn0.refl _|apply Drawn0.step)⟩
      ·replace c8:=Bool.eq_false_iff.mpr c8
       subst c8
       have H1:(if 0≤(wrap64 ((l0.length:Int) - 4)) then (if (wrap64 ((l0.length:Int) - 4)) < (l0.length:Int) then (if 0≤(wrap64 ((wrap64 ((l0.length:Int) - 4)) + 1)) then (if (wrap64 ((wrap64 ((l0.length:Int) - 4)) + 1)) < (l0.length:Int) then (if 0≤(wrap64 ((wrap64 ((l0.length:Int) - 4)) + 2)) then (if (wrap64 ((wrap64 ((l0.length:Int) - 4)) + 2)) < (l0.length:Int) then (if 0≤(wrap64 ((wrap64 ((l0.length:Int) - 4)) + 3)) then (if (wrap64 ((wrap64 ((l0.length:Int) - 4)) + 3)) < (l0.length:Int) then (if (wrap64 ((l0.length:Int) - 4))≤(l0.length:Int) then ((slipwayref01_Zeros.f kj5 (l0.take ((wrap64 ((l0.length:Int) - 4)):Int).toNat)).bind fun t557=>(if (Go.bits .or .i64 (Go.bits .or .i64 (Go.bits .or .i64 (wrap64 ((wrap64 (rd l0 (wrap64 ((l0.length:Int) - 4)))) * 16777216)) (wrap64 ((wrap64 (rd l0 (wrap64 ((wrap64 ((l0.length:Int) - 4)) + 1)))) * 65536))) (wrap64 ((wrap64 (rd l0 (wrap64 ((wrap64 ((l0.length:Int) - 4)) + 2)))) * 256))) (wrap64 (rd l0 (wrap64 ((wrap64 ((l0.length:Int) - 4)) + 3)))))=t557 then (some 0) else (some 11))) else (none)) else (none)) else (none)) else (none)) else (none)) else (none)) else (none)) else (none)) else (none))=some r:=by rw [if_neg (show ¬ (false=true) by decide)] at H;exact H
       clear H
       have H:=H1
       clear H1
       obtain ⟨ji9,hji9⟩:∃ j_:Int,(wrap64 ((l0.length:Int) - 4))=j_:=⟨_,rfl⟩
       replace H:(if 0≤(ji9) then (if (ji9) < (l0.length:Int) then (if 0≤(wrap64 ((ji9) + 1)) then (if (wrap64 ((ji9) + 1)) < (l0.length:Int) then (if 0≤(wrap64 ((ji9) + 2)) then (if (wrap64 ((ji9) + 2)) < (l0.length:Int) then (if 0≤(wrap64 ((ji9) + 3)) then (if (wrap64 ((ji9) + 3)) < (l0.length:Int) then (if (ji9)≤(l0.length:Int) then ((slipwayref01_Zeros.f kj5 (l0.take ((ji9):Int).toNat)).bind fun t557=>(if (Go.bits .or .i64 (Go.bits .or .i64 (Go.bits .or .i64 (wrap64 ((wrap64 (rd l0 (ji9))) * 16777216)) (wrap64 ((wrap64 (rd l0 (wrap64 ((ji9) + 1)))) * 65536))) (wrap64 ((wrap64 (rd l0 (wrap64 ((ji9) + 2)))) * 256))) (wrap64 (rd l0 (wrap64 ((ji9) + 3)))))=t557 then (some 0) else (some 11))) else (none)) else (none)) else (none)) else (none)) else (none)) else (none)) else (none)) else (none)) else (none))=some r:=by first|(rw [hji9] at H;exact H)|(simp only [hji9] at H ⊢;exact H)
       have hji9w:(IntKind.i64.wrap ((l0.length:Int) - 4))=ji9:=(i64_w _).trans hji9
       by_cases c10:0≤(ji9)
       ·rw [if_pos c10] at H
        have c10b0:decide (0≤(ji9))=true:=decide_eq_true c10
        clear c10
        by_cases c11:(ji9) < (l0.length:Int)
        ·rw [if_pos c11] at H
         have c11b0:decide ((ji9) < (l0.length:Int))=true:=decide_eq_true c11
         clear c11
         obtain ⟨ji12,hji12⟩:∃ j_:Int,(wrap64 ((ji9) + 1))=j_:=⟨_,rfl⟩
         replace H:(if 0≤(ji12) then (if (ji12) < (l0.length:Int) then (if 0≤(wrap64 ((ji9) + 2)) then (if (wrap64 ((ji9) + 2)) < (l0.length:Int) then (if 0≤(wrap64 ((ji9) + 3)) then (if (wrap64 ((ji9) + 3)) < (l0.length:Int) then (if (ji9)≤(l0.length:Int) then ((slipwayref01_Zeros.f kj5 (l0.take ((ji9):Int).toNat)).bind fun t557=>(if (Go.bits .or .i64 (Go.bits .or .i64 (Go.bits .or .i64 (wrap64 ((wrap64 (rd l0 (ji9))) * 16777216)) (wrap64 ((wrap64 (rd l0 (ji12))) * 65536))) (wrap64 ((wrap64 (rd l0 (wrap64 ((ji9) + 2)))) * 256))) (wrap64 (rd l0 (wrap64 ((ji9) + 3)))))=t557 then (some 0) else (some 11))) else (none)) else (none)) else (none)) else (none)) else (none)) else (none)) else (none))=some r:=by first|(rw [hji12] at H;exact H)|(simp only [hji12] at H ⊢;exact H)
         have hji12w:(IntKind.i64.wrap ((ji9) + 1))=ji12:=(i64_w _).trans hji12
         by_cases c13:0≤(ji12)
         ·rw [if_pos c13] at H
          have c13b0:decide (0≤(ji12))=true:=decide_eq_true c13
          clear c13
          by_cases c14:(ji12) < (l0.length:Int)
          ·rw [if_pos c14] at H
           have c14b0:decide ((ji12) < (l0.length:Int))=true:=decide_eq_true c14
           clear c14
           obtain ⟨ji15,hji15⟩:∃ j_:Int,(wrap64 ((ji9) + 2))=j_:=⟨_,rfl⟩
           replace H:(if 0≤(ji15) then (if (ji15) < (l0.length:Int) then (if 0≤(wrap64 ((ji9) + 3)) then (if (wrap64 ((ji9) + 3)) < (l0.length:Int) then (if (ji9)≤(l0.length:Int) then ((slipwayref01_Zeros.f kj5 (l0.take ((ji9):Int).toNat)).bind fun t557=>(if (Go.bits .or .i64 (Go.bits .or .i64 (Go.bits .or .i64 (wrap64 ((wrap64 (rd l0 (ji9))) * 16777216)) (wrap64 ((wrap64 (rd l0 (ji12))) * 65536))) (wrap64 ((wrap64 (rd l0 (ji15))) * 256))) (wrap64 (rd l0 (wrap64 ((ji9) + 3)))))=t557 then (some 0) else (some 11))) else (none)) else (none)) else (none)) else (none)) else (none))=some r:=by first|(rw [hji15] at H;exact H)|(simp only [hji15] at H ⊢;exact H)
           have hji15w:(IntKind.i64.wrap ((ji9) + 2))=ji15:=(i64_w _).trans hji15
           by_cases c16:0≤(ji15)
           ·rw [if_pos c16] at H
            have c16b0:decide (0≤(ji15))=true:=decide_eq_true c16
            clear c16
            by_cases c17:(ji15) < (l0.length:Int)
            ·rw [if_pos c17] at H
             have c17b0:decide ((ji15) < (l0.length:Int))=true:=decide_eq_true c17
             clear c17
             obtain ⟨ji18,hji18⟩:∃ j_:Int,(wrap64 ((ji9) + 3))=j_:=⟨_,rfl⟩
             replace H:(if 0≤(ji18) then (if (ji18) < (l0.length:Int) then (if (ji9)≤(l0.length:Int) then ((slipwayref01_Zeros.f kj5 (l0.take ((ji9):Int).toNat)).bind fun t557=>(if (Go.bits .or .i64 (Go.bits .or .i64 (Go.bits .or .i64 (wrap64 ((wrap64 (rd l0 (ji9))) * 16777216)) (wrap64 ((wrap64 (rd l0 (ji12))) * 65536))) (wrap64 ((wrap64 (rd l0 (ji15))) * 256))) (wrap64 (rd l0 (ji18))))=t557 then (some 0) else (some 11))) else (none)) else (none)) else (none))=some r:=by first|(rw [hji18] at H;exact H)|(simp only [hji18] at H ⊢;exact H)
             have hji18w:(IntKind.i64.wrap ((ji9) + 3))=ji18:=(i64_w _).trans hji18
             by_cases c19:0≤(ji18)
             ·rw [if_pos c19] at H
              have c19b0:decide (0≤(ji18))=true:=decide_eq_true c19
              clear c19
              by_cases c20:(ji18) < (l0.length:Int)
              ·rw [if_pos c20] at H
               have c20b0:decide ((ji18) < (l0.length:Int))=true:=decide_eq_true c20
               clear c20
               have c21b0:=eq_true (of_decide_eq_true (by first|(with_reducible assumption)|assumption):0≤(ji9))
               by_cases c22:(ji9)≤(l0.length:Int)
               ·rw [if_pos c22] at H
                have c22b0:=eq_true c22
                have c22b1:decide ((ji9)≤(l0.length:Int))=true:=decide_eq_true c22
                clear c22
                replace H:=Option.bind_eq_some_iff.mp H
                obtain ⟨t557,A230,H⟩:=H
                replace H:(if (Go.bits .or .i64 (Go.bits .or .i64 (Go.bits .or .i64 (wrap64 ((wrap64 (rd l0 (ji9))) * 16777216)) (wrap64 ((wrap64 (rd l0 (ji12))) * 65536))) (wrap64 ((wrap64 (rd l0 (ji15))) * 256))) (wrap64 (rd l0 (ji18))))=t557 then (some 0) else (some 11))=some r:=H
                have A23:=Aside0.mk A230
                clear A230
                by_cases c24:(Go.bits .or .i64 (Go.bits .or .i64 (Go.bits .or .i64 (wrap64 ((wrap64 (rd l0 (ji9))) * 16777216)) (wrap64 ((wrap64 (rd l0 (ji12))) * 65536))) (wrap64 ((wrap64 (rd l0 (ji15))) * 256))) (wrap64 (rd l0 (ji18))))=t557
                ·rw [if_pos c24] at H
                 have c24b0:((Go.bits .or .i64 (Go.bits .or .i64 (Go.bits .or .i64 (wrap64 ((wrap64 (rd l0 (ji9))) * 16777216)) (wrap64 ((wrap64 (rd l0 (ji12))) * 65536))) (wrap64 ((wrap64 (rd l0 (ji15))) * 256))) (wrap64 (rd l0 (ji18)))) == t557)=true:=beq_iff_eq.mpr c24
                 have c24b1:((Go.bits .or .i64 (Go.bits .or .i64 (Go.bits .or .i64 (wrap64 ((wrap64 (rd l0 (ji9))) * 16777216)) (wrap64 ((wrap64 (rd l0 (ji12))) * 65536))) (wrap64 ((wrap64 (rd l0 (ji15))) * 256))) (wrap64 (rd l0 (ji18)))) != t557)=false:=bne_eq_false_iff_eq.mpr c24
                 clear c24
                 obtain rfl:=Option.some.inj H
                 have p552:0≤((ji9):Int):=of_decide_eq_true (by first|(with_reducible assumption)|assumption)
                 have q552:(ji9) < (l0.length:Int):=of_decide_eq_true (by first|(with_reducible assumption)|assumption)
                 obtain ⟨ad552,e552,hx552_0⟩:=Kd.at_int HR0.out (ji9) p552 q552
                 cases e552
                 replace p552:=eq_true p552
                 replace q552:=eq_true q552
                 have p553:0≤((ji12):Int):=of_decide_eq_true (by first|(with_reducible assumption)|assumption)
                 have q553:(ji12) < (l0.length:Int):=of_decide_eq_true (by first|(with_reducible assumption)|assumption)
                 obtain ⟨ad553,e553,hx553_0⟩:=Kd.at_int HR0.out (ji12) p553 q553
                 obtain rfl:ad552=ad553:=(by injection e553)
                 replace p553:=eq_true p553
                 replace q553:=eq_true q553
                 have p554:0≤((ji15):Int):=of_decide_eq_true (by first|(with_reducible assumption)|assumption)
                 have q554:(ji15) < (l0.length:Int):=of_decide_eq_true (by first|(with_reducible assumption)|assumption)
                 obtain ⟨ad554,e554,hx554_0⟩:=Kd.at_int HR0.out (ji15) p554 q554
                 obtain rfl:ad552=ad554:=(by injection e554)
                 replace p554:=eq_true p554
                 replace q554:=eq_true q554
                 have p555:0≤((ji18):Int):=of_decide_eq_true (by first|(with_reducible assumption)|assumption)
                 have q555:(ji18) < (l0.length:Int):=of_decide_eq_true (by first|(with_reducible assumption)|assumption)
                 obtain ⟨ad555,e555,hx555_0⟩:=Kd.at_int HR0.out (ji18) p555 q555
                 obtain rfl:ad552=ad555:=(by injection e555)
                 replace p555:=eq_true p555
                 replace q555:=eq_true q555
                 obtain ⟨i025,hi025,_,hsz25,_⟩:=info_parts info5
                 obtain ⟨hcut25,hA25,hC25⟩:=print_take_of (P:=Try.prog) (Value.int .u8) 0 48 5 .i64 Try.underlying48 hi025 hsz25 (some ad552) c0 l0 (ji9) (of_decide_eq_true (by first|(with_reducible assumption)|assumption)) (of_decide_eq_true (by first|(with_reducible assumption)|assumption)) HC0.out
                 have HR556:=Aside0.mk (Kd.C_of_reads (h1:=fun _=>rfl) (hA25 _ (Kd.reads_of_C HR0.out)))
                 have HC556:=Aside0.mk hC25
                 clear hA25 hC25 hi025 hsz25
                 go_wp2_with (first|(go_at_call 65;(try refine calls_of_args (args':=#[.slice (some ad552) (l0.take ((ji9):Int).toNat).length c0]) (by first|(rw [show (l0.take ((ji9):Int).toNat).length=(ji9).toNat from (by rw [List.length_take];have h_:((ji9):Int)≤(l0.length:Int):=of_decide_eq_true (by first|(with_reducible assumption)|assumption);omega)] <;> rfl)|rfl) ?_);(with_reducible refine (slipwayref01_Zeros.calls kj5 _ _ (l0.take ((ji9):Int).toNat) t557 _ ?side1 ?side2 A23.out).mono ?_);(case side1=>repeat (first|exact HR556.out|(with_reducible refine Kd.C_alloc ?_ _)|(with_reducible refine Kd.C_drewN ?_ _)|(with_reducible refine Kd.C_drew ?_)));(case side2=>exact HC556.out);rintro e w' ⟨rfl,⟨nd,rfl⟩⟩;(try first|exact ⟨rfl,_,World.drewN_drewN _ _ _⟩|exact ⟨rfl,_,Eq.trans (World.drewN_drewN _ _ _) (congrArg (World.drewN _) (Nat.add_assoc _ _ _))⟩)))
                 repeat (go_quiet (first|(go_at_call 65;(try refine calls_of_args (args':=#[.slice (some ad552) (l0.take ((ji9):Int).toNat).length c0]) (by first|(rw [show (l0.take ((ji9):Int).toNat).length=(ji9).toNat from (by rw [List.length_take];have h_:((ji9):Int)≤(l0.length:Int):=of_decide_eq_true (by first|(with_reducible assumption)|assumption);omega)] <;> rfl)|rfl) ?_);(with_reducible refine (slipwayref01_Zeros.calls kj5 _ _ (l0.take ((ji9):Int).toNat) t557 _ ?side1 ?side2 A23.out).mono ?_);(case side1=>repeat (first|exact HR556.out|(with_reducible refine Kd.C_alloc ?_ _)|(with_reducible refine Kd.C_drewN ?_ _)|(with_reducible refine Kd.C_drew ?_)));(case side2=>exact HC556.out);rintro e w' ⟨rfl,⟨nd,rfl⟩⟩;(try first|exact ⟨rfl,_,World.drewN_drewN _ _ _⟩|exact ⟨rfl,_,Eq.trans (World.drewN_drewN _ _ _) (congrArg (World.drewN _) (Nat.add_assoc _ _ _))⟩)));try go_wp2_with (first|(go_at_call 65;(try refine calls_of_args (args':=#[.slice (some ad552) (l0.take ((ji9):Int).toNat).length c0]) (by first|(rw [show (l0.take ((ji9):Int).toNat).length=(ji9).toNat from (by rw [List.length_take];have h_:((ji9):Int)≤(l0.length:Int):=of_decide_eq_true (by first|(with_reducible assumption)|assumption);omega)] <;> rfl)|rfl) ?_);(with_reducible refine (slipwayref01_Zeros.calls kj5 _ _ (l0.take ((ji9):Int).toNat) t557 _ ?side1 ?side2 A23.out).mono ?_);(case side1=>repeat (first|exact HR556.out|(with_reducible refine Kd.C_alloc ?_ _)|(with_reducible refine Kd.C_drewN ?_ _)|(with_reducible refine Kd.C_drew ?_)));(case side2=>exact HC556.out);rintro e w' ⟨rfl,⟨nd,rfl⟩⟩;(try first|exact ⟨rfl,_,World.drewN_drewN _ _ _⟩|exact ⟨rfl,_,Eq.trans (World.drewN_drewN _ _ _) (congrArg (World.drewN _) (Nat.add_assoc _ _ _))⟩))))
                 go_ret
                 exact ⟨by first|rfl|(simp;done)|(simp only [← hji9,← hji12,← hji15,← hji18] <;> (first|rfl|simp))|(simp [*];done),by repeat (first|exact Drawn0.refl _|apply Drawn0.step)⟩
                ·rw [if_neg c24] at H
                 have c24b0:((Go.bits .or .i64 (Go.bits .or .i64 (Go.bits .or .i64 (wrap64 ((wrap64 (rd l0 (ji9))) * 16777216)) (wrap64 ((wrap64 (rd l0 (ji12))) * 65536))) (wrap64 ((wrap64 (rd l0 (ji15))) * 256))) (wrap64 (rd l0 (ji18)))) == t557)=false:=beq_eq_false_iff_ne.mpr c24
                 have c24b1:((Go.bits .or .i64 (Go.bits .or .i64 (Go.bits .or .i64 (wrap64 ((wrap64 (rd l0 (ji9))) * 16777216)) (wrap64 ((wrap64 (rd l0 (ji12))) * 65536))) (wrap64 ((wrap64 (rd l0 (ji15))) * 256))) (wrap64 (rd l0 (ji18)))) != t557)=true:=bne_iff_ne.mpr c24
                 obtain rfl:=Option.some.inj H
                 have p552:0≤((ji9):Int):=of_decide_eq_true (by first|(with_reducible assumption)|assumption)
                 have q552:(ji9) < (l0.length:Int):=of_decide_eq_true (by first|(with_reducible assumption)|assumption)
                 obtain ⟨ad552,e552,hx552_0⟩:=Kd.at_int HR0.out (ji9) p552 q552
                 cases e552
                 replace p552:=eq_true p552
                 replace q552:=eq_true q552
                 have p553:0≤((ji12):Int):=of_decide_eq_true (by first|(with_reducible assumption)|assumption)
                 have q553:(ji12) < (l0.length:Int):=of_decide_eq_true (by first|(with_reducible assumption)|assumption)
                 obtain ⟨ad553,e553,hx553_0⟩:=Kd.at_int HR0.out (ji12) p553 q553
                 obtain rfl:ad552=ad553:=(by injection e553)
                 replace p553:=eq_true p553
                 replace q553:=eq_true q553
                 have p554:0≤((ji15):Int):=of_decide_eq_true (by first|(with_reducible assumption)|assumption)
                 have q554:(ji15) < (l0.length:Int):=of_decide_eq_true (by first|(with_reducible assumption)|assumption)
                 obtain ⟨ad554,e554,hx554_0⟩:=Kd.at_int HR0.out (ji15) p554 q554
                 obtain rfl:ad552=ad554:=(by injection e554)
                 replace p554:=eq_true p554
                 replace q554:=eq_true q554
                 have p555:0≤((ji18):Int):=of_decide_eq_true (by first|(with_reducible assumption)|assumption)
                 have q555:(ji18) < (l0.length:Int):=of_decide_eq_true (by first|(with_reducible assumption)|assumption)
                 obtain ⟨ad555,e555,hx555_0⟩:=Kd.at_int HR0.out (ji18) p555 q555
                 obtain rfl:ad552=ad555:=(by injection e555)
                 replace p555:=eq_true p555
                 replace q555:=eq_true q555
                 obtain ⟨i026,hi026,_,hsz26,_⟩:=info_parts info5
                 obtain ⟨hcut26,hA26,hC26⟩:=print_take_of (P:=Try.prog) (Value.int .u8) 0 48 5 .i64 Try.underlying48 hi026 hsz26 (some ad552) c0 l0 (ji9) (of_decide_eq_true (by first|(with_reducible assumption)|assumption)) (of_decide_eq_true (by first|(with_reducible assumption)|assumption)) HC0.out
                 have HR556:=Aside0.mk (Kd.C_of_reads (h1:=fun _=>rfl) (hA26 _ (Kd.reads_of_C HR0.out)))
                 have HC556:=Aside0.mk hC26
                 clear hA26 hC26 hi026 hsz26
                 go_wp2_with (first|(go_at_call 65;(try refine calls_of_args (args':=#[.slice (some ad552) (l0.take ((ji9):Int).toNat).length c0]) (by first|(rw [show (l0.take ((ji9):Int).toNat).length=(ji9).toNat from (by rw [List.length_take];have h_:((ji9):Int)≤(l0.length:Int):=of_decide_eq_true (by first|(with_reducible assumption)|assumption);omega)] <;> rfl)|rfl) ?_);(with_reducible refine (slipwayref01_Zeros.calls kj5 _ _ (l0.take ((ji9):Int).toNat) t557 _ ?side1 ?side2 A23.out).mono ?_);(case side1=>repeat (first|exact HR556.out|(with_reducible refine Kd.C_alloc ?_ _)|(with_reducible refine Kd.C_drewN ?_ _)|(with_reducible refine Kd.C_drew ?_)));(case side2=>exact HC556.out);rintro e w' ⟨rfl,⟨nd,rfl⟩⟩;(try first|exact ⟨rfl,_,World.drewN_drewN _ _ _⟩|exact ⟨rfl,_,Eq.trans (World.drewN_drewN _ _ _) (congrArg (World.drewN _) (Nat.add_assoc _ _ _))⟩)))
                 repeat (go_quiet (first|(go_at_call 65;(try refine calls_of_args (args':=#[.slice (some ad552) (l0.take ((ji9):Int).toNat).length c0]) (by first|(rw [show (l0.take ((ji9):Int).toNat).length=(ji9).toNat from (by rw [List.length_take];have h_:((ji9):Int)≤(l0.length:Int):=of_decide_eq_true (by first|(with_reducible assumption)|assumption);omega)] <;> rfl)|rfl) ?_);(with_reducible refine (slipwayref01_Zeros.calls kj5 _ _ (l0.take ((ji9):Int).toNat) t557 _ ?side1 ?side2 A23.out).mono ?_);(case side1=>repeat (first|exact HR556.out|(with_reducible refine Kd.C_alloc ?_ _)|(with_reducible refine Kd.C_drewN ?_ _)|(with_reducible refine Kd.C_drew ?_)));(case side2=>exact HC556.out);rintro e w' ⟨rfl,⟨nd,rfl⟩⟩;(try first|exact ⟨rfl,_,World.drewN_drewN _ _ _⟩|exact ⟨rfl,_,Eq.trans (World.drewN_drewN _ _ _) (congrArg (World.drewN _) (Nat.add_assoc _ _ _))⟩)));try go_wp2_with (first|(go_at_call 65;(try refine calls_of_args (args':=#[.slice (some ad552) (l0.take ((ji9):Int).toNat).length c0]) (by first|(rw [show (l0.take ((ji9):Int).toNat).length=(ji9).toNat from (by rw [List.length_take];have h_:((ji9):Int)≤(l0.length:Int):=of_decide_eq_true (by first|(with_reducible assumption)|assumption);omega)] <;> rfl)|rfl) ?_);(with_reducible refine (slipwayref01_Zeros.calls kj5 _ _ (l0.take ((ji9):Int).toNat) t557 _ ?side1 ?side2 A23.out).mono ?_);(case side1=>repeat (first|exact HR556.out|(with_reducible refine Kd.C_alloc ?_ _)|(with_reducible refine Kd.C_drewN ?_ _)|(with_reducible refine Kd.C_drew ?_)));(case side2=>exact HC556.out);rintro e w' ⟨rfl,⟨nd,rfl⟩⟩;(try first|exact ⟨rfl,_,World.drewN_drewN _ _ _⟩|exact ⟨rfl,_,Eq.trans (World.drewN_drewN _ _ _) (congrArg (World.drewN _) (Nat.add_assoc _ _ _))⟩))))
                 go_ret
                 exact ⟨by first|rfl|(simp;done)|(simp only [← hji9,← hji12,← hji15,← hji18] <;> (first|rfl|simp))|(simp [*];done),by repeat (first|exact Drawn0.refl _|apply Drawn0.step)⟩
               ·rw [if_neg c22] at H
                exact absurd H (by simp)
              ·rw [if_neg c20] at H
               exact absurd H (by simp)
             ·rw [if_neg c19] at H
              exact absurd H (by simp)
            ·rw [if_neg c17] at H
             exact absurd H (by simp)
           ·rw [if_neg c16] at H
            exact absurd H (by simp)
          ·rw [if_neg c14] at H
           exact absurd H (by simp)
         ·rw [if_neg c13] at H
          exact absurd H (by simp)
        ·rw [if_neg c11] at H
         exact absurd H (by simp)
       ·rw [if_neg c10] at H
        exact absurd H (by simp)
end Go.Proofs.Ytbdnmdmfnopihaa.Print
end
section
namespace Go.Proofs.Ytbdnmdmfnopihaa.Print
open Go.RowKit Go.Proofs.YtbdnmdmfnopihaaW.PrintWords Go.Proofs.YtbdnmdmfnopihaaW.PrintLast Go.Proofs.YtbdnmdmfnopihaaW.PrintMore
attribute [local go_sem] max2_int min2_int max_two min_two max_three min_three max_four min_four   -- for this text's walks alone
attribute [local go_sem ↓] Go.Proofs.Ytbdnmdmfnopihaa.Sem.isSome_setCell
attribute [local go_sem] Go.Instr.field Go.asAgg
set_option linter.unusedVariables false
set_option linter.unusedSimpArgs false
def slipwayref01_Open.f (k:Nat) (l0:List Int):Option (List Int × Int):=(slipwayref01_State.f k l0).bind fun t558=>(if t558=0 then (if 0≤(wrap64 ((l0.length:Int) - 4)) then (if (wrap64 ((l0.length:Int) - 4))≤(l0.length:Int) then (if ([]:List Int).length + (l0.take ((wrap64 ((l0.length:Int) - 4)):Int).toNat).length < 140737488355328 then (some ((([]:List Int) ++ (l0.take ((wrap64 ((l0.length:Int) - 4)):Int).toNat)),0)) else (none)) else (none)) else (none)) else (some (([]:List Int),t558)))
set_option maxHeartbeats 8000000 in
set_option maxRecDepth 100000 in
theorem slipwayref01_Open.calls (k:Nat) (A0:Option Addr) (c0:Nat) (l0:List Int) (r1:List Int) (r2:Int) (w:World) (hr0:Kd.C (Kd.int .u8) w A0 l0.length l0) (hc0:l0.length≤c0) (h:slipwayref01_Open.f k l0=some (r1,r2)) :
  Calls Try.prog 60 #[.slice A0 l0.length c0] w fun e w'=>∃ v0_:Value,e=.returned (.tuple #[v0_,.int .i64 r2])∧Kd.R (Kd.int .u8) 5 w' w.heap.size (fun _=>True) v0_ r1∧Below w.heap.size w w':=by
 have HR0:=Aside0.mk hr0
 have HC0:=Aside0.mk hc0
 clear hr0 hc0
 have HB:=Aside0.mk (Below.refl w.heap.size w)
 have H:((slipwayref01_State.f k l0).bind fun t558=>(if t558=0 then (if 0≤(wrap64 ((l0.length:Int) - 4)) then (if (wrap64 ((l0.length:Int) - 4))≤(l0.length:Int) then (if ([]:List Int).length + (l0.take ((wrap64 ((l0.length:Int) - 4)):Int).toNat).length < 140737488355328 then (some ((([]:List Int) ++ (l0.take ((wrap64 ((l0.length:Int) - 4)):Int).toNat)),0)) else (none)) else (none)) else (none)) else (some (([]:List Int),t558))))=some (r1,r2):=h
 clear h
 replace H:=Option.bind_eq_some_iff.mp H
 obtain ⟨t558,A20,H⟩:=H
 replace H:(if t558=0 then (if 0≤(wrap64 ((l0.length:Int) - 4)) then (if (wrap64 ((l0.length:Int) - 4))≤(l0.length:Int) then (if ([]:List Int).length + (l0.take ((wrap64 ((l0.length:Int) - 4)):Int).toNat).length < 140737488355328 then (some ((([]:List Int) ++ (l0.take ((wrap64 ((l0.length:Int) - 4)):Int).toNat)),0)) else (none)) else (none)) else (none)) else (some (([]:List Int),t558)))=some (r1,r2):=H
 have A2:=Aside0.mk A20
 clear A20
 by_cases c3:t558=0
 ·rw [if_pos c3] at H
  have c3b0:(t558 == 0)=true:=beq_iff_eq.mpr c3
  have c3b1:(t558 != 0)=false:=bne_eq_false_iff_eq.mpr c3
  clear c3
  obtain ⟨ji4,hji4⟩:∃ j_:Int,(wrap64 ((l0.length:Int) - 4))=j_:=⟨_,rfl⟩
  replace H:(if 0≤(ji4) then (if (ji4)≤(l0.length:Int) then (if ([]:List Int).length + (l0.take ((ji4):Int).toNat).length < 140737488355328 then (some ((([]:List Int) ++ (l0.take ((ji4):Int).toNat)),0)) else (none)) else (none)) else (none))=some (r1,r2):=by first|(rw [hji4] at H;exact H)|(simp only [hji4] at H ⊢;exact H)
  (try rw [hji4] at A2)
  have hji4w:(IntKind.i64.wrap ((l0.length:Int) - 4))=ji4:=(i64_w _).trans hji4
  by_cases c5:0≤(ji4)
  ·rw [if_pos c5] at H
   have c5b0:=eq_true c5
   have c5b1:decide (0≤(ji4))=true:=decide_eq_true c5
   clear c5
   by_cases c6:(ji4)≤(l0.length:Int)
   ·rw [if_pos c6] at H
    have c6b0:=eq_true c6
    have c6b1:decide ((ji4)≤(l0.length:Int))=true:=decide_eq_true c6
    clear c6
    by_cases c7:([]:List Int).length + (l0.take ((ji4):Int).toNat).length < 140737488355328
    ·rw [if_pos c7] at H
     have LMc7:=Aside0.mk c7
     clear c7
     obtain ⟨y560,hy560⟩:∃ y_:List Int,y_=(([]:List Int) ++ (l0.take ((ji4):Int).toNat)):=⟨_,rfl⟩
     replace H:(some (y560,0))=some (r1,r2):=by first|(rw [hy560];with_reducible exact H)|(have H2_:=(Option.bind_some _ _).symm.trans H;rw [hy560];with_reducible exact H2_)|(have H2_:=(Option.bind_some _ _).symm.trans H;with_reducible exact H2_)|with_reducible exact H|(rw [hy560];exact H)|exact H
     have Ny560:=Aside0.mk hy560
     clear hy560
     simp only [Option.some.injEq,Prod.mk.injEq] at H
     obtain ⟨rfl,rfl⟩:=H
     go_enter Try.func60,Try.ntmps60
     go_wp2_with (first|((with_reducible refine gate_callee (f:=68) rfl ?_);refine goesL_ (some 7) rfl rfl Try.func68 (by kernel_rfl) rfl #[.slice A0 l0.length c0] rfl (by (try simp only [List.map_toArray,List.map_cons,List.map_nil]);first|done|rfl|(simp only [List.length_drop,List.length_take];rfl)) ?_;(with_reducible refine (slipwayref01_State.calls k _ _ l0 t558 _ ?side1 ?side2 A2.out).mono ?_);(case side1=>repeat (first|exact HR0.out|(with_reducible refine Kd.C_alloc ?_ _)|(with_reducible refine Kd.C_drewN ?_ _)|(with_reducible refine Kd.C_drew ?_)));(case side2=>exact HC0.out);rintro e w' ⟨rfl,⟨nd,rfl⟩⟩;refine ⟨_,rfl,?_⟩;obtain ⟨i08,hi08,_,hsz8,_⟩:=info_parts info5;obtain ⟨hcut8,hA8,hC8⟩:=print_take_of (P:=Try.prog) (Value.int .u8) 0 48 5 .i64 Try.underlying48 hi08 hsz8 A0 c0 l0 (ji4) (of_decide_eq_true (by first|(with_reducible assumption)|assumption)) (of_decide_eq_true (by first|(with_reducible assumption)|assumption)) HC0.out;have HR559:=Aside0.mk (Kd.C_of_reads (h1:=fun _=>rfl) (hA8 _ (Kd.reads_of_C HR0.out)));have HC559:=Aside0.mk hC8;clear hA8 hC8 hi08 hsz8)|((with_reducible refine gate_builtin (b:=.append) (xs:=#[.tmp 11,.tmp 16]) rfl ?_);at_builtin;refine Kd.R_append_rows (Kd.int .u8) (w0:=w) w.heap.size rfl (.tmp 11) (.tmp 16) 48 5 (.int .u8 0) 1 rfl Try.underlying48 info5 rfl (by decide) (by omega) (.slice none 0 0) ([]:List Int) (l0.take ((ji4):Int).toNat) _ _ _ (fun _=>True) (fun _=>False) rfl rfl ?aO ?aR (fun _ _ h=>h) (fun _ h=>h.elim) ?aF ?aB ?aS ?aL ?_;(case aR=>first|(refine Eq.mp (congrArg (fun n_=>Kd.C _ _ _ n_ _) (show (l0.take ((ji4):Int).toNat).length=(ji4).toNat from (by rw [List.length_take];have h_:((ji4):Int)≤(l0.length:Int):=of_decide_eq_true (by first|(with_reducible assumption)|assumption);omega))) ?_;repeat (first|exact HR559.out|(with_reducible refine Kd.C_alloc ?_ _)|(with_reducible refine Kd.C_drewN ?_ _)|(with_reducible refine Kd.C_drew ?_)))|(repeat (first|exact HR559.out|(with_reducible refine Kd.C_alloc ?_ _)|(with_reducible refine Kd.C_drewN ?_ _)|(with_reducible refine Kd.C_drew ?_))));(case aB=>exact (by repeat (first|(with_reducible first|exact HB.out|apply below_alloc|apply pw_below_drewN|apply below_drew1)|exact HB.out)));(case aF=>exact (fun _ _=>trivial));(case aO=>exact ((Kd.R_nil _ _ _ _ (fun _=>True))));(case aS=>exact (below_size (by repeat (first|(with_reducible first|exact HB.out|apply below_alloc|apply pw_below_drewN|apply below_drew1)|exact HB.out))));(case aL=>have:=LMc7.out;have hlx_:=(show (l0.take ((ji4):Int).toNat).length=(ji4).toNat from (by rw [List.length_take];have h_:((ji4):Int)≤(l0.length:Int):=of_decide_eq_true (by first|(with_reducible assumption)|assumption);omega));omega);intro v561 w9 ho hb hg hat;rw [← Ny560.out] at ho;have n0_:=Aside0.mk (hb);have n1_:=Aside0.mk (ho);clear HB;have HB:=n0_;have HO562:=n1_;clear n0_ n1_;clear ho hb hg hat))
     go_ret2
     exact ⟨_,by first|rfl|(simp [errW_none,errW_some] <;> rfl)|(simp only [← hji4];first|rfl|(simp [errW_none,errW_some] <;> rfl))|(simp [*,errW_none,errW_some] <;> rfl),by (with_reducible repeat (first|apply Kd.R_alloc|apply Kd.R_drewN|apply Kd.R_drew));exact HO562.out,by repeat (first|(with_reducible first|exact HB.out|apply below_alloc|apply pw_below_drewN|apply below_drew1)|exact HB.out)⟩
    ·rw [if_neg c7] at H
     exact absurd H (by simp)
   ·rw [if_neg c6] at H
    exact absurd H (by simp)
  ·rw [if_neg c5] at H
   exact absurd H (by simp)
 ·rw [if_neg c3] at H
  have c3b0:(t558 == 0)=false:=beq_eq_false_iff_ne.mpr c3
  have c3b1:(t558 != 0)=true:=bne_iff_ne.mpr c3
  simp only [Option.some.injEq,Prod.mk.injEq] at H
  obtain ⟨rfl,rfl⟩:=H
  go_enter Try.func60,Try.ntmps60
  go_wp2_with (first|((with_reducible refine gate_callee (f:=68) rfl ?_);refine goesL_ (some 7) rfl rfl Try.func68 (by kernel_rfl) rfl #[.slice A0 l0.length c0] rfl (by (try simp only [List.map_toArray,List.map_cons,List.map_nil]);first|done|rfl|(simp only [List.length_drop,List.length_take];rfl)) ?_;(with_reducible refine (slipwayref01_State.calls k _ _ l0 t558 _ ?side1 ?side2 A2.out).mono ?_);(case side1=>repeat (first|exact HR0.out|(with_reducible refine Kd.C_alloc ?_ _)|(with_reducible refine Kd.C_drewN ?_ _)|(with_reducible refine Kd.C_drew ?_)));(case side2=>exact HC0.out);rintro e w' ⟨rfl,⟨nd,rfl⟩⟩;refine ⟨_,rfl,?_⟩))
  go_ret2
  exact ⟨_,by first|rfl|(simp [errW_none,errW_some] <;> rfl)|(simp [*,errW_none,errW_some] <;> rfl),by first|exact Kd.R_nil _ _ _ _ _|exact Kd.N_nil _ _ _ _ _|exact Kd.V_nil _ _ _ _ _|exact Kd.Q_nil _ _ _ _ _|exact Kd.S_nil _ _ _ _ _,by repeat (first|(with_reducible first|exact HB.out|apply below_alloc|apply pw_below_drewN|apply below_drew1)|exact HB.out)⟩
end Go.Proofs.Ytbdnmdmfnopihaa.Print
end
