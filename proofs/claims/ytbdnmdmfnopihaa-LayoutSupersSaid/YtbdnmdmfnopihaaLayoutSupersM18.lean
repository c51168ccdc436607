/- Texts of the proof of LayoutSupers, part 18. -/
import Derived.Test.YtbdnmdmfnopihaaLayoutSupersM17
section
namespace Go.Proofs.Ytbdnmdmfnopihaa.Print
open Go.RowKit Go.Proofs.YtbdnmdmfnopihaaW.PrintWords Go.Proofs.YtbdnmdmfnopihaaW.PrintLast Go.Proofs.YtbdnmdmfnopihaaW.PrintMore
attribute [local go_sem] max2_int min2_int max_two min_two max_three min_three max_four min_four   -- for this text's walks alone
attribute [local go_sem ↓] Go.Proofs.Ytbdnmdmfnopihaa.Sem.isSome_setCell
attribute [local go_sem] Go.Instr.field Go.asAgg
set_option linter.unusedVariables false
set_option linter.unusedSimpArgs false
mutual
def slipwayref01_Unpack.l0:Nat → List Int → List Int → Int → List Int → Int → Int → Option (List Int × Int)
 | 0,_,_,_,_,_,_=>none
 | k + 1,x0,x1,x6,x8,x9,x10=>if x10 < (x0.length:Int) then (slipwayref01_Unpack.l1 k x0 x1 x6 x8 x9 x10 0 0) else (slipwayref01_Unpack.l2 k x1 x6 x8 x9)
def slipwayref01_Unpack.l1:Nat → List Int → List Int → Int → List Int → Int → Int → Int → Int → Option (List Int × Int)
 | 0,_,_,_,_,_,_,_,_=>none
 | k + 1,x0,x1,x6,x8,x9,x10,x11,x12=>if 0≤x10 then (if x10 < (x0.length:Int) then (if x12 < (rd x0 x10) then (if 0≤(wrap64 (Int.tdiv x9 8)) then (if (wrap64 (Int.tdiv x9 8)) < (x1.length:Int) then (if 0≤(IntKind.u64.wrap (wrap64 (7 - (Int.tmod x9 8)))) then (slipwayref01_Unpack.l1 k x0 x1 x6 x8 (wrap64 (x9 + 1)) x10 (Go.bits .or .u64 (IntKind.u64.wrap (x11 * 2)) (IntKind.u64.wrap (Go.bits .and .u8 (shr .u8 (rd x1 (wrap64 (Int.tdiv x9 8))) (IntKind.u64.wrap (wrap64 (7 - (Int.tmod x9 8))))) 1))) (wrap64 (x12 + 1))) else (none)) else (none)) else (none)) else (if x8.length < 17592186044416 then (slipwayref01_Unpack.l0 k x0 x1 x6 (x8 ++ [x11]) x9 (wrap64 (x10 + 1))) else (none))) else (none)) else (none)
def slipwayref01_Unpack.l2:Nat → List Int → Int → List Int → Int → Option (List Int × Int)
 | 0,_,_,_,_=>none
 | k + 1,x1,x6,x8,x9=>if x9 < (wrap64 (8 * x6)) then (if 0≤(wrap64 (Int.tdiv x9 8)) then (if (wrap64 (Int.tdiv x9 8)) < (x1.length:Int) then (if 0≤(IntKind.u64.wrap (wrap64 (7 - (Int.tmod x9 8)))) then (if (Go.bits .and .u8 (shr .u8 (rd x1 (wrap64 (Int.tdiv x9 8))) (IntKind.u64.wrap (wrap64 (7 - (Int.tmod x9 8))))) 1)=0 then (slipwayref01_Unpack.l2 k x1 x6 x8 (wrap64 (x9 + 1))) else (some (([]:List Int),1))) else (none)) else (none)) else (none)) else (some (x8,0))
end
def slipwayref01_Unpack.f (k:Nat) (l0:List Int) (l1:List Int):Option (List Int × Int):=(slipwayref01_Width.f k l0).bind fun bt324=>(if bt324.2=0 then (if (l1.length:Int)=bt324.1 then (slipwayref01_Unpack.l0 k l0 l1 bt324.1 ([]:List Int) 0 0) else (some (([]:List Int),3))) else (some (([]:List Int),bt324.2)))
set_option maxHeartbeats 8000000 in
set_option maxRecDepth 100000 in
theorem slipwayref01_Unpack.calls (k:Nat) (A0:Option Addr) (c0:Nat) (l0:List Int) (A1:Option Addr) (c1:Nat) (l1:List Int) (r1:List Int) (r2:Int) (w:World) (hr0:Kd.C (Kd.int .i64) w A0 l0.length l0) (hc0:l0.length≤c0) (hr1:Kd.C (Kd.int .u8) w A1 l1.length l1) (hc1:l1.length≤c1) (h:slipwayref01_Unpack.f k l0 l1=some (r1,r2)) :
  Calls Try.prog 52 #[.slice A0 l0.length c0,.slice A1 l1.length c1] w fun e w'=>∃ v0_:Value,e=.returned (.tuple #[v0_,.int .i64 r2])∧Kd.R (Kd.int .u64) 76 w' w.heap.size (fun _=>True) v0_ r1∧Below w.heap.size w w':=by
 have HR0:=Aside0.mk hr0
 have HC0:=Aside0.mk hc0
 clear hr0 hc0
 have HR1:=Aside0.mk hr1
 have HC1:=Aside0.mk hc1
 clear hr1 hc1
 have HB:=Aside0.mk (Below.refl w.heap.size w)
 have H:((slipwayref01_Width.f k l0).bind fun bt324=>(if bt324.2=0 then (if (l1.length:Int)=bt324.1 then (slipwayref01_Unpack.l0 k l0 l1 bt324.1 ([]:List Int) 0 0) else (some (([]:List Int),3))) else (some (([]:List Int),bt324.2))))=some (r1,r2):=h
 clear h
 replace H:=Option.bind_eq_some_iff.mp H
 obtain ⟨⟨t324,t325⟩,A30,H⟩:=H
 replace H:(if t325=0 then (if (l1.length:Int)=t324 then (slipwayref01_Unpack.l0 k l0 l1 t324 ([]:List Int) 0 0) else (some (([]:List Int),3))) else (some (([]:List Int),t325)))=some (r1,r2):=H
 have A3:=Aside0.mk A30
 clear A30
 by_cases c4:t325=0
 ·rw [if_pos c4] at H
  have c4b0:(t325 == 0)=true:=beq_iff_eq.mpr c4
  have c4b1:(t325 != 0)=false:=bne_eq_false_iff_eq.mpr c4
  clear c4
  by_cases c5:(l1.length:Int)=t324
  ·rw [if_pos c5] at H
   have c5b0:((l1.length:Int) == t324)=true:=beq_iff_eq.mpr c5
   have c5b1:((l1.length:Int) != t324)=false:=bne_eq_false_iff_eq.mpr c5
   clear c5
   have H':=Aside0.mk H
   clear H
   go_enter Try.func52,Try.ntmps52
   go_wp2_with (first|((with_reducible refine gate_callee (f:=61) rfl ?_);refine goesL_ (some 15) rfl rfl Try.func61 (by kernel_rfl) rfl #[.slice A0 l0.length c0] rfl (by (try simp only [List.map_toArray,List.map_cons,List.map_nil]);first|done|rfl|(simp only [List.length_drop,List.length_take];rfl)) ?_;(with_reducible refine (slipwayref01_Width.calls k _ _ l0 t324 t325 _ ?side1 ?side2 A3.out).mono ?_);(case side1=>repeat (first|exact HR0.out|(with_reducible refine Kd.C_alloc ?_ _)|(with_reducible refine Kd.C_drewN ?_ _)|(with_reducible refine Kd.C_drew ?_)));(case side2=>exact HC0.out);rintro e w' ⟨rfl,⟨nd,rfl⟩⟩;refine ⟨_,rfl,?_⟩))
   go_loopg [8,9,10] k (fun kq v8 v9 v10 w'=>∃ (x8_1:List Int) (x9_1:Int) (x10_1:Int),v9=.int .i64 x9_1∧v10=.int .i64 x10_1∧Aside0 (slipwayref01_Unpack.l0 kq l0 l1 t324 x8_1 x9_1 x10_1=some (r1,r2))∧Aside0 (kq≤k)∧Aside0 (Kd.R (Kd.int .u64) 76 w' w.heap.size (fun _=>True) v8 x8_1)∧Aside0 (Below w.heap.size w w'))
   case atStart=>exact ⟨(([]:List Int)),(0),(0),(by first|rfl|(simp;done)|(simp [*];done)),(by first|rfl|(simp;done)|(simp [*];done)),H',⟨Nat.le_refl _⟩,⟨by first|exact Kd.R_nil _ _ _ _ _|exact Kd.N_nil _ _ _ _ _|exact Kd.V_nil _ _ _ _ _|exact Kd.Q_nil _ _ _ _ _|exact Kd.S_nil _ _ _ _ _⟩,⟨by repeat (first|(with_reducible first|exact HB.out|apply below_alloc|apply pw_below_drewN|apply below_drew1)|exact HB.out)⟩⟩
   case round =>
    clear H'
    try clear c1
    try clear p2
    try clear c4
    try clear c4b0
    try clear c4b1
    try clear c5
    try clear c5b0
    try clear c5b1
    obtain ⟨x8_1,x9_1,x10_1,rfl,rfl,HA,HK1,HO_8,HB⟩:=hrel
    cases gk with
    | zero=>exact absurd HA.out (by simp [slipwayref01_Unpack.l0])
    | succ k1 =>
     have H:=HA.out
     clear HA
     simp only [slipwayref01_Unpack.l0] at H
     by_cases c6:x10_1 < (l0.length:Int)
     ·rw [if_pos c6] at H
      have c6b0:decide (x10_1 < (l0.length:Int))=true:=decide_eq_true c6
      clear c6
      have H':=Aside0.mk H
      clear H
      go_wp2
      go_loopg [9,11,12] k1 (fun kq v9 v11 v12 w'=>∃ (x9_2:Int) (x11_2:Int) (x12_2:Int),v9=.int .i64 x9_2∧v11=.int .u64 x11_2∧v12=.int .i64 x12_2∧Aside0 (slipwayref01_Unpack.l1 kq l0 l1 t324 x8_1 x9_2 x10_1 x11_2 x12_2=some (r1,r2))∧Aside0 (kq≤k1)∧Aside0 (Kd.R (Kd.int .u64) 76 w' w.heap.size (fun _=>True) u8 x8_1)∧Aside0 (Below w.heap.size w w'))
      case atStart=>exact ⟨(x9_1),(0),(0),(by first|rfl|(simp;done)|(simp [*];done)),(by first|rfl|(simp;done)|(simp [*];done)),(by first|rfl|(simp;done)|(simp [*];done)),H',⟨Nat.le_refl _⟩,⟨by (with_reducible repeat (first|apply Kd.R_alloc|apply Kd.R_drewN|apply Kd.R_drew));exact HO_8.out⟩,⟨by repeat (first|(with_reducible first|exact HB.out|apply below_alloc|apply pw_below_drewN|apply below_drew1)|exact HB.out)⟩⟩
      case round =>
       clear H'
       try clear c1
       try clear p2
       try clear c4
       try clear c4b0
       try clear c4b1
       try clear c5
       try clear c5b0
       try clear c5b1
       try clear c6
       try clear c6b0
       try clear p2
       obtain ⟨x9_2,x11_2,x12_2,rfl,rfl,rfl,HA,HK2,HO_8,HB⟩:=hrel
       cases gk with
       | zero=>exact absurd HA.out (by simp [slipwayref01_Unpack.l1])
       | succ k2 =>
        have H:=HA.out
        clear HA
        simp only [slipwayref01_Unpack.l1] at H
        by_cases c7:0≤x10_1
        ·rw [if_pos c7] at H
         have c7b0:decide (0≤x10_1)=true:=decide_eq_true c7
         clear c7
         by_cases c8:x10_1 < (l0.length:Int)
         ·rw [if_pos c8] at H
          have c8b0:decide (x10_1 < (l0.length:Int))=true:=decide_eq_true c8
          clear c8
          by_cases c9:x12_2 < (rd l0 x10_1)
          ·rw [if_pos c9] at H
           have c9b0:decide (x12_2 < (rd l0 x10_1))=true:=decide_eq_true c9
           clear c9
           obtain ⟨ji10,hji10⟩:∃ j_:Int,(wrap64 (Int.tdiv x9_2 8))=j_:=⟨_,rfl⟩
           replace H:(if 0≤(ji10) then (if (ji10) < (l1.length:Int) then (if 0≤(IntKind.u64.wrap (wrap64 (7 - (Int.tmod x9_2 8)))) then (slipwayref01_Unpack.l1 k2 l0 l1 t324 x8_1 (wrap64 (x9_2 + 1)) x10_1 (Go.bits .or .u64 (IntKind.u64.wrap (x11_2 * 2)) (IntKind.u64.wrap (Go.bits .and .u8 (shr .u8 (rd l1 (ji10)) (IntKind.u64.wrap (wrap64 (7 - (Int.tmod x9_2 8))))) 1))) (wrap64 (x12_2 + 1))) else (none)) else (none)) else (none))=some (r1,r2):=by first|(rw [hji10] at H;exact H)|(simp only [hji10] at H ⊢;exact H)
           have hji10w:(IntKind.i64.wrap (Int.tdiv x9_2 8))=ji10:=(i64_w _).trans hji10
           by_cases c11:0≤(ji10)
           ·rw [if_pos c11] at H
            have c11b0:decide (0≤(ji10))=true:=decide_eq_true c11
            clear c11
            by_cases c12:(ji10) < (l1.length:Int)
            ·rw [if_pos c12] at H
             have c12b0:decide ((ji10) < (l1.length:Int))=true:=decide_eq_true c12
             clear c12
             obtain ⟨ji13,hji13⟩:∃ j_:Int,(IntKind.u64.wrap (wrap64 (7 - (Int.tmod x9_2 8))))=j_:=⟨_,rfl⟩
             replace H:(if 0≤(ji13) then (slipwayref01_Unpack.l1 k2 l0 l1 t324 x8_1 (wrap64 (x9_2 + 1)) x10_1 (Go.bits .or .u64 (IntKind.u64.wrap (x11_2 * 2)) (IntKind.u64.wrap (Go.bits .and .u8 (shr .u8 (rd l1 (ji10)) (ji13)) 1))) (wrap64 (x12_2 + 1))) else (none))=some (r1,r2):=by first|(rw [hji13] at H;exact H)|(simp only [hji13] at H ⊢;exact H)
             by_cases c14:0≤(ji13)
             ·rw [if_pos c14] at H
              have c14b0:=eq_true c14
              have c14b1:decide (0≤(ji13))=true:=decide_eq_true c14
              clear c14
              obtain ⟨ji15,hji15⟩:∃ j_:Int,(shr .u8 (rd l1 (ji10)) (ji13))=j_:=⟨_,rfl⟩
              replace H:(slipwayref01_Unpack.l1 k2 l0 l1 t324 x8_1 (wrap64 (x9_2 + 1)) x10_1 (Go.bits .or .u64 (IntKind.u64.wrap (x11_2 * 2)) (IntKind.u64.wrap (Go.bits .and .u8 (ji15) 1))) (wrap64 (x12_2 + 1)))=some (r1,r2):=by first|(rw [hji15] at H;exact H)|(simp only [hji15] at H ⊢;exact H)
              have hji15_:((rd l1 (ji10)) / 2 ^ min (ji13).toNat 8)=ji15:=hji15
              have hji15z:(ji13)≤8 → ((rd l1 (ji10)) / 2 ^ (ji13).toNat)=ji15:=shr_small hji15
              have H':=Aside0.mk H
              clear H
              have p326:0≤(x10_1:Int):=of_decide_eq_true (by first|(with_reducible assumption)|assumption)
              have q326:x10_1 < (l0.length:Int):=of_decide_eq_true (by first|(with_reducible assumption)|assumption)
              obtain ⟨ad326,e326,hx326_0⟩:=Kd.at_int HR0.out x10_1 p326 q326
              cases e326
              replace hx326_0:=(HB.out.cell (World.block_lt_of_cell? w _ hx326_0)).trans hx326_0
              replace p326:=eq_true p326
              replace q326:=eq_true q326
              have p327:0≤((ji10):Int):=of_decide_eq_true (by first|(with_reducible assumption)|assumption)
              have q327:(ji10) < (l1.length:Int):=of_decide_eq_true (by first|(with_reducible assumption)|assumption)
              obtain ⟨ad327,e327,hx327_0⟩:=Kd.at_int HR1.out (ji10) p327 q327
              cases e327
              replace hx327_0:=(HB.out.cell (World.block_lt_of_cell? w _ hx327_0)).trans hx327_0
              replace p327:=eq_true p327
              replace q327:=eq_true q327
              go_wp2
              go_roundg k2
              case measure=>have:=HK1.out;have:=HK2.out;omega
              case rel=>exact ⟨(wrap64 (x9_2 + 1)),(Go.bits .or .u64 (IntKind.u64.wrap (x11_2 * 2)) (IntKind.u64.wrap (Go.bits .and .u8 (ji15) 1))),(wrap64 (x12_2 + 1)),(by first|rfl|(simp;done)|(simp [*];done)),(by first|rfl|(simp;done)|(simp only [← hji15] <;> (first|rfl|simp))|(simp [*];done)),(by first|rfl|(simp;done)|(simp [*];done)),H',⟨by have:=HK1.out;have:=HK2.out;omega⟩,⟨by (with_reducible repeat (first|apply Kd.R_alloc|apply Kd.R_drewN|apply Kd.R_drew));exact HO_8.out⟩,⟨by repeat (first|(with_reducible first|exact HB.out|apply below_alloc|apply pw_below_drewN|apply below_drew1)|exact HB.out)⟩⟩
             ·rw [if_neg c14] at H
              exact absurd H (by simp)
            ·rw [if_neg c12] at H
             exact absurd H (by simp)
           ·rw [if_neg c11] at H
            exact absurd H (by simp)
          ·rw [if_neg c9] at H
           have c9b0:decide (x12_2 < (rd l0 x10_1))=false:=decide_eq_false c9
           clear c9
           by_cases c16:x8_1.length < 17592186044416
           ·rw [if_pos c16] at H
            have LMc16:=Aside0.mk c16
            clear c16
            obtain ⟨y328,hy328⟩:∃ y_:List Int,y_=(x8_1 ++ [x11_2]):=⟨_,rfl⟩
            replace H:(slipwayref01_Unpack.l0 k2 l0 l1 t324 y328 x9_2 (wrap64 (x10_1 + 1)))=some (r1,r2):=by first|(rw [hy328];with_reducible exact H)|(have H2_:=(Option.bind_some _ _).symm.trans H;rw [hy328];with_reducible exact H2_)|(have H2_:=(Option.bind_some _ _).symm.trans H;with_reducible exact H2_)|with_reducible exact H|(rw [hy328];exact H)|exact H
            have Ny328:=Aside0.mk hy328
            clear hy328
            have H':=Aside0.mk H
            clear H
            have p326:0≤(x10_1:Int):=of_decide_eq_true (by first|(with_reducible assumption)|assumption)
            have q326:x10_1 < (l0.length:Int):=of_decide_eq_true (by first|(with_reducible assumption)|assumption)
            obtain ⟨ad326,e326,hx326_0⟩:=Kd.at_int HR0.out x10_1 p326 q326
            cases e326
            replace hx326_0:=(HB.out.cell (World.block_lt_of_cell? w _ hx326_0)).trans hx326_0
            replace p326:=eq_true p326
            replace q326:=eq_true q326
            go_wp2_with (first|((with_reducible refine gate_builtin (b:=.append) (xs:=#[.tmp 56,.tmp 58]) rfl ?_);at_builtin;refine Kd.R_append (Kd.int .u64) (w0:=w) w.heap.size rfl (.tmp 56) (.tmp 58) 77 76 (.int .u64 0) 8 rfl Try.underlying77 info76 rfl (by decide) (by omega) u8 x8_1 x11_2 [.int .u64 x11_2] (fun _=>True) (fun _=>False) rfl rfl ?aP (fun _ hk=>hk.elim) ?aF ?aO ?aB ?aS ?aL ?_;(case aP=>exact rfl);(case aB=>exact (by repeat (first|(with_reducible first|exact HB.out|apply below_alloc|apply pw_below_drewN|apply below_drew1)|exact HB.out)));(case aF=>exact (fun _ _=>trivial));(case aO=>exact (by (with_reducible repeat (first|apply Kd.R_alloc|apply Kd.R_drewN|apply Kd.R_drew));exact HO_8.out));(case aS=>exact (below_size (by repeat (first|(with_reducible first|exact HB.out|apply below_alloc|apply pw_below_drewN|apply below_drew1)|exact HB.out))));(case aL=>have:=LMc16.out;omega);intro v329 w17 ho hb hg hat;rw [← Ny328.out] at ho;have n0_:=Aside0.mk (hb);have n1_:=Aside0.mk (ho);clear HB HO_8;have HB:=n0_;have HO330:=n1_;clear n0_ n1_;clear ho hb hg hat))
            go_roundg k2
            case measure=>have:=HK1.out;have:=HK2.out;omega
            case rel=>exact ⟨(y328),(x9_2),(wrap64 (x10_1 + 1)),(by first|rfl|(simp;done)|(simp [*];done)),(by first|rfl|(simp;done)|(simp [*];done)),H',⟨by have:=HK1.out;have:=HK2.out;omega⟩,⟨by (with_reducible repeat (first|apply Kd.R_alloc|apply Kd.R_drewN|apply Kd.R_drew));exact HO330.out⟩,⟨by repeat (first|(with_reducible first|exact HB.out|apply below_alloc|apply pw_below_drewN|apply below_drew1)|exact HB.out)⟩⟩
           ·rw [if_neg c16] at H
            exact absurd H (by simp)
         ·rw [if_neg c8] at H
          exact absurd H (by simp)
        ·rw [if_neg c7] at H
         exact absurd H (by simp)
     ·rw [if_neg c6] at H
      have c6b0:decide (x10_1 < (l0.length:Int))=false:=decide_eq_false c6
      clear c6
      have H':=Aside0.mk H
      clear H
      go_wp2
      go_loopg [9] k1 (fun kq v9 w'=>∃ (x9_2:Int),v9=.int .i64 x9_2∧Aside0 (slipwayref01_Unpack.l2 kq l1 t324 x8_1 x9_2=some (r1,r2))∧Aside0 (kq≤k1)∧Aside0 (Kd.R (Kd.int .u64) 76 w' w.heap.size (fun _=>True) u8 x8_1)∧Aside0 (Below w.heap.size w w'))
      case atStart=>exact ⟨(x9_1),(by first|rfl|(simp;done)|(simp [*];done)),H',⟨Nat.le_refl _⟩,⟨by (with_reducible repeat (first|apply Kd.R_alloc|apply Kd.R_drewN|apply Kd.R_drew));exact HO_8.out⟩,⟨by repeat (first|(with_reducible first|exact HB.out|apply below_alloc|apply pw_below_drewN|apply below_drew1)|exact HB.out)⟩⟩
      case round =>
       clear H'
       try clear c1
       try clear p2
       try clear p3
       try clear q3
       try clear hx3
       try clear c4
       try clear c4b0
       try clear c4b1
       try clear c5
       try clear c5b0
       try clear c5b1
       try clear c6
       try clear c6b0
       try clear p6
       try clear c7
       try clear c7b0
       try clear c8
       try clear c8b0
       try clear c9
       try clear c9b0
       try clear c11
       try clear c11b0
       try clear c12
       try clear c12b0
       try clear c14
       try clear c14b0
       try clear c14b1
       try clear c16
       try clear hx326_0
       try clear hx327_0
       try clear p2
       try clear p326
       try clear p327
       try clear q326
       try clear q327
       obtain ⟨x9_2,rfl,HA,HK2,HO_8,HB⟩:=hrel
       cases gk with
       | zero=>exact absurd HA.out (by simp [slipwayref01_Unpack.l2])
       | succ k2 =>
        have H:=HA.out
        clear HA
        simp only [slipwayref01_Unpack.l2] at H
        by_cases c18:x9_2 < (wrap64 (8 * t324))
        ·rw [if_pos c18] at H
         have c18b0:decide (x9_2 < (wrap64 (8 * t324)))=true:=decide_eq_true c18
         clear c18
         obtain ⟨ji19,hji19⟩:∃ j_:Int,(wrap64 (Int.tdiv x9_2 8))=j_:=⟨_,rfl⟩
         replace H:(if 0≤(ji19) then (if (ji19) < (l1.length:Int) then (if 0≤(IntKind.u64.wrap (wrap64 (7 - (Int.tmod x9_2 8)))) then (if (Go.bits .and .u8 (shr .u8 (rd l1 (ji19)) (IntKind.u64.wrap (wrap64 (7 - (Int.tmod x9_2 8))))) 1)=0 then (slipwayref01_Unpack.l2 k2 l1 t324 x8_1 (wrap64 (x9_2 + 1))) else (some (([]:List Int),1))) else (none)) else (none)) else (none))=some (r1,r2):=by first|(rw [hji19] at H;exact H)|(simp only [hji19] at H ⊢;exact H)
         have hji19w:(IntKind.i64.wrap (Int.tdiv x9_2 8))=ji19:=(i64_w _).trans hji19
         by_cases c20:0≤(ji19)
         ·rw [if_pos c20] at H
          have c20b0:decide (0≤(ji19))=true:=decide_eq_true c20
          clear c20
          by_cases c21:(ji19) < (l1.length:Int)
          ·rw [if_pos c21] at H
           have c21b0:decide ((ji19) < (l1.length:Int))=true:=decide_eq_true c21
           clear c21
           obtain ⟨ji22,hji22⟩:∃ j_:Int,(IntKind.u64.wrap (wrap64 (7 - (Int.tmod x9_2 8))))=j_:=⟨_,rfl⟩
           replace H:(if 0≤(ji22) then (if (Go.bits .and .u8 (shr .u8 (rd l1 (ji19)) (ji22)) 1)=0 then (slipwayref01_Unpack.l2 k2 l1 t324 x8_1 (wrap64 (x9_2 + 1))) else (some (([]:List Int),1))) else (none))=some (r1,r2):=by first|(rw [hji22] at H;exact H)|(simp only [hji22] at H ⊢;exact H)
           by_cases c23:0≤(ji22)
           ·rw [if_pos c23] at H
            have c23b0:=eq_true c23
            have c23b1:decide (0≤(ji22))=true:=decide_eq_true c23
            clear c23
            obtain ⟨ji24,hji24⟩:∃ j_:Int,(shr .u8 (rd l1 (ji19)) (ji22))=j_:=⟨_,rfl⟩
            replace H:(if (Go.bits .and .u8 (ji24) 1)=0 then (slipwayref01_Unpack.l2 k2 l1 t324 x8_1 (wrap64 (x9_2 + 1))) else (some (([]:List Int),1)))=some (r1,r2):=by first|(rw [hji24] at H;exact H)|(simp only [hji24] at H ⊢;exact H)
            have hji24_:((rd l1 (ji19)) / 2 ^ min (ji22).toNat 8)=ji24:=hji24
            have hji24z:(ji22)≤8 → ((rd l1 (ji19)) / 2 ^ (ji22).toNat)=ji24:=shr_small hji24
            by_cases c25:(Go.bits .and .u8 (ji24) 1)=0
            ·rw [if_pos c25] at H
             have c25b0:((Go.bits .and .u8 (ji24) 1) == 0)=true:=beq_iff_eq.mpr c25
             have c25b1:((Go.bits .and .u8 (ji24) 1) != 0)=false:=bne_eq_false_iff_eq.mpr c25
             clear c25
             have H':=Aside0.mk H
             clear H
             have p331:0≤((ji19):Int):=of_decide_eq_true (by first|(with_reducible assumption)|assumption)
             have q331:(ji19) < (l1.length:Int):=of_decide_eq_true (by first|(with_reducible assumption)|assumption)
             obtain ⟨ad331,e331,hx331_0⟩:=Kd.at_int HR1.out (ji19) p331 q331
             cases e331
             replace hx331_0:=(HB.out.cell (World.block_lt_of_cell? w _ hx331_0)).trans hx331_0
             replace p331:=eq_true p331
             replace q331:=eq_true q331
             go_wp2
             go_roundg k2
             case measure=>have:=HK1.out;have:=HK2.out;omega
             case rel=>exact ⟨(wrap64 (x9_2 + 1)),(by first|rfl|(simp;done)|(simp [*];done)),H',⟨by have:=HK1.out;have:=HK2.out;omega⟩,⟨by (with_reducible repeat (first|apply Kd.R_alloc|apply Kd.R_drewN|apply Kd.R_drew));exact HO_8.out⟩,⟨by repeat (first|(with_reducible first|exact HB.out|apply below_alloc|apply pw_below_drewN|apply below_drew1)|exact HB.out)⟩⟩
            ·rw [if_neg c25] at H
             have c25b0:((Go.bits .and .u8 (ji24) 1) == 0)=false:=beq_eq_false_iff_ne.mpr c25
             have c25b1:((Go.bits .and .u8 (ji24) 1) != 0)=true:=bne_iff_ne.mpr c25
             simp only [Option.some.injEq,Prod.mk.injEq] at H
             obtain ⟨rfl,rfl⟩:=H
             have p331:0≤((ji19):Int):=of_decide_eq_true (by first|(with_reducible assumption)|assumption)
             have q331:(ji19) < (l1.length:Int):=of_decide_eq_true (by first|(with_reducible assumption)|assumption)
             obtain ⟨ad331,e331,hx331_0⟩:=Kd.at_int HR1.out (ji19) p331 q331
             cases e331
             replace hx331_0:=(HB.out.cell (World.block_lt_of_cell? w _ hx331_0)).trans hx331_0
             replace p331:=eq_true p331
             replace q331:=eq_true q331
             go_wp2
             go_ret2
             exact ⟨_,by first|rfl|(simp [errW_none,errW_some] <;> rfl)|(simp only [← hji19,← hji22,← hji24];first|rfl|(simp [errW_none,errW_some] <;> rfl))|(simp [*,errW_none,errW_some] <;> rfl),by first|exact Kd.R_nil _ _ _ _ _|exact Kd.N_nil _ _ _ _ _|exact Kd.V_nil _ _ _ _ _|exact Kd.Q_nil _ _ _ _ _|exact Kd.S_nil _ _ _ _ _,by repeat (first|(with_reducible first|exact HB.out|apply below_alloc|apply pw_below_drewN|apply below_drew1)|exact HB.out)⟩
           ·rw [if_neg c23] at H
            exact absurd H (by simp)
          ·rw [if_neg c21] at H
           exact absurd H (by simp)
         ·rw [if_neg c20] at H
          exact absurd H (by simp)
        ·rw [if_neg c18] at H
         have c18b0:decide (x9_2 < (wrap64 (8 * t324)))=false:=decide_eq_false c18
         clear c18
         simp only [Option.some.injEq,Prod.mk.injEq] at H
         obtain ⟨rfl,rfl⟩:=H
         go_wp2
         go_ret2
         exact ⟨_,by first|rfl|(simp [errW_none,errW_some] <;> rfl)|(simp [*,errW_none,errW_some] <;> rfl),by (with_reducible repeat (first|apply Kd.R_alloc|apply Kd.R_drewN|apply Kd.R_drew));exact HO_8.out,by repeat (first|(with_reducible first|exact HB.out|apply below_alloc|apply pw_below_drewN|apply below_drew1)|exact HB.out)⟩
  ·rw [if_neg c5] at H
   have c5b0:((l1.length:Int) == t324)=false:=beq_eq_false_iff_ne.mpr c5
   have c5b1:((l1.length:Int) != t324)=true:=bne_iff_ne.mpr c5
   simp only [Option.some.injEq,Prod.mk.injEq] at H
   obtain ⟨rfl,rfl⟩:=H
   go_enter Try.func52,Try.ntmps52
   go_wp2_with (first|((with_reducible refine gate_callee (f:=61) rfl ?_);refine goesL_ (some 15) rfl rfl Try.func61 (by kernel_rfl) rfl #[.slice A0 l0.length c0] rfl (by (try simp only [List.map_toArray,List.map_cons,List.map_nil]);first|done|rfl|(simp only [List.length_drop,List.length_take];rfl)) ?_;(with_reducible refine (slipwayref01_Width.calls k _ _ l0 t324 t325 _ ?side1 ?side2 A3.out).mono ?_);(case side1=>repeat (first|exact HR0.out|(with_reducible refine Kd.C_alloc ?_ _)|(with_reducible refine Kd.C_drewN ?_ _)|(with_reducible refine Kd.C_drew ?_)));(case side2=>exact HC0.out);rintro e w' ⟨rfl,⟨nd,rfl⟩⟩;refine ⟨_,rfl,?_⟩))
   go_ret2
   exact ⟨_,by first|rfl|(simp [errW_none,errW_some] <;> rfl)|(simp [*,errW_none,errW_some] <;> rfl),by first|exact Kd.R_nil _ _ _ _ _|exact Kd.N_nil _ _ _ _ _|exact Kd.V_nil _ _ _ _ _|exact Kd.Q_nil _ _ _ _ _|exact Kd.S_nil _ _ _ _ _,by repeat (first|(with_reducible first|exact HB.out|apply below_alloc|apply pw_below_drewN|apply below_drew1)|exact HB.out)⟩
 ·rw [if_neg c4] at H
  have c4b0:(t325 == 0)=false:=beq_eq_false_iff_ne.mpr c4
  have c4b1:(t325 != 0)=true:=bne_iff_ne.mpr c4
  simp only [Option.some.injEq,Prod.mk.injEq] at H
  obtain ⟨rfl,rfl⟩:=H
  go_enter Try.func52,Try.ntmps52
  go_wp2_with (first|((with_reducible refine gate_callee (f:=61) rfl ?_);refine goesL_ (some 15) rfl rfl Try.func61 (by kernel_rfl) rfl #[.slice A0 l0.length c0] rfl (by (try simp only [List.map_toArray,List.map_cons,List.map_nil]);first|done|rfl|(simp only [List.length_drop,List.length_take];rfl)) ?_;(with_reducible refine (slipwayref01_Width.calls k _ _ l0 t324 t325 _ ?side1 ?side2 A3.out).mono ?_);(case side1=>repeat (first|exact HR0.out|(with_reducible refine Kd.C_alloc ?_ _)|(with_reducible refine Kd.C_drewN ?_ _)|(with_reducible refine Kd.C_drew ?_)));(case side2=>exact HC0.out);rintro e w' ⟨rfl,⟨nd,rfl⟩⟩;refine ⟨_,rfl,?_⟩))
  go_ret2
  exact ⟨_,by first|rfl|(simp [errW_none,errW_some] <;> rfl)|(simp [*,errW_none,errW_some] <;> rfl),by first|exact Kd.R_nil _ _ _ _ _|exact Kd.N_nil _ _ _ _ _|exact Kd.V_nil _ _ _ _ _|exact Kd.Q_nil _ _ _ _ _|exact Kd.S_nil _ _ _ _ _,by repeat (first|(with_reducible first|exact HB.out|apply below_alloc|apply pw_below_drewN|apply below_drew1)|exact HB.out)⟩
end Go.Proofs.Ytbdnmdmfnopihaa.Print
end
section
namespace Go.Proofs.Ytbdnmdmfnopihaa.Print
open Go.RowKit Go.Proofs.YtbdnmdmfnopihaaW.PrintWords Go.Proofs.YtbdnmdmfnopihaaW.PrintLast Go.Proofs.YtbdnmdmfnopihaaW.PrintMore
attribute [local go_sem] max2_int min2_int max_two min_two max_three min_three max_four min_four   -- for this text's walks alone
attribute [local go_sem ↓] Go.Proofs.Ytbdnmdmfnopihaa.Sem.isSome_setCell
attribute [local go_sem] Go.Instr.field Go.asAgg
set_option linter.unusedVariables false
set_option linter.unusedSimpArgs false
attribute [local go_sem high] eqA57
def bytes_Equal.f (l0:List Int) (l1:List Int):Option (Bool):=some ((strOfNums l0).toList == (strOfNums l1).toList)
set_option maxHeartbeats 8000000 in
set_option maxRecDepth 100000 in
theorem bytes_Equal.calls (A0:Option Addr) (c0:Nat) (l0:List Int) (A1:Option Addr) (c1:Nat) (l1:List Int) (r:Bool) (w:World) (hr0:Kd.C (Kd.int .u8) w A0 l0.length l0) (hc0:l0.length≤c0) (hr1:Kd.C (Kd.int .u8) w A1 l1.length l1) (hc1:l1.length≤c1) (h:bytes_Equal.f l0 l1=some r) :
  Calls Try.prog 33 #[.slice A0 l0.length c0,.slice A1 l1.length c1] w fun e w'=>e=.returned (.bool r)∧Drawn0 w w':=by
 have HR0:=Aside0.mk hr0
 have HC0:=Aside0.mk hc0
 clear hr0 hc0
 have HR1:=Aside0.mk hr1
 have HC1:=Aside0.mk hc1
 clear hr1 hc1
 have H:(some ((strOfNums l0).toList == (strOfNums l1).toList))=some r:=h
 clear h
 obtain rfl:=Option.some.inj H
 have hcv3:=Kd.C_string (P:=Try.prog) (A:=A0) (c:=c0) Try.underlying48 Try.underlying5 Try.underlying9 HR0.out
 have hcv4:=Kd.C_string (P:=Try.prog) (A:=A1) (c:=c1) Try.underlying48 Try.underlying5 Try.underlying9 HR1.out
 go_enter Try.func33,Try.ntmps33
 go_wp2
 go_ret
 exact ⟨by first|rfl|(simp;done)|(simp [*];done),by repeat (first|exact Drawn0.refl _|apply Drawn0.step)⟩
end Go.Proofs.Ytbdnmdmfnopihaa.Print
end
section
namespace Go.Proofs.Ytbdnmdmfnopihaa.Print
open Go.RowKit Go.Proofs.YtbdnmdmfnopihaaW.PrintWords Go.Proofs.YtbdnmdmfnopihaaW.PrintLast Go.Proofs.YtbdnmdmfnopihaaW.PrintMore
attribute [local go_sem] max2_int min2_int max_two min_two max_three min_three max_four min_four   -- for this text's walks alone
attribute [local go_sem ↓] Go.Proofs.Ytbdnmdmfnopihaa.Sem.isSome_setCell
attribute [local go_sem] Go.Instr.field Go.asAgg
set_option linter.unusedVariables false
set_option linter.unusedSimpArgs false
def slipwayref11_Groups.f (k:Nat) (a0_0:Int) (a0_1:Int):Option (Int):=(slipwayref11_Check.f k a0_0 a0_1).bind fun t149=>(if t149=0 then ((slipwayref11_groups.f a0_0).bind fun t150=>(some t150)) else (some 0))
set_option maxHeartbeats 8000000 in
set_option maxRecDepth 100000 in
theorem slipwayref11_Groups.calls (k:Nat) (a0_0:Int) (a0_1:Int) (r:Int) (w:World) (h:slipwayref11_Groups.f k a0_0 a0_1=some r) :
  Calls Try.prog 18 #[.agg #[.int .i64 a0_0,.int .i64 a0_1]] w fun e w'=>e=.returned (.int .i64 r)∧Below w.heap.size w w':=by
 have hu24:=Try.underlying24
 have HB:=Aside0.mk (Below.refl w.heap.size w)
 have H:((slipwayref11_Check.f k a0_0 a0_1).bind fun t149=>(if t149=0 then ((slipwayref11_groups.f a0_0).bind fun t150=>(some t150)) else (some 0)))=some r:=h
 clear h
 replace H:=Option.bind_eq_some_iff.mp H
 obtain ⟨t149,A20,H⟩:=H
 replace H:(if t149=0 then ((slipwayref11_groups.f a0_0).bind fun t150=>(some t150)) else (some 0))=some r:=H
 have A2:=Aside0.mk A20
 clear A20
 by_cases c3:t149=0
 ·rw [if_pos c3] at H
  have c3b0:(t149 == 0)=true:=beq_iff_eq.mpr c3
  have c3b1:(t149 != 0)=false:=bne_eq_false_iff_eq.mpr c3
  clear c3
  replace H:=Option.bind_eq_some_iff.mp H
  obtain ⟨t150,A40,H⟩:=H
  replace H:(some t150)=some r:=H
  have A4:=Aside0.mk A40
  clear A40
  obtain rfl:=Option.some.inj H
  go_enter Try.func18,Try.ntmps18
  go_wp2_with (first|((with_reducible refine gate_dst (N:=1) rfl ?_);refine box_event ?hg (N:=1) ?hd (cs:=#[.int .i64 a0_0,.int .i64 a0_1]) (t:=24) ?hr ?_;(case hd=>rfl);(case hg=>rfl);(case hr=>first|(go_simp;done)|(go_simp;rfl));intro gb148 hg w5 hbox hb;have n0_:=Aside0.mk (below_step (by repeat (first|(with_reducible first|exact HB.out|apply below_alloc|apply pw_below_drewN|apply below_drew1)|exact HB.out)) hb);have n1_:=Aside0.mk (hbox);have n2_:=Aside0.mk ((by rw [hg];exact (below_size (by repeat (first|(with_reducible first|exact HB.out|apply below_alloc|apply pw_below_drewN|apply below_drew1)|exact HB.out))):w.heap.size≤gb148));have n3_:=Aside0.mk ((by rw [hg];exact (below_size (by repeat (first|(with_reducible first|exact HB.out|apply below_alloc|apply pw_below_drewN|apply below_drew1)|exact HB.out))):w.heap.size≤gb148));clear HB;have HB:=n0_;have BK148:=n1_;have GW148:=n2_;have GE148:=n3_;clear n0_ n1_ n2_ n3_;clear hb hbox hg;have hcz6_0:w5.cell? ⟨gb148,0,none⟩=some (.int .i64 a0_0):=(blk_cell BK148.out 0).trans rfl;have hcz6_1:w5.cell? ⟨gb148,1,none⟩=some (.int .i64 a0_1):=(blk_cell BK148.out 1).trans rfl;have hfz6_0:=blk_frozen BK148.out 0;have hfz6_1:=blk_frozen BK148.out 1)|((with_reducible refine gate_callee (f:=16) rfl ?_);refine goesL_ (some 4) rfl rfl Try.func16 (by kernel_rfl) rfl #[.agg #[.int .i64 a0_0,.int .i64 a0_1]] rfl (by (try simp only [List.map_toArray,List.map_cons,List.map_nil]);first|done|rfl|(simp only [List.length_drop,List.length_take];rfl)) ?_;(with_reducible refine (slipwayref11_Check.calls k a0_0 a0_1 t149 _ A2.out).mono ?_);rintro e w7 ⟨rfl,hb⟩;refine ⟨_,rfl,?_⟩;have n0_:=Aside0.mk (blk_below (g:=gb148) (o:=.cells #[.int .i64 a0_0,.int .i64 a0_1] 24 (0,0)) (by (with_reducible repeat (first|refine blk_drewN ?_ _|refine blk_drew ?_|refine blk_alloc ?_ _));exact BK148.out) hb);have n1_:=Aside0.mk (below_step (by repeat (first|(with_reducible first|exact HB.out|apply below_alloc|apply pw_below_drewN|apply below_drew1|refine below_set ?_ GE148.out)|exact HB.out)) hb);clear BK148 HB;have BK148:=n0_;have HB:=n1_;clear n0_ n1_;(try clear hb);(try clear hb2);(try clear hk);(try clear hi);have hcz8_0:w7.cell? ⟨gb148,0,none⟩=some (.int .i64 a0_0):=(blk_cell BK148.out 0).trans rfl;have hcz8_1:w7.cell? ⟨gb148,1,none⟩=some (.int .i64 a0_1):=(blk_cell BK148.out 1).trans rfl;have hfz8_0:=blk_frozen BK148.out 0;have hfz8_1:=blk_frozen BK148.out 1)|((with_reducible refine gate_callee (f:=46) rfl ?_);refine goesL_ (some 8) rfl rfl Try.func46 (by kernel_rfl) rfl #[.int .i64 a0_0] rfl (by (try simp only [List.map_toArray,List.map_cons,List.map_nil]);first|done|rfl|(simp only [List.length_drop,List.length_take];rfl)) ?_;(with_reducible refine (slipwayref11_groups.calls a0_0 t150 _ A4.out).mono ?_);rintro e w' ⟨rfl,⟨nd,rfl⟩⟩;refine ⟨_,rfl,?_⟩))
  go_ret
  exact ⟨by first|rfl|(simp [errW_none,errW_some] <;> rfl)|(simp [*,errW_none,errW_some] <;> rfl),by repeat (first|(with_reducible first|exact HB.out|apply below_alloc|apply pw_below_drewN|apply below_drew1|refine below_set ?_ GE148.out)|exact HB.out)⟩
 ·rw [if_neg c3] at H
  have c3b0:(t149 == 0)=false:=beq_eq_false_iff_ne.mpr c3
  have c3b1:(t149 != 0)=true:=bne_iff_ne.mpr c3
  obtain rfl:=Option.some.inj H
  go_enter Try.func18,Try.ntmps18
  go_wp2_with (first|((with_reducible refine gate_dst (N:=1) rfl ?_);refine box_event ?hg (N:=1) ?hd (cs:=#[.int .i64 a0_0,.int .i64 a0_1]) (t:=24) ?hr ?_;(case hd=>rfl);(case hg=>rfl);(case hr=>first|(go_simp;done)|(go_simp;rfl));intro gb148 hg w9 hbox hb;have n0_:=Aside0.mk (below_step (by repeat (first|(with_reducible first|exact HB.out|apply below_alloc|apply pw_below_drewN|apply below_drew1)|exact HB.out)) hb);have n1_:=Aside0.mk (hbox);have n2_:=Aside0.mk ((by rw [hg];exact (below_size (by repeat (first|(with_reducible first|exact HB.out|apply below_alloc|apply pw_below_drewN|apply below_drew1)|exact HB.out))):w.heap.size≤gb148));have n3_:=Aside0.mk ((by rw [hg];exact (below_size (by repeat (first|(with_reducible first|exact HB.out|apply below_alloc|apply pw_below_drewN|apply below_drew1)|exact HB.out))):w.heap.size≤gb148));clear HB;have HB:=n0_;have BK148:=n1_;have GW148:=n2_;have GE148:=n3_;clear n0_ n1_ n2_ n3_;clear hb hbox hg;have hcz10_0:w9.cell? ⟨gb148,0,none⟩=some (.int .i64 a0_0):=(blk_cell BK148.out 0).trans rfl;have hcz10_1:w9.cell? ⟨gb148,1,none⟩=some (.int .i64 a0_1):=(blk_cell BK148.out 1).trans rfl;have hfz10_0:=blk_frozen BK148.out 0;have hfz10_1:=blk_frozen BK148.out 1)|((with_reducible refine gate_callee (f:=16) rfl ?_);refine goesL_ (some 4) rfl rfl Try.func16 (by kernel_rfl) rfl #[.agg #[.int .i64 a0_0,.int .i64 a0_1]] rfl (by (try simp only [List.map_toArray,List.map_cons,List.map_nil]);first|done|rfl|(simp only [List.length_drop,List.length_take];rfl)) ?_;(with_reducible refine (slipwayref11_Check.calls k a0_0 a0_1 t149 _ A2.out).mono ?_);rintro e w11 ⟨rfl,hb⟩;refine ⟨_,rfl,?_⟩;have n0_:=Aside0.mk (blk_below (g:=gb148) (o:=.cells #[.int .i64 a0_0,.int .i64 a0_1] 24 (0,0)) (by (with_reducible repeat (first|refine blk_drewN ?_ _|refine blk_drew ?_|refine blk_alloc ?_ _));exact BK148.out) hb);have n1_:=Aside0.mk (below_step (by repeat (first|(with_reducible first|exact HB.out|apply below_alloc|apply pw_below_drewN|apply below_drew1|refine below_set ?_ GE148.out)|exact HB.out)) hb);clear BK148 HB;have BK148:=n0_;have HB:=n1_;clear n0_ n1_;(try clear hb);(try clear hb2);(try clear hk);(try clear hi)))
  go_ret
  exact ⟨by first|rfl|(simp [errW_none,errW_some] <;> rfl)|(simp [*,errW_none,errW_some] <;> rfl),by repeat (first|(with_reducible first|exact HB.out|apply below_alloc|apply pw_below_drewN|apply below_drew1|refine below_set ?_ GE148.out)|exact HB.out)⟩
end Go.Proofs.Ytbdnmdmfnopihaa.Print
end
section
namespace Go.Proofs.Ytbdnmdmfnopihaa.Print
open Go.RowKit Go.Proofs.YtbdnmdmfnopihaaW.PrintWords Go.Proofs.YtbdnmdmfnopihaaW.PrintLast Go.Proofs.YtbdnmdmfnopihaaW.PrintMore
attribute [local go_sem] max2_int min2_int max_two min_two max_three min_three max_four min_four   -- for this text's walks alone
attribute [local go_sem ↓] Go.Proofs.Ytbdnmdmfnopihaa.Sem.isSome_setCell
attribute [local go_sem] Go.Instr.field Go.asAgg
set_option linter.unusedVariables false
set_option linter.unusedSimpArgs false
def layout_Inodes.f (k:Nat) (a0_0:Int) (a0_1:Int):Option (Int):=(layout_Groups.f k a0_0 a0_1).bind fun t178=>(some (wrap64 (t178 * 16)))
set_option maxHeartbeats 8000000 in
set_option maxRecDepth 100000 in
theorem layout_Inodes.calls (k:Nat) (a0_0:Int) (a0_1:Int) (r:Int) (w:World) (h:layout_Inodes.f k a0_0 a0_1=some r) :
  Calls Try.prog 23 #[.agg #[.int .i64 a0_0,.int .i64 a0_1]] w fun e w'=>e=.returned (.int .i64 r)∧Below w.heap.size w w':=by
 have hu24:=Try.underlying24
 have HB:=Aside0.mk (Below.refl w.heap.size w)
 have H:((layout_Groups.f k a0_0 a0_1).bind fun t178=>(some (wrap64 (t178 * 16))))=some r:=h
 clear h
 replace H:=Option.bind_eq_some_iff.mp H
 obtain ⟨t178,A20,H⟩:=H
 replace H:(some (wrap64 (t178 * 16)))=some r:=H
 have A2:=Aside0.mk A20
 clear A20
 obtain rfl:=Option.some.inj H
 go_enter Try.func23,Try.ntmps23
 go_wp2_with (first|((with_reducible refine gate_dst (N:=1) rfl ?_);refine box_event ?hg (N:=1) ?hd (cs:=#[.int .i64 a0_0,.int .i64 a0_1]) (t:=24) ?hr ?_;(case hd=>rfl);(case hg=>rfl);(case hr=>first|(go_simp;done)|(go_simp;rfl));intro gb177 hg w3 hbox hb;have n0_:=Aside0.mk (below_step (by repeat (first|(with_reducible first|exact HB.out|apply below_alloc|apply pw_below_drewN|apply below_drew1)|exact HB.out)) hb);have n1_:=Aside0.mk (hbox);have n2_:=Aside0.mk ((by rw [hg];exact (below_size (by repeat (first|(with_reducible first|exact HB.out|apply below_alloc|apply pw_below_drewN|apply below_drew1)|exact HB.out))):w.heap.size≤gb177));have n3_:=Aside0.mk ((by rw [hg];exact (below_size (by repeat (first|(with_reducible first|exact HB.out|apply below_alloc|apply pw_below_drewN|apply below_drew1)|exact HB.out))):w.heap.size≤gb177));clear HB;have HB:=n0_;have BK177:=n1_;have GW177:=n2_;have GE177:=n3_;clear n0_ n1_ n2_ n3_;clear hb hbox hg;have hcz4_0:w3.cell? ⟨gb177,0,none⟩=some (.int .i64 a0_0):=(blk_cell BK177.out 0).trans rfl;have hcz4_1:w3.cell? ⟨gb177,1,none⟩=some (.int .i64 a0_1):=(blk_cell BK177.out 1).trans rfl;have hfz4_0:=blk_frozen BK177.out 0;have hfz4_1:=blk_frozen BK177.out 1)|((with_reducible refine gate_callee (f:=17) rfl ?_);refine goesL_ (some 4) rfl rfl Try.func17 (by kernel_rfl) rfl #[.agg #[.int .i64 a0_0,.int .i64 a0_1]] rfl (by (try simp only [List.map_toArray,List.map_cons,List.map_nil]);first|done|rfl|(simp only [List.length_drop,List.length_take];rfl)) ?_;(with_reducible refine (layout_Groups.calls k a0_0 a0_1 t178 _ A2.out).mono ?_);rintro e w5 ⟨rfl,hb⟩;refine ⟨_,rfl,?_⟩;have n0_:=Aside0.mk (blk_below (g:=gb177) (o:=.cells #[.int .i64 a0_0,.int .i64 a0_1] 24 (0,0)) (by (with_reducible repeat (first|refine blk_drewN ?_ _|refine blk_drew ?_|refine blk_alloc ?_ _));exact BK177.out) hb);have n1_:=Aside0.mk (below_step (by repeat (first|(with_reducible first|exact HB.out|apply below_alloc|apply pw_below_drewN|apply below_drew1|refine below_set ?_ GE177.out)|exact HB.out)) hb);clear BK177 HB;have BK177:=n0_;have HB:=n1_;clear n0_ n1_;(try clear hb);(try clear hb2);(try clear hk);(try clear hi)))
 go_ret
 exact ⟨by first|rfl|(simp [errW_none,errW_some] <;> rfl)|(simp [*,errW_none,errW_some] <;> rfl),by repeat (first|(with_reducible first|exact HB.out|apply below_alloc|apply pw_below_drewN|apply below_drew1|refine below_set ?_ GE177.out)|exact HB.out)⟩
def slipwayref11_Inodes.f (k:Nat) (a0_0:Int) (a0_1:Int):Option (Int):=(slipwayref11_Groups.f k a0_0 a0_1).bind fun t180=>(some (wrap64 (t180 * 16)))
set_option maxHeartbeats 8000000 in
set_option maxRecDepth 100000 in
theorem slipwayref11_Inodes.calls (k:Nat) (a0_0:Int) (a0_1:Int) (r:Int) (w:World) (h:slipwayref11_Inodes.f k a0_0 a0_1=some r) :
  Calls Try.prog 24 #[.agg #[.int .i64 a0_0,.int .i64 a0_1]] w fun e w'=>e=.returned (.int .i64 r)∧Below w.heap.size w w':=by
 have hu24:=Try.underlying24
 have HB:=Aside0.mk (Below.refl w.heap.size w)
 have H:((slipwayref11_Groups.f k a0_0 a0_1).bind fun t180=>(some (wrap64 (t180 * 16))))=some r:=h
 clear h
 replace H:=Option.bind_eq_some_iff.mp H
 obtain ⟨t180,A20,H⟩:=H
 replace H:(some (wrap64 (t180 * 16)))=some r:=H
 have A2:=Aside0.mk A20
 clear A20
 obtain rfl:=Option.some.inj H
 go_enter Try.func24,Try.ntmps24
 go_wp2_with (first|((with_reducible refine gate_dst (N:=1) rfl ?_);refine box_event ?hg (N:=1) ?hd (cs:=#[.int .i64 a0_0,.int .i64 a0_1]) (t:=24) ?hr ?_;(case hd=>rfl);(case hg=>rfl);(case hr=>first|(go_simp;done)|(go_simp;rfl));intro gb179 hg w3 hbox hb;have n0_:=Aside0.mk (below_step (by repeat (first|(with_reducible first|exact HB.out|apply below_alloc|apply pw_below_drewN|apply below_drew1)|exact HB.out)) hb);have n1_:=Aside0.mk (hbox);have n2_:=Aside0.mk ((by rw [hg];exact (below_size (by repeat (first|(with_reducible first|exact HB.out|apply below_alloc|apply pw_below_drewN|apply below_drew1)|exact HB.out))):w.heap.size≤gb179));have n3_:=Aside0.mk ((by rw [hg];exact (below_size (by repeat (first|(with_reducible first|exact HB.out|apply below_alloc|apply pw_below_drewN|apply below_drew1)|exact HB.out))):w.heap.size≤gb179));clear HB;have HB:=n0_;have BK179:=n1_;have GW179:=n2_;have GE179:=n3_;clear n0_ n1_ n2_ n3_;clear hb hbox hg;have hcz4_0:w3.cell? ⟨gb179,0,none⟩=some (.int .i64 a0_0):=(blk_cell BK179.out 0).trans rfl;have hcz4_1:w3.cell? ⟨gb179,1,none⟩=some (.int .i64 a0_1):=(blk_cell BK179.out 1).trans rfl;have hfz4_0:=blk_frozen BK179.out 0;have hfz4_1:=blk_frozen BK179.out 1)|((with_reducible refine gate_callee (f:=18) rfl ?_);refine goesL_ (some 4) rfl rfl Try.func18 (by kernel_rfl) rfl #[.agg #[.int .i64 a0_0,.int .i64 a0_1]] rfl (by (try simp only [List.map_toArray,List.map_cons,List.map_nil]);first|done|rfl|(simp only [List.length_drop,List.length_take];rfl)) ?_;(with_reducible refine (slipwayref11_Groups.calls k a0_0 a0_1 t180 _ A2.out).mono ?_);rintro e w5 ⟨rfl,hb⟩;refine ⟨_,rfl,?_⟩;have n0_:=Aside0.mk (blk_below (g:=gb179) (o:=.cells #[.int .i64 a0_0,.int .i64 a0_1] 24 (0,0)) (by (with_reducible repeat (first|refine blk_drewN ?_ _|refine blk_drew ?_|refine blk_alloc ?_ _));exact BK179.out) hb);have n1_:=Aside0.mk (below_step (by repeat (first|(with_reducible first|exact HB.out|apply below_alloc|apply pw_below_drewN|apply below_drew1|refine below_set ?_ GE179.out)|exact HB.out)) hb);clear BK179 HB;have BK179:=n0_;have HB:=n1_;clear n0_ n1_;(try clear hb);(try clear hb2);(try clear hk);(try clear hi)))
 go_ret
 exact ⟨by first|rfl|(simp [errW_none,errW_some] <;> rfl)|(simp [*,errW_none,errW_some] <;> rfl),by repeat (first|(with_reducible first|exact HB.out|apply below_alloc|apply pw_below_drewN|apply below_drew1|refine below_set ?_ GE179.out)|exact HB.out)⟩
end Go.Proofs.Ytbdnmdmfnopihaa.Print
end
section
namespace Go.Proofs.Ytbdnmdmfnopihaa.Print
open Go.RowKit Go.Proofs.YtbdnmdmfnopihaaW.PrintWords Go.Proofs.YtbdnmdmfnopihaaW.PrintLast Go.Proofs.YtbdnmdmfnopihaaW.PrintMore
attribute [local go_sem] max2_int min2_int max_two min_two max_three min_three max_four min_four   -- for this text's walks alone
attribute [local go_sem ↓] Go.Proofs.Ytbdnmdmfnopihaa.Sem.isSome_setCell
attribute [local go_sem] Go.Instr.field Go.asAgg
set_option linter.unusedVariables false
set_option linter.unusedSimpArgs false
-- NOT PRINTED: function 7 (slipwaylaw11_LayoutAsks)
def seal_total.l0:Nat → Int → List Int → Int → Int → Option (Int × Int)
 | 0,_,_,_,_=>none
 | k + 1,x4,x10,x11,x12=>if x12 < x11 then (if 0≤x12 then (if x12 < (x10.length:Int) then (if (rd x10 x12) < 1 then (some (0,1)) else (if (rd x10 x12) > 64 then (some (0,1)) else (seal_total.l0 k (wrap64 (x4 + (rd x10 x12))) x10 x11 (wrap64 (x12 + 1))))) else (none)) else (none)) else (some (x4,0))
def seal_total.f (k:Nat) (l0:List Int):Option (Int × Int):=if (l0.length:Int) > 64 then (some (0,1)) else (seal_total.l0 k 0 l0 (l0.length:Int) 0)
set_option maxHeartbeats 8000000 in
set_option maxRecDepth 100000 in
theorem seal_total.calls (k:Nat) (A0:Option Addr) (c0:Nat) (l0:List Int) (r1:Int) (r2:Int) (w:World) (hr0:Kd.C (Kd.int .i64) w A0 l0.length l0) (hc0:l0.length≤c0) (h:seal_total.f k l0=some (r1,r2)) :
  Calls Try.prog 66 #[.slice A0 l0.length c0] w fun e w'=>e=.returned (.tuple #[.int .i64 r1,.int .i64 r2])∧Drawn0 w w':=by
 have HR0:=Aside0.mk hr0
 have HC0:=Aside0.mk hc0
 clear hr0 hc0
 have H:(if (l0.length:Int) > 64 then (some (0,1)) else (seal_total.l0 k 0 l0 (l0.length:Int) 0))=some (r1,r2):=h
 clear h
 by_cases c2:(l0.length:Int) > 64
 ·rw [if_pos c2] at H
  have c2b0:decide (64 < (l0.length:Int))=true:=decide_eq_true c2
  have c2b1:decide (64 < l0.length)=true:=decide_eq_true (by omega)
  clear c2
  simp only [Option.some.injEq,Prod.mk.injEq] at H
  obtain ⟨rfl,rfl⟩:=H
  go_enter Try.func66,Try.ntmps66
  go_wp2
  go_ret2
  exact ⟨by first|rfl|(simp;done)|(simp [*];done),by repeat (first|exact Drawn0.refl _|apply Drawn0.step)⟩
 ·rw [if_neg c2] at H
  have c2b0:decide (64 < (l0.length:Int))=false:=decide_eq_false c2
  have c2b1:decide (64 < l0.length)=false:=decide_eq_false (by omega)
  clear c2
  have H':=Aside0.mk H
  clear H
  go_enter Try.func66,Try.ntmps66
  go_wp2
  go_loopg [4,12] k (fun kq v4 v12 w'=>∃ (x4_1:Int) (x12_1:Int),v4=.int .i64 x4_1∧v12=.int .i64 x12_1∧Aside0 (seal_total.l0 kq x4_1 l0 (l0.length:Int) x12_1=some (r1,r2))∧Aside0 (kq≤k)∧Drawn0 w w')
  case atStart=>exact ⟨(0),(0),(by first|rfl|(simp;done)|(simp [*];done)),(by first|rfl|(simp;done)|(simp [*];done)),H',⟨Nat.le_refl _⟩,by repeat (first|exact Drawn0.refl _|apply Drawn0.step)⟩
  case round =>
   clear H'
   try clear c2
   try clear c2b0
   try clear c2b1
   try clear p2
   obtain ⟨x4_1,x12_1,rfl,rfl,HA,HK1,⟨m1,rfl⟩⟩:=hrel
   cases gk with
   | zero=>exact absurd HA.out (by simp [seal_total.l0])
   | succ k1 =>
    have H:=HA.out
    clear HA
    simp only [seal_total.l0] at H
    by_cases c3:x12_1 < (l0.length:Int)
    ·rw [if_pos c3] at H
     have c3b0:decide (x12_1 < (l0.length:Int))=true:=decide_eq_true c3
     clear c3
     by_cases c4:0≤x12_1
     ·rw [if_pos c4] at H
      have c4b0:decide (0≤x12_1)=true:=decide_eq_true c4
      clear c4
      by_cases c5:x12_1 < (l0.length:Int)
      ·rw [if_pos c5] at H
       have c5b0:decide (x12_1 < (l0.length:Int))=true:=decide_eq_true c5
       clear c5
       by_cases c6:(rd l0 x12_1) < 1
       ·rw [if_pos c6] at H
        have c6b0:decide ((rd l0 x12_1) < 1)=true:=decide_eq_true c6
        clear c6
        simp only [Option.some.injEq,Prod.mk.injEq] at H
        obtain ⟨rfl,rfl⟩:=H
        have p413:0≤(x12_1:Int):=of_decide_eq_true (by first|(with_reducible assumption)|assumption)
        have q413:x12_1 < (l0.length:Int):=of_decide_eq_true (by first|(with_reducible assumption)|assumption)
        obtain ⟨ad413,e413,hx413_0⟩:=Kd.at_int HR0.out x12_1 p413 q413
        cases e413
        replace p413:=eq_true p413
        replace q413:=eq_true q413
        go_wp2
        go_ret2
        exact ⟨by first|rfl|(simp;done)|(simp [*];done),by repeat (first|exact Drawn0.refl _|apply Drawn0.step)⟩
       ·rw [if_neg c6] at H
        have c6b0:decide ((rd l0 x12_1) < 1)=false:=decide_eq_false c6
        clear c6
        by_cases c7:(rd l0 x12_1) > 64
        ·rw [if_pos c7] at H
         have c7b0:decide (64 < (rd l0 x12_1))=true:=decide_eq_true c7
         clear c7
         simp only [Option.some.injEq,Prod.mk.injEq] at H
         obtain ⟨rfl,rfl⟩:=H
         have p413:0≤(x12_1:Int):=of_decide_eq_true (by first|(with_reducible assumption)|assumption)
         have q413:x12_1 < (l0.length:Int):=of_decide_eq_true (by first|(with_reducible assumption)|assumption)
         obtain ⟨ad413,e413,hx413_0⟩:=Kd.at_int HR0.out x12_1 p413 q413
         cases e413
         replace p413:=eq_true p413
         replace q413:=eq_true q413
         go_wp2
         go_ret2
         exact ⟨by first|rfl|(simp;done)|(simp [*];done),by repeat (first|exact Drawn0.refl _|apply Drawn0.step)⟩
        ·rw [if_neg c7] at H
         have c7b0:decide (64 < (rd l0 x12_1))=false:=decide_eq_false c7
         clear c7
         have H':=Aside0.mk H
         clear H
         have p413:0≤(x12_1:Int):=of_decide_eq_true (by first|(with_reducible assumption)|assumption)
         have q413:x12_1 < (l0.length:Int):=of_decide_eq_true (by first|(with_reducible assumption)|assumption)
         obtain ⟨ad413,e413,hx413_0⟩:=Kd.at_int HR0.out x12_1 p413 q413
         cases e413
         replace p413:=eq_true p413
         replace q413:=eq_true q413
         go_wp2
         go_roundg k1
         case measure=>have:=HK1.out;omega
         case rel=>exact ⟨(wrap64 (x4_1 + (rd l0 x12_1))),(wrap64 (x12_1 + 1)),(by first|rfl|(simp;done)|(simp [*];done)),(by first|rfl|(simp;done)|(simp [*];done)),H',⟨by have:=HK1.out;omega⟩,by repeat (first|exact Drawn0.refl _|apply Drawn0.step)⟩
      ·rw [if_neg c5] at H
       exact absurd H (by simp)
     ·rw [if_neg c4] at H
      exact absurd H (by simp)
    ·rw [if_neg c3] at H
     have c3b0:decide (x12_1 < (l0.length:Int))=false:=decide_eq_false c3
     clear c3
     simp only [Option.some.injEq,Prod.mk.injEq] at H
     obtain ⟨rfl,rfl⟩:=H
     go_wp2
     go_ret2
     exact ⟨by first|rfl|(simp;done)|(simp [*];done),by repeat (first|exact Drawn0.refl _|apply Drawn0.step)⟩
def seal_Width.f (k:Nat) (l0:List Int):Option (Int × Int):=(seal_total.f k l0).bind fun bt414=>(some (wrap64 (Int.tdiv (wrap64 (bt414.1 + 7)) 8),bt414.2))
set_option maxHeartbeats 8000000 in
set_option maxRecDepth 100000 in
theorem seal_Width.calls (k:Nat) (A0:Option Addr) (c0:Nat) (l0:List Int) (r1:Int) (r2:Int) (w:World) (hr0:Kd.C (Kd.int .i64) w A0 l0.length l0) (hc0:l0.length≤c0) (h:seal_Width.f k l0=some (r1,r2)) :
  Calls Try.prog 58 #[.slice A0 l0.length c0] w fun e w'=>e=.returned (.tuple #[.int .i64 r1,.int .i64 r2])∧Drawn0 w w':=by
 have HR0:=Aside0.mk hr0
 have HC0:=Aside0.mk hc0
 clear hr0 hc0
 have H:((seal_total.f k l0).bind fun bt414=>(some (wrap64 (Int.tdiv (wrap64 (bt414.1 + 7)) 8),bt414.2)))=some (r1,r2):=h
 clear h
 replace H:=Option.bind_eq_some_iff.mp H
 obtain ⟨⟨t414,t415⟩,A20,H⟩:=H
 replace H:(some (wrap64 (Int.tdiv (wrap64 (t414 + 7)) 8),t415))=some (r1,r2):=H
 have A2:=Aside0.mk A20
 clear A20
 simp only [Option.some.injEq,Prod.mk.injEq] at H
 obtain ⟨rfl,rfl⟩:=H
 go_enter Try.func58,Try.ntmps58
 go_wp2_with (first|((with_reducible refine gate_callee (f:=66) rfl ?_);refine goesL_ (some 8) rfl rfl Try.func66 (by kernel_rfl) rfl #[.slice A0 l0.length c0] rfl (by (try simp only [List.map_toArray,List.map_cons,List.map_nil]);first|done|rfl|(simp only [List.length_drop,List.length_take];rfl)) ?_;(with_reducible refine (seal_total.calls k _ _ l0 t414 t415 _ ?side1 ?side2 A2.out).mono ?_);(case side1=>repeat (first|exact HR0.out|(with_reducible refine Kd.C_alloc ?_ _)|(with_reducible refine Kd.C_drewN ?_ _)|(with_reducible refine Kd.C_drew ?_)));(case side2=>exact HC0.out);rintro e w' ⟨rfl,⟨nd,rfl⟩⟩;refine ⟨_,rfl,?_⟩))
 go_ret2
 exact ⟨by first|rfl|(simp;done)|(simp [*];done),by repeat (first|exact Drawn0.refl _|apply Drawn0.step)⟩
end Go.Proofs.Ytbdnmdmfnopihaa.Print
end
section
namespace Go.Proofs.Ytbdnmdmfnopihaa.Print
open Go.RowKit Go.Proofs.YtbdnmdmfnopihaaW.PrintWords Go.Proofs.YtbdnmdmfnopihaaW.PrintLast Go.Proofs.YtbdnmdmfnopihaaW.PrintMore
attribute [local go_sem] max2_int min2_int max_two min_two max_three min_three max_four min_four   -- for this text's walks alone
attribute [local go_sem ↓] Go.Proofs.Ytbdnmdmfnopihaa.Sem.isSome_setCell
attribute [local go_sem] Go.Instr.field Go.asAgg
set_option linter.unusedVariables false
set_option linter.unusedSimpArgs false
def bits_Len64.j0:Nat → Int → Int → Option (Int)
 | 0,_,_=>none
 | k + 1,x0,x2=>if x0 ≥ 65536 then (if (x0 / 65536) ≥ 256 then (if 0≤(((x0 / 65536) / 256) % 256) then (if (((x0 / 65536) / 256) % 256) < 256 then (some (wrap64 ((wrap64 ((wrap64 (x2 + 16)) + 8)) + (wrap64 (bt (⟨#[0,1,2,2,3,3,3,3,4,4,4,4,4,4,4,4,5,5,5,5,5,5,5,5,5,5,5,5,5,5,5,5,6,6,6,6,6,6,6,6,6,6,6,6,6,6,6,6,6,6,6,6,6,6,6,6,6,6,6,6,6,6,6,6,7,7,7,7,7,7,7,7,7,7,7,7,7,7,7,7,7,7,7,7,7,7,7,7,7,7,7,7,7,7,7,7,7,7,7,7,7,7,7,7,7,7,7,7,7,7,7,7,7,7,7,7,7,7,7,7,7,7,7,7,7,7,7,7,8,8,8,8,8,8,8,8,8,8,8,8,8,8,8,8,8,8,8,8,8,8,8,8,8,8,8,8,8,8,8,8,8,8,8,8,8,8,8,8,8,8,8,8,8,8,8,8,8,8,8,8,8,8,8,8,8,8,8,8,8,8,8,8,8,8,8,8,8,8,8,8,8,8,8,8,8,8,8,8,8,8,8,8,8,8,8,8,8,8,8,8,8,8,8,8,8,8,8,8,8,8,8,8,8,8,8,8,8,8,8,8,8,8,8,8,8,8,8,8,8,8,8,8,8,8,8,8]⟩:ByteArray) (((x0 / 65536) / 256) % 256)))))) else (none)) else (none)) else (if 0≤((x0 / 65536) % 256) then (if ((x0 / 65536) % 256) < 256 then (some (wrap64 ((wrap64 (x2 + 16)) + (wrap64 (bt (⟨#[0,1,2,2,3,3,3,3,4,4,4,4,4,4,4,4,5,5,5,5,5,5,5,5,5,5,5,5,5,5,5,5,6,6,6,6,6,6,6,6,6,6,6,6,6,6,6,6,6,6,6,6,6,6,6,6,6,6,6,6,6,6,6,6,7,7,7,7,7,7,7,7,7,7,7,7,7,7,7,7,7,7,7,7,7,7,7,7,7,7,7,7,7,7,7,7,7,7,7,7,7,7,7,7,7,7,7,7,7,7,7,7,7,7,7,7,7,7,7,7,7,7,7,7,7,7,7,7,8,8,8,8,8,8,8,8,8,8,8,8,8,8,8,8,8,8,8,8,8,8,8,8,8,8,8,8,8,8,8,8,8,8,8,8,8,8,8,8,8,8,8,8,8,8,8,8,8,8,8,8,8,8,8,8,8,8,8,8,8,8,8,8,8,8,8,8,8,8,8,8,8,8,8,8,8,8,8,8,8,8,8,8,8,8,8,8,8,8,8,8,8,8,8,8,8,8,8,8,8,8,8,8,8,8,8,8,8,8,8,8,8,8,8,8,8,8,8,8,8,8,8,8,8,8,8,8]⟩:ByteArray) ((x0 / 65536) % 256)))))) else (none)) else (none))) else (if x0 ≥ 256 then (if 0≤((x0 / 256) % 256) then (if ((x0 / 256) % 256) < 256 then (some (wrap64 ((wrap64 (x2 + 8)) + (wrap64 (bt (⟨#[0,1,2,2,3,3,3,3,4,4,4,4,4,4,4,4,5,5,5,5,5,5,5,5,5,5,5,5,5,5,5,5,6,6,6,6,6,6,6,6,6,6,6,6,6,6,6,6,6,6,6,6,6,6,6,6,6,6,6,6,6,6,6,6,7,7,7,7,7,7,7,7,7,7,7,7,7,7,7,7,7,7,7,7,7,7,7,7,7,7,7,7,7,7,7,7,7,7,7,7,7,7,7,7,7,7,7,7,7,7,7,7,7,7,7,7,7,7,7,7,7,7,7,7,7,7,7,7,8,8,8,8,8,8,8,8,8,8,8,8,8,8,8,8,8,8,8,8,8,8,8,8,8,8,8,8,8,8,8,8,8,8,8,8,8,8,8,8,8,8,8,8,8,8,8,8,8,8,8,8,8,8,8,8,8,8,8,8,8,8,8,8,8,8,8,8,8,8,8,8,8,8,8,8,8,8,8,8,8,8,8,8,8,8,8,8,8,8,8,8,8,8,8,8,8,8,8,8,8,8,8,8,8,8,8,8,8,8,8,8,8,8,8,8,8,8,8,8,8,8,8,8,8,8,8,8]⟩:ByteArray) ((x0 / 256) % 256)))))) else (none)) else (none)) else (if 0≤((x0) % 256) then (if ((x0) % 256) < 256 then (some (wrap64 (x2 + (wrap64 (bt (⟨#[0,1,2,2,3,3,3,3,4,4,4,4,4,4,4,4,5,5,5,5,5,5,5,5,5,5,5,5,5,5,5,5,6,6,6,6,6,6,6,6,6,6,6,6,6,6,6,6,6,6,6,6,6,6,6,6,6,6,6,6,6,6,6,6,7,7,7,7,7,7,7,7,7,7,7,7,7,7,7,7,7,7,7,7,7,7,7,7,7,7,7,7,7,7,7,7,7,7,7,7,7,7,7,7,7,7,7,7,7,7,7,7,7,7,7,7,7,7,7,7,7,7,7,7,7,7,7,7,8,8,8,8,8,8,8,8,8,8,8,8,8,8,8,8,8,8,8,8,8,8,8,8,8,8,8,8,8,8,8,8,8,8,8,8,8,8,8,8,8,8,8,8,8,8,8,8,8,8,8,8,8,8,8,8,8,8,8,8,8,8,8,8,8,8,8,8,8,8,8,8,8,8,8,8,8,8,8,8,8,8,8,8,8,8,8,8,8,8,8,8,8,8,8,8,8,8,8,8,8,8,8,8,8,8,8,8,8,8,8,8,8,8,8,8,8,8,8,8,8,8,8,8,8,8,8,8]⟩:ByteArray) ((x0) % 256)))))) else (none)) else (none)))
def bits_Len64.f (k:Nat) (a0:Int):Option (Int):=if a0 ≥ 4294967296 then (bits_Len64.j0 k (a0 / 4294967296) 32) else (bits_Len64.j0 k a0 0)
set_option maxHeartbeats 8000000 in
set_option maxRecDepth 100000 in
theorem bits_Len64.calls (k:Nat) (a0:Int) (r:Int) (w:World) (h:bits_Len64.f k a0=some r) :
  Calls Try.prog 62 #[.int .u64 a0] w fun e w'=>e=.returned (.int .i64 r)∧Drawn0 w w':=by
 have H:(if a0 ≥ 4294967296 then (bits_Len64.j0 k (a0 / 4294967296) 32) else (bits_Len64.j0 k a0 0))=some r:=h
 clear h
 have HC2:=Aside0.mk H
 clear H
 go_enter Try.func62,Try.ntmps62
 go_upto_if 4 with (fail)
 go_cut [0,2] (fun v0 v2 wc=>∃ (kq:Nat) (x0_1:Int) (x2_1:Int),v0=.int .u64 x0_1∧v2=.int .i64 x2_1∧Aside0 (bits_Len64.j0 kq x0_1 x2_1=some r)∧Aside0 (kq≤k)∧Drawn0 w wc)
 case first =>
  have H:=HC2.out
  clear HC2
  by_cases c3:a0 ≥ 4294967296
  ·rw [if_pos c3] at H
   have c3b0:decide (4294967296≤a0)=true:=decide_eq_true c3
   clear c3
   (first|rw [c3b0]|(simp only [i64_w,i32_w];rw [c3b0])|skip)
   have H':=Aside0.mk H
   clear H
   go_wp2
   go_meet
   case rel=>exact ⟨_,(a0 / 4294967296),(32),(by first|rfl|(simp;done)|(simp [*];done)),(by first|rfl|(simp;done)|(simp [*];done)),H',⟨by first|omega|exact Nat.le_refl _⟩,by repeat (first|exact Drawn0.refl _|apply Drawn0.step)⟩
  ·rw [if_neg c3] at H
   have c3b0:decide (4294967296≤a0)=false:=decide_eq_false c3
   clear c3
   (first|rw [c3b0]|(simp only [i64_w,i32_w];rw [c3b0])|skip)
   have H':=Aside0.mk H
   clear H
   go_wp2
   go_meet
   case rel=>exact ⟨_,(a0),(0),(by first|rfl|(simp;done)|(simp [*];done)),(by first|rfl|(simp;done)|(simp [*];done)),H',⟨by first|omega|exact Nat.le_refl _⟩,by repeat (first|exact Drawn0.refl _|apply Drawn0.step)⟩
 case rest =>
  clear HC2
  try clear p2
  try clear c3
  try clear c3b0
  obtain ⟨kq,x0_1,x2_1,rfl,rfl,HA,HJ1,⟨mc1,rfl⟩⟩:=hcut
  cases kq with
  | zero=>exact absurd HA.out (by simp [bits_Len64.j0])
  | succ kj1 =>
   have H:=HA.out
   clear HA
   simp only [bits_Len64.j0] at H
   by_cases c4:x0_1 ≥ 65536
   ·rw [if_pos c4] at H
    have c4b0:decide (65536≤x0_1)=true:=decide_eq_true c4
    clear c4
    by_cases c5:(x0_1 / 65536) ≥ 256
    ·rw [if_pos c5] at H
     have c5b0:decide (256≤(x0_1 / 65536))=true:=decide_eq_true c5
     clear c5
     obtain ⟨ji6,hji6⟩:∃ j_:Int,(((x0_1 / 65536) / 256) % 256)=j_:=⟨_,rfl⟩
     replace H:(if 0≤(ji6) then (if (ji6) < 256 then (some (wrap64 ((wrap64 ((wrap64 (x2_1 + 16)) + 8)) + (wrap64 (bt (⟨#[0,1,2,2,3,3,3,3,4,4,4,4,4,4,4,4,5,5,5,5,5,5,5,5,5,5,5,5,5,5,5,5,6,6,6,6,6,6,6,6,6,6,6,6,6,6,6,6,6,6,6,6,6,6,6,6,6,6,6,6,6,6,6,6,7,7,7,7,7,7,7,7,7,7,7,7,7,7,7,7,7,7,7,7,7,7,7,7,7,7,7,7,7,7,7,7,7,7,7,7,7,7,7,7,7,7,7,7,7,7,7,7,7,7,7,7,7,7,7,7,7,7,7,7,7,7,7,7,8,8,8,8,8,8,8,8,8,8,8,8,8,8,8,8,8,8,8,8,8,8,8,8,8,8,8,8,8,8,8,8,8,8,8,8,8,8,8,8,8,8,8,8,8,8,8,8,8,8,8,8,8,8,8,8,8,8,8,8,8,8,8,8,8,8,8,8,8,8,8,8,8,8,8,8,8,8,8,8,8,8,8,8,8,8,8,8,8,8,8,8,8,8,8,8,8,8,8,8,8,8,8,8,8,8,8,8,8,8,8,8,8,8,8,8,8,8,8,8,8,8,8,8,8,8,8,8]⟩:ByteArray) (ji6)))))) else (none)) else (none))=some r:=by first|(rw [hji6] at H;exact H)|(simp only [hji6] at H ⊢;exact H)
     by_cases c7:0≤(ji6)
     ·rw [if_pos c7] at H
      have c7b0:decide (0≤(ji6))=true:=decide_eq_true c7
      clear c7
      by_cases c8:(ji6) < 256
      ·rw [if_pos c8] at H
       have c8b0:decide ((ji6) < 256)=true:=decide_eq_true c8
       clear c8
       obtain rfl:=Option.some.inj H
       have p9:0≤((ji6):Int):=of_decide_eq_true (by first|(with_reducible assumption)|assumption)
       have q9:(ji6) < (256:Int):=of_decide_eq_true (by first|(with_reducible assumption)|assumption)
       have hx9:=bt_at (⟨#[0,1,2,2,3,3,3,3,4,4,4,4,4,4,4,4,5,5,5,5,5,5,5,5,5,5,5,5,5,5,5,5,6,6,6,6,6,6,6,6,6,6,6,6,6,6,6,6,6,6,6,6,6,6,6,6,6,6,6,6,6,6,6,6,7,7,7,7,7,7,7,7,7,7,7,7,7,7,7,7,7,7,7,7,7,7,7,7,7,7,7,7,7,7,7,7,7,7,7,7,7,7,7,7,7,7,7,7,7,7,7,7,7,7,7,7,7,7,7,7,7,7,7,7,7,7,7,7,8,8,8,8,8,8,8,8,8,8,8,8,8,8,8,8,8,8,8,8,8,8,8,8,8,8,8,8,8,8,8,8,8,8,8,8,8,8,8,8,8,8,8,8,8,8,8,8,8,8,8,8,8,8,8,8,8,8,8,8,8,8,8,8,8,8,8,8,8,8,8,8,8,8,8,8,8,8,8,8,8,8,8,8,8,8,8,8,8,8,8,8,8,8,8,8,8,8,8,8,8,8,8,8,8,8,8,8,8,8,8,8,8,8,8,8,8,8,8,8,8,8,8,8,8,8,8,8]⟩:ByteArray) (ji6)
       replace p9:=eq_true p9
       replace q9:=eq_true q9
       go_wp2
       go_ret
       exact ⟨by first|rfl|(simp;done)|(simp only [← hji6] <;> (first|rfl|simp))|(simp [*];done),by repeat (first|exact Drawn0.refl _|apply Drawn0.step)⟩
      ·rw [if_neg c8] at H
       exact absurd H (by simp)
     ·rw [if_neg c7] at H
      exact absurd H (by simp)
    ·rw [if_neg c5] at H
     have c5b0:decide (256≤(x0_1 / 65536))=false:=decide_eq_false c5
     clear c5
     obtain ⟨ji10,hji10⟩:∃ j_:Int,((x0_1 / 65536) % 256)=j_:=⟨_,rfl⟩
     replace H:(if 0≤(ji10) then (if (ji10) < 256 then (some (wrap64 ((wrap64 (x2_1 + 16)) + (wrap64 (bt (⟨#[0,1,2,2,3,3,3,3,4,4,4,4,4,4,4,4,5,5,5,5,5,5,5,5,5,5,5,5,5,5,5,5,6,6,6,6,6,6,6,6,6,6,6,6,6,6,6,6,6,6,6,6,6,6,6,6,6,6,6,6,6,6,6,6,7,7,7,7,7,7,7,7,7,7,7,7,7,7,7,7,7,7,7,7,7,7,7,7,7,7,7,7,7,7,7,7,7,7,7,7,7,7,7,7,7,7,7,7,7,7,7,7,7,7,7,7,7,7,7,7,7,7,7,7,7,7,7,7,8,8,8,8,8,8,8,8,8,8,8,8,8,8,8,8,8,8,8,8,8,8,8,8,8,8,8,8,8,8,8,8,8,8,8,8,8,8,8,8,8,8,8,8,8,8,8,8,8,8,8,8,8,8,8,8,8,8,8,8,8,8,8,8,8,8,8,8,8,8,8,8,8,8,8,8,8,8,8,8,8,8,8,8,8,8,8,8,8,8,8,8,8,8,8,8,8,8,8,8,8,8,8,8,8,8,8,8,8,8,8,8,8,8,8,8,8,8,8,8,8,8,8,8,8,8,8,8]⟩:ByteArray) (ji10)))))) else (none)) else (none))=some r:=by first|(rw [hji10] at H;exact H)|(simp only [hji10] at H ⊢;exact H)
     by_cases c11:0≤(ji10)
     ·rw [if_pos c11] at H
      have c11b0:decide (0≤(ji10))=true:=decide_eq_true c11
      clear c11
      by_cases c12:(ji10) < 256
      ·rw [if_pos c12] at H
       have c12b0:decide ((ji10) < 256)=true:=decide_eq_true c12
       clear c12
       obtain rfl:=Option.some.inj H
       have p13:0≤((ji10):Int):=of_decide_eq_true (by first|(with_reducible assumption)|assumption)
       have q13:(ji10) < (256:Int):=of_decide_eq_true (by first|(with_reducible assumption)|assumption)
       have hx13:=bt_at (⟨#[0,1,2,2,3,3,3,3,4,4,4,4,4,4,4,4,5,5,5,5,5,5,5,5,5,5,5,5,5,5,5,5,6,6,6,6,6,6,6,6,6,6,6,6,6,6,6,6,6,6,6,6,6,6,6,6,6,6,6,6,6,6,6,6,7,7,7,7,7,7,7,7,7,7,7,7,7,7,7,7,7,7,7,7,7,7,7,7,7,7,7,7,7,7,7,7,7,7,7,7,7,7,7,7,7,7,7,7,7,7,7,7,7,7,7,7,7,7,7,7,7,7,7,7,7,7,7,7,8,8,8,8,8,8,8,8,8,8,8,8,8,8,8,8,8,8,8,8,8,8,8,8,8,8,8,8,8,8,8,8,8,8,8,8,8,8,8,8,8,8,8,8,8,8,8,8,8,8,8,8,8,8,8,8,8,8,8,8,8,8,8,8,8,8,8,8,8,8,8,8,8,8,8,8,8,8,8,8,8,8,8,8,8,8,8,8,8,8,8,8,8,8,8,8,8,8,8,8,8,8,8,8,8,8,8,8,8,8,8,8,8,8,8,8,8,8,8,8,8,8,8,8,8,8,8,8]⟩:ByteArray) (ji10)
       replace p13:=eq_true p13
       replace q13:=eq_true q13
       go_wp2
       go_ret
       exact ⟨by first|rfl|(simp;done)|(simp only [← hji10] <;> (first|rfl|simp))|(simp [*];done),by repeat (first|exact Drawn0.refl _|apply Drawn0.step)⟩
      ·rw [if_neg c12] at H
       exact absurd H (by simp)
     ·rw [if_neg c11] at H
      exact absurd H (by simp)
   ·rw [if_neg c4] at H
    have c4b0:decide (65536≤x0_1)=false:=decide_eq_false c4
    clear c4
    by_cases c14:x0_1 ≥ 256
    ·rw [if_pos c14] at H
     have c14b0:decide (256≤x0_1)=true:=decide_eq_true c14
     clear c14
     obtain ⟨ji15,hji15⟩:∃ j_:Int,((x0_1 / 256) % 256)=j_:=⟨_,rfl⟩
     replace H:(if 0≤(ji15) then (if (ji15) < 256 then (some (wrap64 ((wrap64 (x2_1 + 8)) + (wrap64 (bt (⟨#[0,1,2,2,3,3,3,3,4,4,4,4,4,4,4,4,5,5,5,5,5,5,5,5,5,5,5,5,5,5,5,5,6,6,6,6,6,6,6,6,6,6,6,6,6,6,6,6,6,6,6,6,6,6,6,6,6,6,6,6,6,6,6,6,7,7,7,7,7,7,7,7,7,7,7,7,7,7,7,7,7,7,7,7,7,7,7,7,7,7,7,7,7,7,7,7,7,7,7,7,7,7,7,7,7,7,7,7,7,7,7,7,7,7,7,7,7,7,7,7,7,7,7,7,7,7,7,7,8,8,8,8,8,8,8,8,8,8,8,8,8,8,8,8,8,8,8,8,8,8,8,8,8,8,8,8,8,8,8,8,8,8,8,8,8,8,8,8,8,8,8,8,8,8,8,8,8,8,8,8,8,8,8,8,8,8,8,8,8,8,8,8,8,8,8,8,8,8,8,8,8,8,8,8,8,8,8,8,8,8,8,8,8,8,8,8,8,8,8,8,8,8,8,8,8,8,8,8,8,8,8,8,8,8,8,8,8,8,8,8,8,8,8,8,8,8,8,8,8,8,8,8,8,8,8,8]⟩:ByteArray) (ji15)))))) else (none)) else (none))=some r:=by first|(rw [hji15] at H;exact H)|(simp only [hji15] at H ⊢;exact H)
     by_cases c16:0≤(ji15)
     ·rw [if_pos c16] at H
      have c16b0:decide (0≤(ji15))=true:=decide_eq_true c16
      clear c16
      by_cases c17:(ji15) < 256
      ·rw [if_pos c17] at H
       have c17b0:decide ((ji15) < 256)=true:=decide_eq_true c17
       clear c17
       obtain rfl:=Option.some.inj H
       have p18:0≤((ji15):Int):=of_decide_eq_true (by first|(with_reducible assumption)|assumption)
       have q18:(ji15) < (256:Int):=of_decide_eq_true (by first|(with_reducible assumption)|assumption)
       have hx18:=bt_at (⟨#[0,1,2,2,3,3,3,3,4,4,4,4,4,4,4,4,5,5,5,5,5,5,5,5,5,5,5,5,5,5,5,5,6,6,6,6,6,6,6,6,6,6,6,6,6,6,6,6,6,6,6,6,6,6,6,6,6,6,6,6,6,6,6,6,7,7,7,7,7,7,7,7,7,7,7,7,7,7,7,7,7,7,7,7,7,7,7,7,7,7,7,7,7,7,7,7,7,7,7,7,7,7,7,7,7,7,7,7,7,7,7,7,7,7,7,7,7,7,7,7,7,7,7,7,7,7,7,7,8,8,8,8,8,8,8,8,8,8,8,8,8,8,8,8,8,8,8,8,8,8,8,8,8,8,8,8,8,8,8,8,8,8,8,8,8,8,8,8,8,8,8,8,8,8,8,8,8,8,8,8,8,8,8,8,8,8,8,8,8,8,8,8,8,8,8,8,8,8,8,8,8,8,8,8,8,8,8,8,8,8,8,8,8,8,8,8,8,8,8,8,8,8,8,8,8,8,8,8,8,8,8,8,8,8,8,8,8,8,8,8,8,8,8,8,8,8,8,8,8,8,8,8,8,8,8,8]⟩:ByteArray) (ji15)
       replace p18:=eq_true p18
       replace q18:=eq_true q18
       go_wp2
       go_ret
       exact ⟨by first|rfl|(simp;done)|(simp only [← hji15] <;> (first|rfl|simp))|(simp [*];done),by repeat (first|exact Drawn0.refl _|apply Drawn0.step)⟩
      ·rw [if_neg c17] at H
       exact absurd H (by simp)
     ·rw [if_neg c16] at H
      exact absurd H (by simp)
    ·rw [if_neg c14] at H
     have c14b0:decide (256≤x0_1)=false:=decide_eq_false c14
     clear c14
     obtain ⟨ji19,hji19⟩:∃ j_:Int,((x0_1) % 256)=j_:=⟨_,rfl⟩
     replace H:(if 0≤(ji19) then (if (ji19) < 256 then (some (wrap64 (x2_1 + (wrap64 (bt (⟨#[0,1,2,2,3,3,3,3,4,4,4,4,4,4,4,4,5,5,5,5,5,5,5,5,5,5,5,5,5,5,5,5,6,6,6,6,6,6,6,6,6,6,6,6,6,6,6,6,6,6,6,6,6,6,6,6,6,6,6,6,6,6,6,6,7,7,7,7,7,7,7,7,7,7,7,7,7,7,7,7,7,7,7,7,7,7,7,7,7,7,7,7,7,7,7,7,7,7,7,7,7,7,7,7,7,7,7,7,7,7,7,7,7,7,7,7,7,7,7,7,7,7,7,7,7,7,7,7,8,8,8,8,8,8,8,8,8,8,8,8,8,8,8,8,8,8,8,8,8,8,8,8,8,8,8,8,8,8,8,8,8,8,8,8,8,8,8,8,8,8,8,8,8,8,8,8,8,8,8,8,8,8,8,8,8,8,8,8,8,8,8,8,8,8,8,8,8,8,8,8,8,8,8,8,8,8,8,8,8,8,8,8,8,8,8,8,8,8,8,8,8,8,8,8,8,8,8,8,8,8,8,8,8,8,8,8,8,8,8,8,8,8,8,8,8,8,8,8,8,8,8,8,8,8,8,8]⟩:ByteArray) (ji19)))))) else (none)) else (none))=some r:=by first|(rw [hji19] at H;exact H)|(simp only [hji19] at H ⊢;exact H)
     by_cases c20:0≤(ji19)
     ·rw [if_pos c20] at H
      have c20b0:decide (0≤(ji19))=true:=decide_eq_true c20
      clear c20
      by_cases c21:(ji19) < 256
      ·rw [if_pos c21] at H
       have c21b0:decide ((ji19) < 256)=true:=decide_eq_true c21
       clear c21
       obtain rfl:=Option.some.inj H
       have p22:0≤((ji19):Int):=of_decide_eq_true (by first|(with_reducible assumption)|assumption)
       have q22:(ji19) < (256:Int):=of_decide_eq_true (by first|(with_reducible assumption)|assumption)
       have hx22:=bt_at (⟨#[0,1,2,2,3,3,3,3,4,4,4,4,4,4,4,4,5,5,5,5,5,5,5,5,5,5,5,5,5,5,5,5,6,6,6,6,6,6,6,6,6,6,6,6,6,6,6,6,6,6,6,6,6,6,6,6,6,6,6,6,6,6,6,6,7,7,7,7,7,7,7,7,7,7,7,7,7,7,7,7,7,7,7,7,7,7,7,7,7,7,7,7,7,7,7,7,7,7,7,7,7,7,7,7,7,7,7,7,7,7,7,7,7,7,7,7,7,7,7,7,7,7,7,7,7,7,7,7,8,8,8,8,8,8,8,8,8,8,8,8,8,8,8,8,8,8,8,8,8,8,8,8,8,8,8,8,8,8,8,8,8,8,8,8,8,8,8,8,8,8,8,8,8,8,8,8,8,8,8,8,8,8,8,8,8,8,8,8,8,8,8,8,8,8,8,8,8,8,8,8,8,8,8,8,8,8,8,8,8,8,8,8,8,8,8,8,8,8,8,8,8,8,8,8,8,8,8,8,8,8,8,8,8,8,8,8,8,8,8,8,8,8,8,8,8,8,8,8,8,8,8,8,8,8,8,8]⟩:ByteArray) (ji19)
       replace p22:=eq_true p22
       replace q22:=eq_true q22
       go_wp2
       go_ret
       exact ⟨by first|rfl|(simp;done)|(simp only [← hji19] <;> (first|rfl|simp))|(simp [*];done),by repeat (first|exact Drawn0.refl _|apply Drawn0.step)⟩
      ·rw [if_neg c21] at H
       exact absurd H (by simp)
     ·rw [if_neg c20] at H
      exact absurd H (by simp)
end Go.Proofs.Ytbdnmdmfnopihaa.Print
end
section
namespace Go.Proofs.Ytbdnmdmfnopihaa.Print
open Go.RowKit Go.Proofs.YtbdnmdmfnopihaaW.PrintWords Go.Proofs.YtbdnmdmfnopihaaW.PrintLast Go.Proofs.YtbdnmdmfnopihaaW.PrintMore
attribute [local go_sem] max2_int min2_int max_two min_two max_three min_three max_four min_four   -- for this text's walks alone
attribute [local go_sem ↓] Go.Proofs.Ytbdnmdmfnopihaa.Sem.isSome_setCell
attribute [local go_sem] Go.Instr.field Go.asAgg
set_option linter.unusedVariables false
set_option linter.unusedSimpArgs false
mutual
def seal_Pack.l0:Nat → List Int → List Int → Int → List Int → Int → Int → Option (List Int × Int)
 | 0,_,_,_,_,_,_=>none
 | k + 1,x1,x8,x9,x28,x29,x30=>if x30 < x29 then (if 0≤x30 then (if x30 < (x28.length:Int) then (if x30 < (x1.length:Int) then ((bits_Len64.f k (rd x1 x30)).bind fun t423=>(if t423 > (rd x28 x30) then (some (([]:List Int),1)) else (seal_Pack.l1 k x1 x8 x9 x30 (rd x28 x30) x28 x29 x30 (rd x28 x30) 0))) else (none)) else (none)) else (none)) else (some (x8,0))
def seal_Pack.l1:Nat → List Int → List Int → Int → Int → Int → List Int → Int → Int → Int → Int → Option (List Int × Int)
 | 0,_,_,_,_,_,_,_,_,_,_=>none
 | k + 1,x1,x8,x9,x10,x11,x28,x29,x30,x42,x43=>if x43 < x42 then (if 0≤(wrap64 (Int.tdiv x9 8)) then (if (wrap64 (Int.tdiv x9 8)) < (x8.length:Int) then (if 0≤x10 then (if x10 < (x1.length:Int) then (if 0≤(wrap64 ((wrap64 (x11 - 1)) - x43)) then (if 0≤(wrap64 (7 - (Int.tmod x9 8))) then (seal_Pack.l1 k x1 (x8.set ((wrap64 (Int.tdiv x9 8)):Int).toNat (Go.bits .or .u8 (rd x8 (wrap64 (Int.tdiv x9 8))) (shl .u8 ((Go.bits .and .u64 (shr .u64 (rd x1 x10) (wrap64 ((wrap64 (x11 - 1)) - x43))) 1) % 256) (wrap64 (7 - (Int.tmod x9 8)))))) (wrap64 (x9 + 1)) x10 x11 x28 x29 x30 x42 (wrap64 (x43 + 1))) else (none)) else (none)) else (none)) else (none)) else (none)) else (none)) else (seal_Pack.l0 k x1 x8 x9 x28 x29 (wrap64 (x30 + 1)))
end
def seal_Pack.f (k:Nat) (l0:List Int) (l1:List Int):Option (List Int × Int):=(seal_Width.f k l0).bind fun bt416=>(if bt416.2=0 then (if (l1.length:Int)=(l0.length:Int) then (if 0≤bt416.1 then (if (bt416.1:Int).toNat≤281474976710656 then (seal_Pack.l0 k l1 (List.replicate (bt416.1:Int).toNat 0) 0 l0 (l0.length:Int) 0) else (none)) else (none)) else (some (([]:List Int),1))) else (some (([]:List Int),bt416.2)))
def seal_Pack.T16:Bool × List (List Nat × List Nat):=(true,[([],[]),([],[]),([1],[1]),([0,2],[0,2]),([3],[3]),([],[]),([],[]),([5,6],[5,6]),([7],[7]),([],[]),([9],[9]),([],[]),([10,11],[10,11]),([8,12],[8,12]),([13],[13]),([14],[14]),([],[]),([16],[16]),([17],[17]),([15,18],[15,18]),([4,19],[4,19]),([0,2,0,1,2,3,4,5,6,7,8,9,10,11,12,13,14,15,16,17,18,19,20],[0,2]),([21,20,0,1,2,3,4,5,6,7,8,9,10,11,12,13,14,15,16,17,18,19,20],[20,21])])
def seal_Pack.B16:List Nat:=[0,0,2,7,15,0,0,96,224,0,512,0,3584,8160,16352,32736,0,65536,196608,524256,1048575,2097151,4194303]
theorem seal_Pack.tab16:rtab .any (opsOf Try.f53 16)=seal_Pack.T16:=by kernel_rfl
theorem seal_Pack.bits16:waitsOk seal_Pack.T16.2 seal_Pack.B16=true:=by kernel_rfl
set_option maxHeartbeats 8000000 in
set_option maxRecDepth 100000 in
theorem seal_Pack.calls (k:Nat) (A0:Option Addr) (c0:Nat) (l0:List Int) (A1:Option Addr) (c1:Nat) (l1:List Int) (r1:List Int) (r2:Int) (w:World) (hr0:Kd.C (Kd.int .i64) w A0 l0.length l0) (hc0:l0.length≤c0) (hr1:Kd.C (Kd.int .u64) w A1 l1.length l1) (hc1:l1.length≤c1) (h:seal_Pack.f k l0 l1=some (r1,r2)) :
  Calls Try.prog 53 #[.slice A0 l0.length c0,.slice A1 l1.length c1] w fun e w'=>∃ v0_:Value,e=.returned (.tuple #[v0_,.int .i64 r2])∧Kd.R (Kd.int .u8) 5 w' w.heap.size (fun _=>True) v0_ r1∧Below w.heap.size w w':=by
 have HR0:=Aside0.mk hr0
 have HC0:=Aside0.mk hc0
 clear hr0 hc0
 have HR1:=Aside0.mk hr1
 have HC1:=Aside0.mk hc1
 clear hr1 hc1
 have HB:=Aside0.mk (Below.refl w.heap.size w)
 have H:((seal_Width.f k l0).bind fun bt416=>(if bt416.2=0 then (if (l1.length:Int)=(l0.length:Int) then (if 0≤bt416.1 then (if (bt416.1:Int).toNat≤281474976710656 then (seal_Pack.l0 k l1 (List.replicate (bt416.1:Int).toNat 0) 0 l0 (l0.length:Int) 0) else (none)) else (none)) else (some (([]:List Int),1))) else (some (([]:List Int),bt416.2))))=some (r1,r2):=h
 clear h
 replace H:=Option.bind_eq_some_iff.mp H
 obtain ⟨⟨t416,t417⟩,A30,H⟩:=H
 replace H:(if t417=0 then (if (l1.length:Int)=(l0.length:Int) then (if 0≤t416 then (if (t416:Int).toNat≤281474976710656 then (seal_Pack.l0 k l1 (List.replicate (t416:Int).toNat 0) 0 l0 (l0.length:Int) 0) else (none)) else (none)) else (some (([]:List Int),1))) else (some (([]:List Int),t417)))=some (r1,r2):=H
 have A3:=Aside0.mk A30
 clear A30
 by_cases c4:t417=0
 ·rw [if_pos c4] at H
  have c4b0:(t417 == 0)=true:=beq_iff_eq.mpr c4
  have c4b1:(t417 != 0)=false:=bne_eq_false_iff_eq.mpr c4
  clear c4
  by_cases c5:(l1.length:Int)=(l0.length:Int)
  ·rw [if_pos c5] at H
   have c5b0:((l1.length:Int) == (l0.length:Int))=true:=beq_iff_eq.mpr c5
   have c5b1:((l1.length:Int) != (l0.length:Int))=false:=bne_eq_false_iff_eq.mpr c5
   have c5b2:(l1.length == l0.length)=true:=by first|simpa using c5|(simp at c5 ⊢;omega)
   clear c5
   by_cases c6:0≤t416
   ·rw [if_pos c6] at H
    have c6b0:=eq_true c6
    have c6b1:decide (0≤t416)=true:=decide_eq_true c6
    clear c6
    by_cases c7:(t416:Int).toNat≤281474976710656
    ·rw [if_pos c7] at H
     have c7b0:=eq_true c7
     have c7b1:decide ((t416:Int).toNat≤281474976710656)=true:=decide_eq_true c7
     clear c7
     obtain ⟨y418,hy418⟩:∃ y_:List Int,y_=(List.replicate (t416:Int).toNat 0):=⟨_,rfl⟩
     replace H:(seal_Pack.l0 k l1 y418 0 l0 (l0.length:Int) 0)=some (r1,r2):=by first|(rw [hy418];with_reducible exact H)|(have H2_:=(Option.bind_some _ _).symm.trans H;rw [hy418];with_reducible exact H2_)|(have H2_:=(Option.bind_some _ _).symm.trans H;with_reducible exact H2_)|with_reducible exact H|(rw [hy418];exact H)|exact H
     have Ny418:=Aside0.mk hy418
     clear hy418
     have H':=Aside0.mk H
     clear H
     go_enter Try.func53,Try.ntmps53
     go_wp2_with (first|((with_reducible refine gate_callee (f:=58) rfl ?_);refine goesL_ (some 15) rfl rfl Try.func58 (by kernel_rfl) rfl #[.slice A0 l0.length c0] rfl (by (try simp only [List.map_toArray,List.map_cons,List.map_nil]);first|done|rfl|(simp only [List.length_drop,List.length_take];rfl)) ?_;(with_reducible refine (seal_Width.calls k _ _ l0 t416 t417 _ ?side1 ?side2 A3.out).mono ?_);(case side1=>repeat (first|exact HR0.out|(with_reducible refine Kd.C_alloc ?_ _)|(with_reducible refine Kd.C_drewN ?_ _)|(with_reducible refine Kd.C_drew ?_)));(case side2=>exact HC0.out);rintro e w' ⟨rfl,⟨nd,rfl⟩⟩;refine ⟨_,rfl,?_⟩)|((with_reducible refine gate_dst (N:=27) rfl ?_);refine Kd.R_make (Kd.int .u8) _ 5 rfl (N:=27) rfl 48 _ _ rfl t416 rfl rfl Try.underlying48 (.int .u8 0) 1 info5 rfl (by decide) (by omega) 0 (ok:=fun _=>True) (okp:=fun _=>True) rfl (fun _ hk=>hk) trivial (of_decide_eq_true (by first|(with_reducible assumption)|assumption)) (Nat.le_trans (Nat.mul_le_mul_right _ (of_decide_eq_true (by first|(with_reducible assumption)|assumption):t416.toNat≤281474976710656)) (by omega)) (Below.refl _ _) (Nat.le_refl _) ?_;intro v419 w8 ho9 hb hg_ hnew_;clear hg_ hnew_;(first|rw [← Ny418.out] at ho9|(simp only [Int.reduceToNat] at ho9;rw [← Ny418.out] at ho9));have n0_:=Aside0.mk (Kd.R_lower ho9 (below_size (by repeat (first|(with_reducible first|exact HB.out|apply below_alloc|apply pw_below_drewN|apply below_drew1)|exact HB.out))));have n1_:=Aside0.mk (below_step (by repeat (first|(with_reducible first|exact HB.out|apply below_alloc|apply pw_below_drewN|apply below_drew1)|exact HB.out)) hb);clear HB;have HO420:=n0_;have HB:=n1_;clear n0_ n1_;clear hb ho9))
     go_loopg [9,30] k (fun kq v9 v30 w'=>∃ (x8_1:List Int) (x9_1:Int) (x30_1:Int),v9=.int .i64 x9_1∧v30=.int .i64 x30_1∧Aside0 (seal_Pack.l0 kq l1 x8_1 x9_1 l0 (l0.length:Int) x30_1=some (r1,r2))∧Aside0 (kq≤k)∧Aside0 (Kd.R (Kd.int .u8) 5 w' w.heap.size (fun _=>True) v419 x8_1)∧Aside0 (Below w.heap.size w w'))
     case atStart=>exact ⟨(y418),(0),(0),(by first|rfl|(simp;done)|(simp [*];done)),(by first|rfl|(simp;done)|(simp [*];done)),H',⟨Nat.le_refl _⟩,⟨by (with_reducible repeat (first|apply Kd.R_alloc|apply Kd.R_drewN|apply Kd.R_drew));exact HO420.out⟩,⟨by repeat (first|(with_reducible first|exact HB.out|apply below_alloc|apply pw_below_drewN|apply below_drew1)|exact HB.out)⟩⟩
     case round =>
      clear H'
      try clear c1
      try clear p2
      try clear c4
      try clear c4b0
      try clear c4b1
      try clear c5
      try clear c5b0
      try clear c5b1
      try clear c5b2
      try clear c6
      try clear c6b0
      try clear c6b1
      try clear c7
      try clear c7b0
      try clear c7b1
      obtain ⟨x8_1,x9_1,x30_1,rfl,rfl,HA,HK1,HO_8,HB⟩:=hrel
      cases gk with
      | zero=>exact absurd HA.out (by simp [seal_Pack.l0])
      | succ k1 =>
       have H:=HA.out
       clear HA
       simp only [seal_Pack.l0] at H
       by_cases c10:x30_1 < (l0.length:Int)
       ·rw [if_pos c10] at H
        have c10b0:decide (x30_1 < (l0.length:Int))=true:=decide_eq_true c10
        clear c10
        by_cases c11:0≤x30_1
        ·rw [if_pos c11] at H
         have c11b0:decide (0≤x30_1)=true:=decide_eq_true c11
         clear c11
         by_cases c12:x30_1 < (l0.length:Int)
         ·rw [if_pos c12] at H
          have c12b0:decide (x30_1 < (l0.length:Int))=true:=decide_eq_true c12
          clear c12
          by_cases c13:x30_1 < (l1.length:Int)
          ·rw [if_pos c13] at H
           have c13b0:decide (x30_1 < (l1.length:Int))=true:=decide_eq_true c13
           clear c13
           replace H:=Option.bind_eq_some_iff.mp H
           obtain ⟨t423,A140,H⟩:=H
           replace H:(if t423 > (rd l0 x30_1) then (some (([]:List Int),1)) else (seal_Pack.l1 k1 l1 x8_1 x9_1 x30_1 (rd l0 x30_1) l0 (l0.length:Int) x30_1 (rd l0 x30_1) 0))=some (r1,r2):=H
           have A14:=Aside0.mk A140
           clear A140
           by_cases c15:t423 > (rd l0 x30_1)
           ·rw [if_pos c15] at H
            have c15b0:decide ((rd l0 x30_1) < t423)=true:=decide_eq_true c15
            clear c15
            simp only [Option.some.injEq,Prod.mk.injEq] at H
            obtain ⟨rfl,rfl⟩:=H
            have p421:0≤(x30_1:Int):=of_decide_eq_true (by first|(with_reducible assumption)|assumption)
            have q421:x30_1 < (l0.length:Int):=of_decide_eq_true (by first|(with_reducible assumption)|assumption)
            obtain ⟨ad421,e421,hx421_0⟩:=Kd.at_int HR0.out x30_1 p421 q421
            cases e421
            replace hx421_0:=(HB.out.cell (World.block_lt_of_cell? w _ hx421_0)).trans hx421_0
            replace p421:=eq_true p421
            replace q421:=eq_true q421
            have p422:0≤(x30_1:Int):=of_decide_eq_true (by first|(with_reducible assumption)|assumption)
            have q422:x30_1 < (l1.length:Int):=of_decide_eq_true (by first|(with_reducible assumption)|assumption)
            obtain ⟨ad422,e422,hx422_0⟩:=Kd.at_int HR1.out x30_1 p422 q422
            cases e422
            replace hx422_0:=(HB.out.cell (World.block_lt_of_cell? w _ hx422_0)).trans hx422_0
            replace p422:=eq_true p422
            replace q422:=eq_true q422
            go_wp2_with (first|((with_reducible refine gate_callee (f:=62) rfl ?_);refine goesL_ (some 39) rfl rfl Try.func62 (by kernel_rfl) rfl #[.int .u64 (rd l1 x30_1)] rfl (by (try simp only [List.map_toArray,List.map_cons,List.map_nil]);first|done|rfl|(simp only [List.length_drop,List.length_take];rfl)) ?_;(with_reducible refine (bits_Len64.calls k1 (rd l1 x30_1) t423 _ A14.out).mono ?_);rintro e w' ⟨rfl,⟨nd,rfl⟩⟩;refine ⟨_,rfl,?_⟩))
            go_ret2
            exact ⟨_,by first|rfl|(simp [errW_none,errW_some] <;> rfl)|(simp [*,errW_none,errW_some] <;> rfl),by first|exact Kd.R_nil _ _ _ _ _|exact Kd.N_nil _ _ _ _ _|exact Kd.V_nil _ _ _ _ _|exact Kd.Q_nil _ _ _ _ _|exact Kd.S_nil _ _ _ _ _,by repeat (first|(with_reducible first|exact HB.out|apply below_alloc|apply pw_below_drewN|apply below_drew1)|exact HB.out)⟩
           ·rw [if_neg c15] at H
            have c15b0:decide ((rd l0 x30_1) < t423)=false:=decide_eq_false c15
            clear c15
            have H':=Aside0.mk H
            clear H
            have p421:0≤(x30_1:Int):=of_decide_eq_true (by first|(with_reducible assumption)|assumption)
            have q421:x30_1 < (l0.length:Int):=of_decide_eq_true (by first|(with_reducible assumption)|assumption)
            obtain ⟨ad421,e421,hx421_0⟩:=Kd.at_int HR0.out x30_1 p421 q421
            cases e421
            replace hx421_0:=(HB.out.cell (World.block_lt_of_cell? w _ hx421_0)).trans hx421_0
            replace p421:=eq_true p421
            replace q421:=eq_true q421
            have p422:0≤(x30_1:Int):=of_decide_eq_true (by first|(with_reducible assumption)|assumption)
            have q422:x30_1 < (l1.length:Int):=of_decide_eq_true (by first|(with_reducible assumption)|assumption)
            obtain ⟨ad422,e422,hx422_0⟩:=Kd.at_int HR1.out x30_1 p422 q422
            cases e422
            replace hx422_0:=(HB.out.cell (World.block_lt_of_cell? w _ hx422_0)).trans hx422_0
            replace p422:=eq_true p422
            replace q422:=eq_true q422
            go_wp2_with (first|((with_reducible refine gate_callee (f:=62) rfl ?_);refine goesL_ (some 39) rfl rfl Try.func62 (by kernel_rfl) rfl #[.int .u64 (rd l1 x30_1)] rfl (by (try simp only [List.map_toArray,List.map_cons,List.map_nil]);first|done|rfl|(simp only [List.length_drop,List.length_take];rfl)) ?_;(with_reducible refine (bits_Len64.calls k1 (rd l1 x30_1) t423 _ A14.out).mono ?_);rintro e w' ⟨rfl,⟨nd,rfl⟩⟩;refine ⟨_,rfl,?_⟩))
            go_loopg [9,43] k1 (fun kq v9 v43 w'=>∃ (x8_2:List Int) (x9_2:Int) (x43_2:Int),v9=.int .i64 x9_2∧v43=.int .i64 x43_2∧Aside0 (seal_Pack.l1 kq l1 x8_2 x9_2 x30_1 (rd l0 x30_1) l0 (l0.length:Int) x30_1 (rd l0 x30_1) x43_2=some (r1,r2))∧Aside0 (kq≤k1)∧Aside0 (Kd.R (Kd.int .u8) 5 w' w.heap.size (fun _=>True) v419 x8_2)∧Aside0 (Below w.heap.size w w'))
            case atStart=>exact ⟨(x8_1),(x9_1),(0),(by first|rfl|(simp;done)|(simp [*];done)),(by first|rfl|(simp;done)|(simp [*];done)),H',⟨Nat.le_refl _⟩,⟨by (with_reducible repeat (first|apply Kd.R_alloc|apply Kd.R_drewN|apply Kd.R_drew));exact HO_8.out⟩,⟨by repeat (first|(with_reducible first|exact HB.out|apply below_alloc|apply pw_below_drewN|apply below_drew1)|exact HB.out)⟩⟩
            case round =>
             clear H'
             try clear c1
             try clear p2
             try clear c4
             try clear c4b0
             try clear c4b1
             try clear p4
             try clear q4
             try clear hx4
             try clear c5
             try clear c5b0
             try clear c5b1
             try clear c5b2
             try clear c6
             try clear c6b0
             try clear c6b1
             try clear c7
             try clear c7b0
             try clear c7b1
             try clear c10
             try clear c10b0
             try clear c11
             try clear c11b0
             try clear c12
             try clear c12b0
             try clear c13
             try clear c13b0
             try clear c15
             try clear c15b0
             try clear hx421_0
             try clear hx422_0
             try clear p2
             try clear p421
             try clear p422
             try clear q421
             try clear q422
             obtain ⟨x8_2,x9_2,x43_2,rfl,rfl,HA,HK2,HO_8,HB⟩:=hrel
             cases gk with
             | zero=>exact absurd HA.out (by simp [seal_Pack.l1])
             | succ k2 =>
              have H:=HA.out
              clear HA
              simp only [seal_Pack.l1] at H
              by_cases c16:x43_2 < (rd l0 x30_1)
              ·rw [if_pos c16] at H
               have c16b0:decide (x43_2 < (rd l0 x30_1))=true:=decide_eq_true c16
               clear c16
               obtain ⟨ji17,hji17⟩:∃ j_:Int,(wrap64 (Int.tdiv x9_2 8))=j_:=⟨_,rfl⟩
               replace H:(if 0≤(ji17) then (if (ji17) < (x8_2.length:Int) then (if 0≤x30_1 then (if x30_1 < (l1.length:Int) then (if 0≤(wrap64 ((wrap64 ((rd l0 x30_1) - 1)) - x43_2)) then (if 0≤(wrap64 (7 - (Int.tmod x9_2 8))) then (seal_Pack.l1 k2 l1 (x8_2.set ((ji17):Int).toNat (Go.bits .or .u8 (rd x8_2 (ji17)) (shl .u8 ((Go.bits .and .u64 (shr .u64 (rd l1 x30_1) (wrap64 ((wrap64 ((rd l0 x30_1) - 1)) - x43_2))) 1) % 256) (wrap64 (7 - (Int.tmod x9_2 8)))))) (wrap64 (x9_2 + 1)) x30_1 (rd l0 x30_1) l0 (l0.length:Int) x30_1 (rd l0 x30_1) (wrap64 (x43_2 + 1))) else (none)) else (none)) else (none)) else (none)) else (none)) else (none))=some (r1,r2):=by first|(rw [hji17] at H;exact H)|(simp only [hji17] at H ⊢;exact H)
               have hji17w:(IntKind.i64.wrap (Int.tdiv x9_2 8))=ji17:=(i64_w _).trans hji17
               by_cases c18:0≤(ji17)
               ·rw [if_pos c18] at H
                have c18b0:decide (0≤(ji17))=true:=decide_eq_true c18
                clear c18
                by_cases c19:(ji17) < (x8_2.length:Int)
                ·rw [if_pos c19] at H
                 have c19b0:decide ((ji17) < (x8_2.length:Int))=true:=decide_eq_true c19
                 clear c19
                 by_cases c20:0≤x30_1
                 ·rw [if_pos c20] at H
                  have c20b0:decide (0≤x30_1)=true:=decide_eq_true c20
                  clear c20
                  by_cases c21:x30_1 < (l1.length:Int)
                  ·rw [if_pos c21] at H
                   have c21b0:decide (x30_1 < (l1.length:Int))=true:=decide_eq_true c21
                   clear c21
                   obtain ⟨ji22,hji22⟩:∃ j_:Int,(wrap64 ((wrap64 ((rd l0 x30_1) - 1)) - x43_2))=j_:=⟨_,rfl⟩
                   replace H:(if 0≤(ji22) then (if 0≤(wrap64 (7 - (Int.tmod x9_2 8))) then (seal_Pack.l1 k2 l1 (x8_2.set ((ji17):Int).toNat (Go.bits .or .u8 (rd x8_2 (ji17)) (shl .u8 ((Go.bits .and .u64 (shr .u64 (rd l1 x30_1) (ji22)) 1) % 256) (wrap64 (7 - (Int.tmod x9_2 8)))))) (wrap64 (x9_2 + 1)) x30_1 (rd l0 x30_1) l0 (l0.length:Int) x30_1 (rd l0 x30_1) (wrap64 (x43_2 + 1))) else (none)) else (none))=some (r1,r2):=by first|(rw [hji22] at H;exact H)|(simp only [hji22] at H ⊢;exact H)
                   have hji22w:(IntKind.i64.wrap ((wrap64 ((rd l0 x30_1) - 1)) - x43_2))=ji22:=(i64_w _).trans hji22
                   by_cases c23:0≤(ji22)
                   ·rw [if_pos c23] at H
                    have c23b0:=eq_true c23
                    have c23b1:decide (0≤(ji22))=true:=decide_eq_true c23
                    clear c23
                    obtain ⟨ji24,hji24⟩:∃ j_:Int,(shr .u64 (rd l1 x30_1) (ji22))=j_:=⟨_,rfl⟩
                    replace H:(if 0≤(wrap64 (7 - (Int.tmod x9_2 8))) then (seal_Pack.l1 k2 l1 (x8_2.set ((ji17):Int).toNat (Go.bits .or .u8 (rd x8_2 (ji17)) (shl .u8 ((Go.bits .and .u64 (ji24) 1) % 256) (wrap64 (7 - (Int.tmod x9_2 8)))))) (wrap64 (x9_2 + 1)) x30_1 (rd l0 x30_1) l0 (l0.length:Int) x30_1 (rd l0 x30_1) (wrap64 (x43_2 + 1))) else (none))=some (r1,r2):=by first|(rw [hji24] at H;exact H)|(simp only [hji24] at H ⊢;exact H)
                    have hji24_:((rd l1 x30_1) / 2 ^ min (ji22).toNat 64)=ji24:=hji24
                    have hji24z:(ji22)≤64 → ((rd l1 x30_1) / 2 ^ (ji22).toNat)=ji24:=shr_small hji24
                    obtain ⟨ji25,hji25⟩:∃ j_:Int,(wrap64 (7 - (Int.tmod x9_2 8)))=j_:=⟨_,rfl⟩
                    replace H:(if 0≤(ji25) then (seal_Pack.l1 k2 l1 (x8_2.set ((ji17):Int).toNat (Go.bits .or .u8 (rd x8_2 (ji17)) (shl .u8 ((Go.bits .and .u64 (ji24) 1) % 256) (ji25)))) (wrap64 (x9_2 + 1)) x30_1 (rd l0 x30_1) l0 (l0.length:Int) x30_1 (rd l0 x30_1) (wrap64 (x43_2 + 1))) else (none))=some (r1,r2):=by first|(rw [hji25] at H;exact H)|(simp only [hji25] at H ⊢;exact H)
                    have hji25w:(IntKind.i64.wrap (7 - (Int.tmod x9_2 8)))=ji25:=(i64_w _).trans hji25
                    by_cases c26:0≤(ji25)
                    ·rw [if_pos c26] at H
                     have c26b0:=eq_true c26
                     have c26b1:decide (0≤(ji25))=true:=decide_eq_true c26
                     clear c26
                     obtain ⟨ji27,hji27⟩:∃ j_:Int,(shl .u8 ((Go.bits .and .u64 (ji24) 1) % 256) (ji25))=j_:=⟨_,rfl⟩
                     replace H:(seal_Pack.l1 k2 l1 (x8_2.set ((ji17):Int).toNat (Go.bits .or .u8 (rd x8_2 (ji17)) (ji27))) (wrap64 (x9_2 + 1)) x30_1 (rd l0 x30_1) l0 (l0.length:Int) x30_1 (rd l0 x30_1) (wrap64 (x43_2 + 1)))=some (r1,r2):=by first|(rw [hji27] at H;exact H)|(simp only [hji27] at H ⊢;exact H)
                     have hji27_:(IntKind.u8.wrap (((Go.bits .and .u64 (ji24) 1) % 256) * 2 ^ min (ji25).toNat 8))=ji27:=hji27
                     have hji27z:(ji25)≤8 → (IntKind.u8.wrap (((Go.bits .and .u64 (ji24) 1) % 256) * 2 ^ (ji25).toNat))=ji27:=shl_small hji27
                     have hji27m:(((Go.bits .and .u64 (ji24) 1) % 256) * 2 ^ min (ji25).toNat 8) % 256=ji27:=(IntKind.wrap_u8 _).symm.trans hji27_
                     have hji27n:(ji25)≤8 → (((Go.bits .and .u64 (ji24) 1) % 256) * 2 ^ (ji25).toNat) % 256=ji27:=fun hle_=>(IntKind.wrap_u8 _).symm.trans (hji27z hle_)
                     obtain ⟨y426,hy426⟩:∃ y_:List Int,y_=(x8_2.set ((ji17):Int).toNat (Go.bits .or .u8 (rd x8_2 (ji17)) (ji27))):=⟨_,rfl⟩
                     replace H:(seal_Pack.l1 k2 l1 y426 (wrap64 (x9_2 + 1)) x30_1 (rd l0 x30_1) l0 (l0.length:Int) x30_1 (rd l0 x30_1) (wrap64 (x43_2 + 1)))=some (r1,r2):=by first|(rw [hy426];with_reducible exact H)|(have H2_:=(Option.bind_some _ _).symm.trans H;rw [hy426];with_reducible exact H2_)|(have H2_:=(Option.bind_some _ _).symm.trans H;with_reducible exact H2_)|with_reducible exact H|(rw [hy426];exact H)|exact H
                     have Ny426:=Aside0.mk hy426
                     clear hy426
                     have H':=Aside0.mk H
                     clear H
                     try go_wp2
                     have n0_:=Aside0.mk (Kd.R_drew HO_8.out)
                     have n1_:=Aside0.mk (below_drew1 HB.out)
                     clear HO_8 HB
                     have HO_8:=n0_
                     have HB:=n1_
                     clear n0_ n1_
                     obtain ⟨Ao30,co30,eo30⟩:=Kd.R_slice HO_8.out
                     (first|subst eo30|(injection eo30 with f1_ f2_ f3_;have f4_:=f1_.symm;have f5_:=f3_.symm;clear f1_ f2_ f3_;subst f4_;subst f5_))
                     have p424:0≤((ji17):Int):=of_decide_eq_true (by first|(with_reducible assumption)|assumption)
                     have q424:(ji17) < (x8_2.length:Int):=of_decide_eq_true (by first|(with_reducible assumption)|assumption)
                     obtain ⟨ad424,e424,hx424_0⟩:=Kd.at_int (Kd.R_reads' HO_8.out).2.2 (ji17) p424 q424
                     cases e424
                     replace p424:=eq_true p424
                     replace q424:=eq_true q424
                     have p425:0≤(x30_1:Int):=of_decide_eq_true (by first|(with_reducible assumption)|assumption)
                     have q425:x30_1 < (l1.length:Int):=of_decide_eq_true (by first|(with_reducible assumption)|assumption)
                     obtain ⟨ad425,e425,hx425_0⟩:=Kd.at_int HR1.out x30_1 p425 q425
                     have hw425_0:=hx425_0
                     obtain rfl:ad422=ad425:=(by injection e425)
                     replace hx425_0:=(HB.out.cell (World.block_lt_of_cell? w _ hx425_0)).trans hx425_0
                     replace p425:=eq_true p425
                     replace q425:=eq_true q425
                     have p28:0≤((ji17):Int):=of_decide_eq_true (by first|(with_reducible assumption)|assumption)
                     have q28:((ji17):Int) < ((x8_2.length:Int):Int):=of_decide_eq_true (by first|(with_reducible assumption)|assumption)
                     obtain ⟨go28,co28,eo28,gb28,gl28,cl28,HG28⟩:=Kd.R_form HO_8.out (by omega)
                     (first|cases eo28|(injection eo28 with ea_ en_ ec_;(first|subst ea_|(injection ea_ with ea_;subst ea_));subst ec_;clear en_))
                     have GB28:=Aside0.mk gb28
                     have GG28:=Aside0.mk HG28
                     clear gb28 gl28 HG28
                     (first|simp only [add_plain] at hx424_0|skip)
                     obtain ⟨hx28_0,hf28_0⟩:=Kd.R_celln 0 HO_8.out ((ji17):Int) p28 q28
                     replace p28:=eq_true p28
                     replace q28:=eq_true q28
                     have HP31:=Kd.R_putn HO_8.out ((ji17):Int) (Go.bits .or .u8 (rd x8_2 (ji17)) (ji27))
                     rw [← Ny426.out] at HP31
                     have HQ31:=Aside0.mk HP31
                     clear HP31
                     refine start_ (n:=23) (S:=fun w'=>w'.cell? ⟨go28,((ji17)).toNat,none⟩=some (.int .u8 (rd x8_2 (ji17)))∧w'.cell? (ad422.add (x30_1).toNat)=some (.int .u64 (rd l1 x30_1))) (ds:=[22]) #[false,false,false,false,false,false,false,false,false,false,false,false,false,false,false,false,false,false,false,false,false,false,false] (by kernel_rfl) rfl rfl ⟨hx424_0,((HB.out.cell (World.block_lt_of_cell? w _ hw425_0)).trans hw425_0)⟩ (fun hHeld=>?_);refine with_tabW seal_Pack.tab16 seal_Pack.bits16 (fun HT_ HW_=>?_)
                     generalize wr.drew=w29 at HO_8 HB GG28 HQ31 hf28_0 hx28_0 hx424_0 hx425_0 hHeld ⊢
                     refine pure_ (i:=0) (N:=some 46) (v:=?_) (a':=?_) #[true,false,false,false,false,false,false,false,false,false,false,false,false,false,false,false,false,false,false,false,false,false,false] rfl rfl (any_of HT_.out (by kernel_rfl)) (fun _ _ _ h=>h) (Or.inl ⟨by rfl,?_⟩) ?_ ?_
                     rotate_left
                     ·intro w'
                      go_simp
                      with_reducible rfl
                     rotate_left
                     ·simp only [Act.put,List.setIfInBounds_toArray,List.set_cons_zero,List.set_cons_succ,i64_w,i32_w]
                      rfl
                     refine pure_ (i:=1) (N:=some 47) (v:=?_) (a':=?_) #[true,true,false,false,false,false,false,false,false,false,false,false,false,false,false,false,false,false,false,false,false,false,false] rfl rfl (any_of HT_.out (by kernel_rfl)) (fun _ _ _ h=>h) (Or.inl ⟨by rfl,?_⟩) ?_ ?_
                     rotate_left
                     ·intro w'
                      go_simp
                      with_reducible rfl
                     rotate_left
                     ·simp only [Act.put,List.setIfInBounds_toArray,List.set_cons_zero,List.set_cons_succ,i64_w,i32_w]
                      rfl
                     refine pure_ (i:=2) (N:=some 48) (v:=?_) (a':=?_) #[true,true,true,false,false,false,false,false,false,false,false,false,false,false,false,false,false,false,false,false,false,false,false] rfl rfl (any_of HT_.out (by kernel_rfl)) (fun _ _ _ h=>h) (Or.inl ⟨by rfl,?_⟩) ?_ ?_
                     rotate_left
                     ·intro w'
                      go_simp
                      with_reducible rfl
                     rotate_left
                     ·simp only [Act.put,List.setIfInBounds_toArray,List.set_cons_zero,List.set_cons_succ,i64_w,i32_w]
                      rfl
                     refine pure_ (i:=3) (N:=some 49) (v:=?_) (a':=?_) #[true,true,true,true,false,false,false,false,false,false,false,false,false,false,false,false,false,false,false,false,false,false,false] rfl rfl (any_of HT_.out (by kernel_rfl)) (fun _ _ _ h=>h) (Or.inl ⟨by rfl,?_⟩) ?_ ?_
                     rotate_left
                     ·intro w'
                      go_simp
                      with_reducible rfl
                     rotate_left
                     ·simp only [Act.put,List.setIfInBounds_toArray,List.set_cons_zero,List.set_cons_succ,i64_w,i32_w]
                      rfl
                     refine pure_ (i:=5) (N:=some 51) (v:=?_) (a':=?_) #[true,true,true,true,false,true,false,false,false,false,false,false,false,false,false,false,false,false,false,false,false,false,false] rfl rfl (any_of HT_.out (by kernel_rfl)) (fun _ _ _ h=>h) (Or.inl ⟨by rfl,?_⟩) ?_ ?_
                     rotate_left
                     ·intro w'
                      go_simp
                      with_reducible rfl
                     rotate_left
                     ·simp only [Act.put,List.setIfInBounds_toArray,List.set_cons_zero,List.set_cons_succ,i64_w,i32_w]
                      rfl
                     refine pure_ (i:=6) (N:=some 52) (v:=?_) (a':=?_) #[true,true,true,true,false,true,true,false,false,false,false,false,false,false,false,false,false,false,false,false,false,false,false] rfl rfl (any_of HT_.out (by kernel_rfl)) (fun _ _ _ h=>h) (Or.inl ⟨by rfl,?_⟩) ?_ ?_
                     rotate_left
                     ·intro w'
                      go_simp
                      with_reducible rfl
                     rotate_left
                     ·simp only [Act.put,List.setIfInBounds_toArray,List.set_cons_zero,List.set_cons_succ,i64_w,i32_w]
                      rfl
                     refine pure_ (i:=7) (N:=some 53) (v:=?_) (a':=?_) #[true,true,true,true,false,true,true,true,false,false,false,false,false,false,false,false,false,false,false,false,false,false,false] rfl rfl (any_of HT_.out (by kernel_rfl)) (fun _ _ _ h=>h) (Or.inl ⟨by rfl,?_⟩) ?_ ?_
                     rotate_left
                     ·intro w'
                      go_simp
                      with_reducible rfl
                     rotate_left
                     ·simp only [Act.put,List.setIfInBounds_toArray,List.set_cons_zero,List.set_cons_succ,i64_w,i32_w]
                      rfl
                     refine pure_ (i:=9) (N:=some 55) (v:=?_) (a':=?_) #[true,true,true,true,false,true,true,true,false,true,false,false,false,false,false,false,false,false,false,false,false,false,false] rfl rfl (any_of HT_.out (by kernel_rfl)) (fun _ _ _ h=>h) (Or.inl ⟨by rfl,?_⟩) ?_ ?_
                     rotate_left
                     ·intro w'
                      go_simp
                      with_reducible rfl
                     rotate_left
                     ·simp only [Act.put,List.setIfInBounds_toArray,List.set_cons_zero,List.set_cons_succ,i64_w,i32_w]
                      rfl
                     refine pure_ (i:=10) (N:=some 56) (v:=?_) (a':=?_) #[true,true,true,true,false,true,true,true,false,true,true,false,false,false,false,false,false,false,false,false,false,false,false] rfl rfl (any_of HT_.out (by kernel_rfl)) (fun _ _ _ h=>h) (Or.inl ⟨by rfl,?_⟩) ?_ ?_
                     rotate_left
                     ·intro w'
                      go_simp
                      with_reducible rfl
                     rotate_left
                     ·simp only [Act.put,List.setIfInBounds_toArray,List.set_cons_zero,List.set_cons_succ,i64_w,i32_w]
                      rfl
                     refine pure_ (i:=11) (N:=some 57) (v:=?_) (a':=?_) #[true,true,true,true,false,true,true,true,false,true,true,true,false,false,false,false,false,false,false,false,false,false,false] rfl rfl (any_of HT_.out (by kernel_rfl)) (fun _ _ _ h=>h) (Or.inl ⟨by rfl,?_⟩) ?_ ?_
                     rotate_left
                     ·intro w'
                      go_simp
                      with_reducible rfl
                     rotate_left
                     ·simp only [Act.put,List.setIfInBounds_toArray,List.set_cons_zero,List.set_cons_succ,i64_w,i32_w]
                      rfl
                     refine pure_ (i:=12) (N:=some 58) (v:=?_) (a':=?_) #[true,true,true,true,false,true,true,true,false,true,true,true,true,false,false,false,false,false,false,false,false,false,false] rfl rfl (any_of HT_.out (by kernel_rfl)) (fun _ _ _ h=>h) (Or.inl ⟨by rfl,?_⟩) ?_ ?_
                     rotate_left
                     ·intro w'
                      go_simp
                      with_reducible rfl
                     rotate_left
                     ·simp only [Act.put,List.setIfInBounds_toArray,List.set_cons_zero,List.set_cons_succ,i64_w,i32_w]
                      rfl
                     refine pure_ (i:=16) (N:=some 62) (v:=?_) (a':=?_) #[true,true,true,true,false,true,true,true,false,true,true,true,true,false,false,false,true,false,false,false,false,false,false] rfl rfl (any_of HT_.out (by kernel_rfl)) (fun _ _ _ h=>h) (Or.inl ⟨by rfl,?_⟩) ?_ ?_
                     rotate_left
                     ·intro w'
                      go_simp
                      with_reducible rfl
                     rotate_left
                     ·simp only [Act.put,List.setIfInBounds_toArray,List.set_cons_zero,List.set_cons_succ,i64_w,i32_w]
                      rfl
                     refine pure_ (i:=17) (N:=some 63) (v:=?_) (a':=?_) #[true,true,true,true,false,true,true,true,false,true,true,true,true,false,false,false,true,true,false,false,false,false,false] rfl rfl (any_of HT_.out (by kernel_rfl)) (fun _ _ _ h=>h) (Or.inl ⟨by rfl,?_⟩) ?_ ?_
                     rotate_left
                     ·intro w'
                      go_simp
                      with_reducible rfl
                     rotate_left
                     ·simp only [Act.put,List.setIfInBounds_toArray,List.set_cons_zero,List.set_cons_succ,i64_w,i32_w]
                      rfl
                     refine pure_ (i:=18) (N:=some 64) (v:=?_) (a':=?_) #[true,true,true,true,false,true,true,true,false,true,true,true,true,false,false,false,true,true,true,false,false,false,false] rfl rfl (any_of HT_.out (by kernel_rfl)) (fun _ _ _ h=>h) (Or.inl ⟨by rfl,?_⟩) ?_ ?_
                     rotate_left
                     ·intro w'
                      go_simp
                      with_reducible rfl
                     rotate_left
                     ·simp only [Act.put,List.setIfInBounds_toArray,List.set_cons_zero,List.set_cons_succ,i64_w,i32_w]
                      rfl
                     refine take_ (i:=4) (N:=some 50) (v:=?_) (a':=?_) #[true,true,true,true,true,true,true,true,false,true,true,true,true,false,false,false,true,true,true,false,false,false,false] rfl rfl (take_ofW HT_.out HW_.out (by kernel_rfl)) (fun _ _ _ h=>h) (Or.inl ⟨by rfl,?_⟩) hHeld ?_ ?_
                     rotate_left
                     ·rintro w' ⟨s0,s1⟩
                      go_simp
                      with_reducible rfl
                     rotate_left
                     ·simp only [Act.put,List.setIfInBounds_toArray,List.set_cons_zero,List.set_cons_succ,i64_w,i32_w]
                      rfl
                     refine take_ (i:=8) (N:=some 54) (v:=?_) (a':=?_) #[true,true,true,true,true,true,true,true,true,true,true,true,true,false,false,false,true,true,true,false,false,false,false] rfl rfl (take_ofW HT_.out HW_.out (by kernel_rfl)) (fun _ _ _ h=>h) (Or.inl ⟨by rfl,?_⟩) hHeld ?_ ?_
                     rotate_left
                     ·rintro w' ⟨s0,s1⟩
                      go_simp
                      with_reducible rfl
                     rotate_left
                     ·simp only [Act.put,List.setIfInBounds_toArray,List.set_cons_zero,List.set_cons_succ,i64_w,i32_w]
                      rfl
                     refine pure_ (i:=13) (N:=some 59) (v:=?_) (a':=?_) #[true,true,true,true,true,true,true,true,true,true,true,true,true,true,false,false,true,true,true,false,false,false,false] rfl rfl (any_of HT_.out (by kernel_rfl)) (fun _ _ _ h=>h) (Or.inl ⟨by rfl,?_⟩) ?_ ?_
                     rotate_left
                     ·intro w'
                      go_simp
                      with_reducible rfl
                     rotate_left
                     ·simp only [Act.put,List.setIfInBounds_toArray,List.set_cons_zero,List.set_cons_succ,i64_w,i32_w]
                      rfl
                     refine pure_ (i:=14) (N:=some 60) (v:=?_) (a':=?_) #[true,true,true,true,true,true,true,true,true,true,true,true,true,true,true,false,true,true,true,false,false,false,false] rfl rfl (any_of HT_.out (by kernel_rfl)) (fun _ _ _ h=>h) (Or.inl ⟨by rfl,?_⟩) ?_ ?_
                     rotate_left
                     ·intro w'
                      go_simp
                      with_reducible rfl
                     rotate_left
                     ·simp only [Act.put,List.setIfInBounds_toArray,List.set_cons_zero,List.set_cons_succ,i64_w,i32_w]
                      rfl
                     refine pure_ (i:=15) (N:=some 61) (v:=?_) (a':=?_) #[true,true,true,true,true,true,true,true,true,true,true,true,true,true,true,true,true,true,true,false,false,false,false] rfl rfl (any_of HT_.out (by kernel_rfl)) (fun _ _ _ h=>h) (Or.inl ⟨by rfl,?_⟩) ?_ ?_
                     rotate_left
                     ·intro w'
                      go_simp
                      with_reducible rfl
                     rotate_left
                     ·simp only [Act.put,List.setIfInBounds_toArray,List.set_cons_zero,List.set_cons_succ,i64_w,i32_w]
                      rfl
                     refine pure_ (i:=19) (N:=some 65) (v:=?_) (a':=?_) #[true,true,true,true,true,true,true,true,true,true,true,true,true,true,true,true,true,true,true,true,false,false,false] rfl rfl (any_of HT_.out (by kernel_rfl)) (fun _ _ _ h=>h) (Or.inl ⟨by rfl,?_⟩) ?_ ?_
                     rotate_left
                     ·intro w'
                      go_simp
                      with_reducible rfl
                     rotate_left
                     ·simp only [Act.put,List.setIfInBounds_toArray,List.set_cons_zero,List.set_cons_succ,i64_w,i32_w]
                      rfl
                     refine pure_ (i:=20) (N:=some 66) (v:=?_) (a':=?_) #[true,true,true,true,true,true,true,true,true,true,true,true,true,true,true,true,true,true,true,true,true,false,false] rfl rfl (any_of HT_.out (by kernel_rfl)) (fun _ _ _ h=>h) (Or.inl ⟨by rfl,?_⟩) ?_ ?_
                     rotate_left
                     ·intro w'
                      go_simp
                      with_reducible rfl
                     rotate_left
                     ·simp only [Act.put,List.setIfInBounds_toArray,List.set_cons_zero,List.set_cons_succ,i64_w,i32_w]
                      rfl
                     refine pure_ (i:=21) (N:=some 67) (v:=?_) (a':=?_) #[true,true,true,true,true,true,true,true,true,true,true,true,true,true,true,true,true,true,true,true,true,true,false] rfl rfl (any_of HT_.out (by kernel_rfl)) (fun _ _ _ h=>h) (Or.inl ⟨by rfl,?_⟩) ?_ ?_
                     rotate_left
                     ·intro w'
                      go_simp
                      with_reducible rfl
                     rotate_left
                     ·simp only [Act.put,List.setIfInBounds_toArray,List.set_cons_zero,List.set_cons_succ,i64_w,i32_w]
                      rfl
                     refine last_ (i:=22) (N:=none) #[true,true,true,true,true,true,true,true,true,true,true,true,true,true,true,true,true,true,true,true,true,true,true] rfl rfl (one_of HT_.out (by kernel_rfl)) (by decide) (fun K hK=>?_)
                     refine skip_ (w1:=?_) (by rfl) rfl ?_ ?_
                     rotate_left
                     ·go_simp
                      rfl
                     refine hK.out _ _ ?_
                     clear hK K
                     refine done_ (done_of HT_.out (by kernel_rfl)) ?_
                     try go_wp2
                     go_roundg k2
                     case measure=>have:=HK1.out;have:=HK2.out;omega
                     case rel=>exact ⟨(y426),(wrap64 (x9_2 + 1)),(wrap64 (x43_2 + 1)),(by first|rfl|(simp;done)|(simp [*];done)),(by first|rfl|(simp;done)|(simp [*];done)),H',⟨by have:=HK1.out;have:=HK2.out;omega⟩,⟨by (with_reducible repeat (first|apply Kd.R_alloc|apply Kd.R_drewN|apply Kd.R_drew));exact HQ31.out⟩,⟨by repeat (first|(with_reducible first|exact HB.out|apply below_alloc|apply pw_below_drewN|apply below_drew1|refine below_set ?_ GB28.out)|exact HB.out)⟩⟩
                    ·rw [if_neg c26] at H
                     exact absurd H (by simp)
                   ·rw [if_neg c23] at H
                    exact absurd H (by simp)
                  ·rw [if_neg c21] at H
                   exact absurd H (by simp)
                 ·rw [if_neg c20] at H
                  exact absurd H (by simp)
                ·rw [if_neg c19] at H
                 exact absurd H (by simp)
               ·rw [if_neg c18] at H
                exact absurd H (by simp)
              ·rw [if_neg c16] at H
               have c16b0:decide (x43_2 < (rd l0 x30_1))=false:=decide_eq_false c16
               clear c16
               have H':=Aside0.mk H
               clear H
               go_wp2
               go_roundg k2
               case measure=>have:=HK1.out;have:=HK2.out;omega
               case rel=>exact ⟨(x8_2),(x9_2),(wrap64 (x30_1 + 1)),(by first|rfl|(simp;done)|(simp [*];done)),(by first|rfl|(simp;done)|(simp [*];done)),H',⟨by have:=HK1.out;have:=HK2.out;omega⟩,⟨by (with_reducible repeat (first|apply Kd.R_alloc|apply Kd.R_drewN|apply Kd.R_drew));exact HO_8.out⟩,⟨by repeat (first|(with_reducible first|exact HB.out|apply below_alloc|apply pw_below_drewN|apply below_drew1)|exact HB.out)⟩⟩
          ·rw [if_neg c13] at H
           exact absurd H (by simp)
         ·rw [if_neg c12] at H
          exact absurd H (by simp)
        ·rw [if_neg c11] at H
         exact absurd H (by simp)
       ·rw [if_neg c10] at H
        have c10b0:decide (x30_1 < (l0.length:Int))=false:=decide_eq_false c10
        clear c10
        simp only [Option.some.injEq,Prod.mk.injEq] at H
        obtain ⟨rfl,rfl⟩:=H
        go_wp2
        go_ret2
        exact ⟨_,by first|rfl|(simp [errW_none,errW_some] <;> rfl)|(simp [*,errW_none,errW_some] <;> rfl),by (with_reducible repeat (first|apply Kd.R_alloc|apply Kd.R_drewN|apply Kd.R_drew));exact HO_8.out,by repeat (first|(with_reducible first|exact HB.out|apply below_alloc|apply pw_below_drewN|apply below_drew1)|exact HB.out)⟩
    ·rw [if_neg c7] at H
     exact absurd H (by simp)
   ·rw [if_neg c6] at H
    exact absurd H (by simp)
  ·rw [if_neg c5] at H
   have c5b0:((l1.length:Int) == (l0.length:Int))=false:=beq_eq_false_iff_ne.mpr c5
   have c5b1:((l1.length:Int) != (l0.length:Int))=true:=bne_iff_ne.mpr c5
   have c5b2:(l1.length == l0.length)=false:=by first|simpa using c5|(simp at c5 ⊢;omega)
   simp only [Option.some.injEq,Prod.mk.injEq] at H
   obtain ⟨rfl,rfl⟩:=H
   go_enter Try.func53,Try.ntmps53
   go_wp2_with (first|((with_reducible refine gate_callee (f:=58) rfl ?_);refine goesL_ (some 15) rfl rfl Try.func58 (by kernel_rfl) rfl #[.slice A0 l0.length c0] rfl (by (try simp only [List.map_toArray,List.map_cons,List.map_nil]);first|done|rfl|(simp only [List.length_drop,List.length_take];rfl)) ?_;(with_reducible refine (seal_Width.calls k _ _ l0 t416 t417 _ ?side1 ?side2 A3.out).mono ?_);(case side1=>repeat (first|exact HR0.out|(with_reducible refine Kd.C_alloc ?_ _)|(with_reducible refine Kd.C_drewN ?_ _)|(with_reducible refine Kd.C_drew ?_)));(case side2=>exact HC0.out);rintro e w' ⟨rfl,⟨nd,rfl⟩⟩;refine ⟨_,rfl,?_⟩))
   go_ret2
   exact ⟨_,by first|rfl|(simp [errW_none,errW_some] <;> rfl)|(simp [*,errW_none,errW_some] <;> rfl),by first|exact Kd.R_nil _ _ _ _ _|exact Kd.N_nil _ _ _ _ _|exact Kd.V_nil _ _ _ _ _|exact Kd.Q_nil _ _ _ _ _|exact Kd.S_nil _ _ _ _ _,by repeat (first|(with_reducible first|exact HB.out|apply below_alloc|apply pw_below_drewN|apply below_drew1)|exact HB.out)⟩
 ·rw [if_neg c4] at H
  have c4b0:(t417 == 0)=false:=beq_eq_false_iff_ne.mpr c4
  have c4b1:(t417 != 0)=true:=bne_iff_ne.mpr c4
  simp only [Option.some.injEq,Prod.mk.injEq] at H
  obtain ⟨rfl,rfl⟩:=H
  go_enter Try.func53,Try.ntmps53
  go_wp2_with (first|((with_reducible refine gate_callee (f:=58) rfl ?_);refine goesL_ (some 15) rfl rfl Try.func58 (by kernel_rfl) rfl #[.slice A0 l0.length c0] rfl (by (try simp only [List.map_toArray,List.map_cons,List.map_nil]);first|done|rfl|(simp only [List.length_drop,List.length_take];rfl)) ?_;(with_reducible refine (seal_Width.calls k _ _ l0 t416 t417 _ ?side1 ?side2 A3.out).mono ?_);(case side1=>repeat (first|exact HR0.out|(with_reducible refine Kd.C_alloc ?_ _)|(with_reducible refine Kd.C_drewN ?_ _)|(with_reducible refine Kd.C_drew ?_)));(case side2=>exact HC0.out);rintro e w' ⟨rfl,⟨nd,rfl⟩⟩;refine ⟨_,rfl,?_⟩))
  go_ret2
  exact ⟨_,by first|rfl|(simp [errW_none,errW_some] <;> rfl)|(simp [*,errW_none,errW_some] <;> rfl),by first|exact Kd.R_nil _ _ _ _ _|exact Kd.N_nil _ _ _ _ _|exact Kd.V_nil _ _ _ _ _|exact Kd.Q_nil _ _ _ _ _|exact Kd.S_nil _ _ _ _ _,by repeat (first|(with_reducible first|exact HB.out|apply below_alloc|apply pw_below_drewN|apply below_drew1)|exact HB.out)⟩
end Go.Proofs.Ytbdnmdmfnopihaa.Print
end
section
namespace Go.Proofs.Ytbdnmdmfnopihaa.Print
open Go.RowKit Go.Proofs.YtbdnmdmfnopihaaW.PrintWords Go.Proofs.YtbdnmdmfnopihaaW.PrintLast Go.Proofs.YtbdnmdmfnopihaaW.PrintMore
attribute [local go_sem] max2_int min2_int max_two min_two max_three min_three max_four min_four   -- for this text's walks alone
attribute [local go_sem ↓] Go.Proofs.Ytbdnmdmfnopihaa.Sem.isSome_setCell
attribute [local go_sem] Go.Instr.field Go.asAgg
set_option linter.unusedVariables false
set_option linter.unusedSimpArgs false
def layout_superWidths.f :Option (List Int):=some (([32,32,16,8,32,64]:List Int))
set_option maxHeartbeats 8000000 in
set_option maxRecDepth 100000 in
theorem layout_superWidths.calls  (r:List Int) (w:World) (h:layout_superWidths.f =some r) :
  Calls Try.prog 54 #[] w fun e w'=>∃ v0_:Value,e=.returned (v0_)∧Kd.R (Kd.int .i64) 3 w' w.heap.size (fun _=>True) v0_ r∧Below w.heap.size w w':=by
 have HB:=Aside0.mk (Below.refl w.heap.size w)
 have H:(some (([32,32,16,8,32,64]:List Int)))=some r:=h
 clear h
 obtain ⟨y427,hy427⟩:∃ y_:List Int,y_=(([32,32,16,8,32,64]:List Int)):=⟨_,rfl⟩
 replace H:(some y427)=some r:=by first|(rw [hy427];with_reducible exact H)|(have H2_:=(Option.bind_some _ _).symm.trans H;rw [hy427];with_reducible exact H2_)|(have H2_:=(Option.bind_some _ _).symm.trans H;with_reducible exact H2_)|with_reducible exact H|(rw [hy427];exact H)|exact H
 have Ny427:=Aside0.mk hy427
 clear hy427
 obtain rfl:=Option.some.inj H
 go_enter Try.func54,Try.ntmps54
 go_wp2_with (first|((with_reducible refine gate_dst (N:=1) rfl ?_);refine Kd.R_lit (Kd.int .i64) _ 3 ?hg (N:=1) ?hd (xs:=([32,32,16,8,32,64]:List Int)) (inner:=[.int .i64 32,.int .i64 32,.int .i64 16,.int .i64 8,.int .i64 32,.int .i64 64]) (ok:=fun _=>True) (okp:=fun _=>True) ?hr ?hp (fun _ hk=>hk) trivial (Below.refl _ _) (Nat.le_refl _) (by simp) ?_;(case hd=>rfl);(case hg=>rfl);(case hr=>first|(go_simp;done)|(go_simp;rfl));(case hp=>exact (Reps.one (show Kd.M (Kd.int .i64) _ _ _ 32 [.int .i64 32] from rfl) (Reps.one (show Kd.M (Kd.int .i64) _ _ _ 32 [.int .i64 32] from rfl) (Reps.one (show Kd.M (Kd.int .i64) _ _ _ 16 [.int .i64 16] from rfl) (Reps.one (show Kd.M (Kd.int .i64) _ _ _ 8 [.int .i64 8] from rfl) (Reps.one (show Kd.M (Kd.int .i64) _ _ _ 32 [.int .i64 32] from rfl) (Reps.one (show Kd.M (Kd.int .i64) _ _ _ 64 [.int .i64 64] from rfl) (Reps.none _ _))))))));intro v428 w1 ho2 hb hg_ hnew_;clear hg_ hnew_;(first|rw [← Ny427.out] at ho2|(simp only [Int.reduceToNat] at ho2;rw [← Ny427.out] at ho2));have n0_:=Aside0.mk (Kd.R_lower ho2 (below_size (by repeat (first|(with_reducible first|exact HB.out|apply below_alloc|apply pw_below_drewN|apply below_drew1)|exact HB.out))));have n1_:=Aside0.mk (below_step (by repeat (first|(with_reducible first|exact HB.out|apply below_alloc|apply pw_below_drewN|apply below_drew1)|exact HB.out)) hb);clear HB;have HO429:=n0_;have HB:=n1_;clear n0_ n1_;clear hb ho2))
 go_ret
 exact ⟨_,by first|rfl|(simp [errW_none,errW_some] <;> rfl)|(simp [*,errW_none,errW_some] <;> rfl),by (with_reducible repeat (first|apply Kd.R_alloc|apply Kd.R_drewN|apply Kd.R_drew));exact HO429.out,by repeat (first|(with_reducible first|exact HB.out|apply below_alloc|apply pw_below_drewN|apply below_drew1)|exact HB.out)⟩
def slices_Grow_byte_byte.f (l0:List Int) (a1:Int):Option (List Int):=if a1 < 0 then (none) else (if (wrap64 (a1)) > 0 then (if 0≤(wrap64 (a1)) then (if ([]:List Int).length + (wrap64 (a1):Int).toNat < 140737488355328 then ((some (([]:List Int) ++ List.replicate (wrap64 (a1):Int).toNat 0:List Int)).bind fun y430=>(if 0≤(y430.length:Int) then (some (y430.take (0:Int).toNat)) else (none))) else (none)) else (none)) else (some ([]:List Int)))
set_option maxHeartbeats 8000000 in
set_option maxRecDepth 100000 in
theorem slices_Grow_byte_byte.calls (A0:Option Addr) (c0:Nat) (l0:List Int) (a1:Int) (r:List Int) (w:World) (hr0:Kd.C (Kd.int .u8) w A0 l0.length l0) (hc0:l0.length≤c0) (h:slices_Grow_byte_byte.f l0 a1=some r) :
  Calls Try.prog 69 #[.slice none 0 0,.int .i64 a1] w fun e w'=>∃ v0_:Value,e=.returned (v0_)∧Kd.R (Kd.int .u8) 5 w' w.heap.size (fun _=>True) v0_ r∧Below w.heap.size w w':=by
 have HR0:=Aside0.mk hr0
 have HC0:=Aside0.mk hc0
 clear hr0 hc0
 have HB:=Aside0.mk (Below.refl w.heap.size w)
 have H:(if a1 < 0 then (none) else (if (wrap64 (a1)) > 0 then (if 0≤(wrap64 (a1)) then (if ([]:List Int).length + (wrap64 (a1):Int).toNat < 140737488355328 then ((some (([]:List Int) ++ List.replicate (wrap64 (a1):Int).toNat 0:List Int)).bind fun y430=>(if 0≤(y430.length:Int) then (some (y430.take (0:Int).toNat)) else (none))) else (none)) else (none)) else (some ([]:List Int))))=some r:=h
 clear h
 by_cases c3:a1 < 0
 ·rw [if_pos c3] at H
  exact absurd H (by simp)
 ·rw [if_neg c3] at H
  have c3b0:decide (a1 < 0)=false:=decide_eq_false c3
  clear c3
  by_cases c4:(wrap64 (a1)) > 0
  ·rw [if_pos c4] at H
   have c4b0:decide (0 < (wrap64 (a1)))=true:=decide_eq_true c4
   clear c4
   obtain ⟨ji5,hji5⟩:∃ j_:Int,(wrap64 (a1))=j_:=⟨_,rfl⟩
   replace H:(if 0≤(ji5) then (if ([]:List Int).length + (ji5:Int).toNat < 140737488355328 then ((some (([]:List Int) ++ List.replicate (ji5:Int).toNat 0:List Int)).bind fun y430=>(if 0≤(y430.length:Int) then (some (y430.take (0:Int).toNat)) else (none))) else (none)) else (none))=some r:=by first|(rw [hji5] at H;exact H)|(simp only [hji5] at H ⊢;exact H)
   (try rw [hji5] at c4b0)
   have hji5w:(IntKind.i64.wrap (a1))=ji5:=(i64_w _).trans hji5
   by_cases c6:0≤(ji5)
   ·rw [if_pos c6] at H
    have c6b0:=eq_true c6
    have c6b1:decide (0≤(ji5))=true:=decide_eq_true c6
    clear c6
    by_cases c7:([]:List Int).length + (ji5:Int).toNat < 140737488355328
    ·rw [if_pos c7] at H
     have LMc7:=Aside0.mk c7
     clear c7
     obtain ⟨y430,hy430⟩:∃ y_:List Int,y_=(([]:List Int) ++ List.replicate (ji5:Int).toNat 0):=⟨_,rfl⟩
     replace H:(if 0≤(y430.length:Int) then (some (y430.take (0:Int).toNat)) else (none))=some r:=by first|(rw [hy430];with_reducible exact H)|(have H2_:=(Option.bind_some _ _).symm.trans H;rw [hy430];with_reducible exact H2_)|(have H2_:=(Option.bind_some _ _).symm.trans H;with_reducible exact H2_)|with_reducible exact H|(rw [hy430];exact H)|exact H
     have Ny430:=Aside0.mk hy430
     clear hy430
     by_cases c8:0≤(y430.length:Int)
     ·rw [if_pos c8] at H
      have c8b0:=eq_true c8
      have c8b1:decide (0≤(y430.length:Int))=true:=decide_eq_true c8
      clear c8
      obtain ⟨y433,hy433⟩:∃ y_:List Int,y_=(y430.take (0:Int).toNat):=⟨_,rfl⟩
      replace H:(some y433)=some r:=by first|(rw [hy433];with_reducible exact H)|(have H2_:=(Option.bind_some _ _).symm.trans H;rw [hy433];with_reducible exact H2_)|(have H2_:=(Option.bind_some _ _).symm.trans H;with_reducible exact H2_)|with_reducible exact H|(rw [hy433];exact H)|exact H
      have Ny433:=Aside0.mk hy433
      clear hy433
      obtain rfl:=Option.some.inj H
      go_enter Try.func69,Try.ntmps69
      go_wp2_with (first|(at_builtin;refine Kd.R_append_zeros (Kd.int .u8) (w0:=w) w.heap.size rfl (.tmp 20) (.tmp 21) 48 3 5 (.int .u8 0) 1 rfl Try.underlying48 Try.underlying3 info5 rfl (by decide) (by omega) (.slice none 0 0) ([]:List Int) 0 (ji5:Int) (fun _=>True) rfl rfl rfl ?aF ?aO (of_decide_eq_true (by first|(with_reducible assumption)|assumption)) ?aB ?aS ?aL ?_;(case aB=>exact (by repeat (first|(with_reducible first|exact HB.out|apply below_alloc|apply pw_below_drewN|apply below_drew1)|exact HB.out)));(case aF=>exact (fun _ _=>trivial));(case aO=>exact ((Kd.R_nil _ _ _ _ (fun _=>True))));(case aS=>exact (below_size (by repeat (first|(with_reducible first|exact HB.out|apply below_alloc|apply pw_below_drewN|apply below_drew1)|exact HB.out))));(case aL=>have:=LMc7.out;omega);intro v431 w9 ho hb hg hat;rw [← Ny430.out] at ho;have n0_:=Aside0.mk (hb);have n1_:=Aside0.mk (ho);clear HB;have HB:=n0_;have HO432:=n1_;clear n0_ n1_;clear ho hb hg hat;obtain ⟨Ao10,co10,eo10⟩:=Kd.R_slice HO432.out;subst eo10;have q11:(0:Int)≤((y430.length:Int):Int):=of_decide_eq_true (by first|(with_reducible assumption)|assumption);obtain ⟨i011,hi011,_,hsz11,_⟩:=info_parts info5;have hcut11:=cut_to (P:=Try.prog) 48 5 .i64 Try.underlying48 hi011 Ao10 y430.length co10 0 (by omega) q11 (Kd.R_reads' HO432.out).2.1;have hr11:=Kd.R_take (m:=(0:Int).toNat) HO432.out (by omega);have hy11:y433.length=(0:Int).toNat:=(by rw [Ny433.out,List.length_take];omega);rw [← Ny433.out] at hr11;rw [← hy11] at hr11 hcut11;clear hy11 hi011 hsz11 HO432;have HO435:=Aside0.mk hr11;clear hr11;replace q11:=eq_true q11))
      go_ret
      exact ⟨_,by first|rfl|(simp [errW_none,errW_some] <;> rfl)|(simp only [← hji5];first|rfl|(simp [errW_none,errW_some] <;> rfl))|(simp [*,errW_none,errW_some] <;> rfl),by (with_reducible repeat (first|apply Kd.R_alloc|apply Kd.R_drewN|apply Kd.R_drew));exact HO435.out,by repeat (first|(with_reducible first|exact HB.out|apply below_alloc|apply pw_below_drewN|apply below_drew1)|exact HB.out)⟩
     ·rw [if_neg c8] at H
      exact absurd H (by simp)
    ·rw [if_neg c7] at H
     exact absurd H (by simp)
   ·rw [if_neg c6] at H
    exact absurd H (by simp)
  ·rw [if_neg c4] at H
   have c4b0:decide (0 < (wrap64 (a1)))=false:=decide_eq_false c4
   clear c4
   obtain rfl:=Option.some.inj H
   go_enter Try.func69,Try.ntmps69
   go_wp2
   go_ret
   exact ⟨_,by first|rfl|(simp [errW_none,errW_some] <;> rfl)|(simp [*,errW_none,errW_some] <;> rfl),by first|exact Kd.R_nil _ _ _ _ _|exact Kd.N_nil _ _ _ _ _|exact Kd.V_nil _ _ _ _ _|exact Kd.Q_nil _ _ _ _ _|exact Kd.S_nil _ _ _ _ _,by repeat (first|(with_reducible first|exact HB.out|apply below_alloc|apply pw_below_drewN|apply below_drew1)|exact HB.out)⟩
mutual
def slices_Concat_byte_byte.l0:Nat → List (List Int) → Int → List (List Int) → Int → Int → Option (List Int)
 | 0,_,_,_,_,_=>none
 | k + 1,x0,x3,x9,x10,x11=>if x11 < x10 then (if 0≤x11 then (if x11 < (x9.length:Int) then (if (wrap64 (x3 + ((rd_L5 x9 x11).length:Int))) < 0 then (none) else (slices_Concat_byte_byte.l0 k x0 (wrap64 (x3 + ((rd_L5 x9 x11).length:Int))) x9 x10 (wrap64 (x11 + 1)))) else (none)) else (none)) else ((slices_Grow_byte_byte.f ([]:List Int) x3).bind fun t437=>(slices_Concat_byte_byte.l1 k t437 x0 (x0.length:Int) 0))
def slices_Concat_byte_byte.l1:Nat → List Int → List (List Int) → Int → Int → Option (List Int)
 | 0,_,_,_,_=>none
 | k + 1,x6,x25,x26,x27=>if x27 < x26 then (if 0≤x27 then (if x27 < (x25.length:Int) then (if x6.length + (rd_L5 x25 x27).length < 140737488355328 then (slices_Concat_byte_byte.l1 k (x6 ++ (rd_L5 x25 x27)) x25 x26 (wrap64 (x27 + 1))) else (none)) else (none)) else (none)) else (some x6)
end
def slices_Concat_byte_byte.f (k:Nat) (l0:List (List Int)):Option (List Int):=slices_Concat_byte_byte.l0 k l0 0 l0 (l0.length:Int) 0
theorem slices_Concat_byte_byte.mono_l:∀ k,(∀ y0 y1 y2 y3 y4,LeO (slices_Concat_byte_byte.l0 k y0 y1 y2 y3 y4) (slices_Concat_byte_byte.l0 (k + 1) y0 y1 y2 y3 y4))∧(∀ y0 y1 y2 y3,LeO (slices_Concat_byte_byte.l1 k y0 y1 y2 y3) (slices_Concat_byte_byte.l1 (k + 1) y0 y1 y2 y3))
 | 0=>⟨fun _ _ _ _ _ r h=>by simp [slices_Concat_byte_byte.l0] at h,fun _ _ _ _ r h=>by simp [slices_Concat_byte_byte.l1] at h⟩
 | k + 1=>by
  obtain ⟨ih0,ih1⟩:=slices_Concat_byte_byte.mono_l k
  refine ⟨?_,?_⟩
  ·intro y0 y1 y2 y3 y4
   unfold slices_Concat_byte_byte.l0
   repeat' first
   | (with_reducible exact ih0 _ _ _ _ _)
   | (with_reducible exact ih1 _ _ _ _)
   | (with_reducible exact LeO.refl _)
   | (with_reducible exact LeO.none _)
   | (with_reducible refine LeO.ite ?_ ?_)
   | (with_reducible refine LeO.bind ?_ (fun _=>?_))
   | exact ih0 _ _ _ _ _
   | exact ih1 _ _ _ _
   | exact LeO.none _
   | refine LeO.ite ?_ ?_
   | refine LeO.bind ?_ (fun _=>?_)
  ·intro y0 y1 y2 y3
   unfold slices_Concat_byte_byte.l1
   repeat' first
   | (with_reducible exact ih0 _ _ _ _ _)
   | (with_reducible exact ih1 _ _ _ _)
   | (with_reducible exact LeO.refl _)
   | (with_reducible exact LeO.none _)
   | (with_reducible refine LeO.ite ?_ ?_)
   | (with_reducible refine LeO.bind ?_ (fun _=>?_))
   | exact ih0 _ _ _ _ _
   | exact ih1 _ _ _ _
   | exact LeO.none _
   | refine LeO.ite ?_ ?_
   | refine LeO.bind ?_ (fun _=>?_)
theorem slices_Concat_byte_byte.mono:∀ a0 k,LeO (slices_Concat_byte_byte.f k a0) (slices_Concat_byte_byte.f (k + 1) a0):=by
 intro a0 k
 obtain ⟨ih0,ih1⟩:=slices_Concat_byte_byte.mono_l k
 unfold slices_Concat_byte_byte.f
 repeat' first
   | (with_reducible exact ih0 _ _ _ _ _)
   | (with_reducible exact ih1 _ _ _ _)
   | (with_reducible exact LeO.refl _)
   | (with_reducible exact LeO.none _)
   | (with_reducible refine LeO.ite ?_ ?_)
   | (with_reducible refine LeO.bind ?_ (fun _=>?_))
   | exact ih0 _ _ _ _ _
   | exact ih1 _ _ _ _
   | exact LeO.none _
   | refine LeO.ite ?_ ?_
   | refine LeO.bind ?_ (fun _=>?_)
set_option maxHeartbeats 8000000 in
set_option maxRecDepth 100000 in
theorem slices_Concat_byte_byte.calls (k:Nat) (A0:Option Addr) (c0:Nat) (l0:List (List Int)) (r:List Int) (w:World) (hr0:Kd.C (Kd.slice 5 (Kd.int .u8)) w A0 l0.length l0) (hc0:l0.length≤c0) (h:slices_Concat_byte_byte.f k l0=some r) :
  Calls Try.prog 63 #[.slice A0 l0.length c0] w fun e w'=>∃ v0_:Value,e=.returned (v0_)∧Kd.R (Kd.int .u8) 5 w' w.heap.size (fun _=>True) v0_ r∧Below w.heap.size w w':=by
 have HR0:=Aside0.mk hr0
 have HC0:=Aside0.mk hc0
 clear hr0 hc0
 have HB:=Aside0.mk (Below.refl w.heap.size w)
 have H:(slices_Concat_byte_byte.l0 k l0 0 l0 (l0.length:Int) 0)=some r:=h
 clear h
 have H':=Aside0.mk H
 clear H
 go_enter Try.func63,Try.ntmps63
 go_wp2
 go_loopg [3,11] k (fun kq v3 v11 w'=>∃ (x3_1:Int) (x11_1:Int),v3=.int .i64 x3_1∧v11=.int .i64 x11_1∧Aside0 (slices_Concat_byte_byte.l0 kq l0 x3_1 l0 (l0.length:Int) x11_1=some r)∧Aside0 (kq≤k)∧Aside0 (Below w.heap.size w w'))
 case atStart=>exact ⟨(0),(0),(by first|rfl|(simp;done)|(simp [*];done)),(by first|rfl|(simp;done)|(simp [*];done)),H',⟨Nat.le_refl _⟩,⟨by repeat (first|(with_reducible first|exact HB.out|apply below_alloc|apply pw_below_drewN|apply below_drew1)|exact HB.out)⟩⟩
 case round =>
  clear H'
  obtain ⟨x3_1,x11_1,rfl,rfl,HA,HK1,HB⟩:=hrel
  cases gk with
  | zero=>exact absurd HA.out (by simp [slices_Concat_byte_byte.l0])
  | succ k1 =>
   have H:=HA.out
   clear HA
   simp only [slices_Concat_byte_byte.l0] at H
   by_cases c2:x11_1 < (l0.length:Int)
   ·rw [if_pos c2] at H
    have c2b0:decide (x11_1 < (l0.length:Int))=true:=decide_eq_true c2
    clear c2
    by_cases c3:0≤x11_1
    ·rw [if_pos c3] at H
     have c3b0:decide (0≤x11_1)=true:=decide_eq_true c3
     clear c3
     by_cases c4:x11_1 < (l0.length:Int)
     ·rw [if_pos c4] at H
      have c4b0:decide (x11_1 < (l0.length:Int))=true:=decide_eq_true c4
      clear c4
      by_cases c5:(wrap64 (x3_1 + ((rd_L5 l0 x11_1).length:Int))) < 0
      ·rw [if_pos c5] at H
       exact absurd H (by simp)
      ·rw [if_neg c5] at H
       have c5b0:decide ((wrap64 (x3_1 + ((rd_L5 l0 x11_1).length:Int))) < 0)=false:=decide_eq_false c5
       clear c5
       have H':=Aside0.mk H
       clear H
       have p436:0≤(x11_1:Int):=of_decide_eq_true (by first|(with_reducible assumption)|assumption)
       have q436:x11_1 < (l0.length:Int):=of_decide_eq_true (by first|(with_reducible assumption)|assumption)
       obtain ⟨ad436,A436_0,c436_0,e436,hx436_0,hl436_0,hi436_0⟩:=at_L5 HR0.out x11_1 p436 q436
       cases e436
       replace hx436_0:=(HB.out.cell (World.block_lt_of_cell? w _ hx436_0)).trans hx436_0
       have HR436_0:=Aside0.mk hi436_0
       have HC436_0:=Aside0.mk hl436_0
       clear hi436_0 hl436_0
       replace p436:=eq_true p436
       replace q436:=eq_true q436
       go_wp2
       go_roundg k1
       case measure=>have:=HK1.out;omega
       case rel=>exact ⟨(wrap64 (x3_1 + ((rd_L5 l0 x11_1).length:Int))),(wrap64 (x11_1 + 1)),(by first|rfl|(simp;done)|(simp [*];done)),(by first|rfl|(simp;done)|(simp [*];done)),H',⟨by have:=HK1.out;omega⟩,⟨by repeat (first|(with_reducible first|exact HB.out|apply below_alloc|apply pw_below_drewN|apply below_drew1)|exact HB.out)⟩⟩
     ·rw [if_neg c4] at H
      exact absurd H (by simp)
    ·rw [if_neg c3] at H
     exact absurd H (by simp)
   ·rw [if_neg c2] at H
    have c2b0:decide (x11_1 < (l0.length:Int))=false:=decide_eq_false c2
    clear c2
    replace H:=Option.bind_eq_some_iff.mp H
    obtain ⟨t437,A60,H⟩:=H
    replace H:(slices_Concat_byte_byte.l1 k1 t437 l0 (l0.length:Int) 0)=some r:=H
    have A6:=Aside0.mk A60
    clear A60
    have H':=Aside0.mk H
    clear H
    go_wp2_with (first|((with_reducible refine gate_callee (f:=69) rfl ?_);refine goesL_ (some 24) rfl rfl Try.func69 (by kernel_rfl) rfl #[.slice none 0 0,.int .i64 x3_1] rfl (by (try simp only [List.map_toArray,List.map_cons,List.map_nil]);first|done|rfl|(simp only [List.length_drop,List.length_take];rfl)) ?_;(refine (slices_Grow_byte_byte.calls none 0 ([]:List Int) x3_1 t437 _ ?side1 ?side2 A6.out).mono ?_);(case side1=>exact Kd.C_nil _ _);(case side2=>exact Nat.le_refl _);rintro e w7 ⟨v438,rfl,ho0,hb⟩;refine ⟨_,rfl,?_⟩;have n0_:=Aside0.mk (Kd.R_lower ho0 (below_size (by repeat (first|(with_reducible first|exact HB.out|apply below_alloc|apply pw_below_drewN|apply below_drew1)|exact HB.out))));have n1_:=Aside0.mk (below_step (by repeat (first|(with_reducible first|exact HB.out|apply below_alloc|apply pw_below_drewN|apply below_drew1)|exact HB.out)) hb);clear HB;have HO439:=n0_;have HB:=n1_;clear n0_ n1_;(try clear hb);(try clear hb2);(try clear hk);(try clear hi);(try clear ho0)))
    go_loopg [6,27] k1 (fun kq v6 v27 w'=>∃ (x6_2:List Int) (x27_2:Int),v27=.int .i64 x27_2∧Aside0 (slices_Concat_byte_byte.l1 kq x6_2 l0 (l0.length:Int) x27_2=some r)∧Aside0 (kq≤k1)∧Aside0 (Kd.R (Kd.int .u8) 5 w' w.heap.size (fun _=>True) v6 x6_2)∧Aside0 (Below w.heap.size w w'))
    case atStart=>exact ⟨(t437),(0),(by first|rfl|(simp;done)|(simp [*];done)),H',⟨Nat.le_refl _⟩,⟨by (with_reducible repeat (first|apply Kd.R_alloc|apply Kd.R_drewN|apply Kd.R_drew));exact HO439.out⟩,⟨by repeat (first|(with_reducible first|exact HB.out|apply below_alloc|apply pw_below_drewN|apply below_drew1)|exact HB.out)⟩⟩
    case round =>
     clear H'
     try clear c2
     try clear c2b0
     try clear p2
     try clear c3
     try clear c3b0
     try clear c4
     try clear c4b0
     try clear p4
     try clear q4
     try clear hx4
     try clear c5
     try clear c5b0
     try clear c6
     try clear p6
     try clear hx436_0
     try clear p436
     try clear q436
     obtain ⟨x6_2,x27_2,rfl,HA,HK2,HO_6,HB⟩:=hrel
     cases gk with
     | zero=>exact absurd HA.out (by simp [slices_Concat_byte_byte.l1])
     | succ k2 =>
      have H:=HA.out
      clear HA
      simp only [slices_Concat_byte_byte.l1] at H
      by_cases c8:x27_2 < (l0.length:Int)
      ·rw [if_pos c8] at H
       have c8b0:decide (x27_2 < (l0.length:Int))=true:=decide_eq_true c8
       clear c8
       by_cases c9:0≤x27_2
       ·rw [if_pos c9] at H
        have c9b0:decide (0≤x27_2)=true:=decide_eq_true c9
        clear c9
        by_cases c10:x27_2 < (l0.length:Int)
        ·rw [if_pos c10] at H
         have c10b0:decide (x27_2 < (l0.length:Int))=true:=decide_eq_true c10
         clear c10
         by_cases c11:x6_2.length + (rd_L5 l0 x27_2).length < 140737488355328
         ·rw [if_pos c11] at H
          have LMc11:=Aside0.mk c11
          clear c11
          obtain ⟨y441,hy441⟩:∃ y_:List Int,y_=(x6_2 ++ (rd_L5 l0 x27_2)):=⟨_,rfl⟩
          replace H:(slices_Concat_byte_byte.l1 k2 y441 l0 (l0.length:Int) (wrap64 (x27_2 + 1)))=some r:=by first|(rw [hy441];with_reducible exact H)|(have H2_:=(Option.bind_some _ _).symm.trans H;rw [hy441];with_reducible exact H2_)|(have H2_:=(Option.bind_some _ _).symm.trans H;with_reducible exact H2_)|with_reducible exact H|(rw [hy441];exact H)|exact H
          have Ny441:=Aside0.mk hy441
          clear hy441
          have H':=Aside0.mk H
          clear H
          have p440:0≤(x27_2:Int):=of_decide_eq_true (by first|(with_reducible assumption)|assumption)
          have q440:x27_2 < (l0.length:Int):=of_decide_eq_true (by first|(with_reducible assumption)|assumption)
          obtain ⟨ad440,A440_0,c440_0,e440,hx440_0,hl440_0,hi440_0⟩:=at_L5 HR0.out x27_2 p440 q440
          cases e440
          replace hx440_0:=(HB.out.cell (World.block_lt_of_cell? w _ hx440_0)).trans hx440_0
          have HR440_0:=Aside0.mk hi440_0
          have HC440_0:=Aside0.mk hl440_0
          clear hi440_0 hl440_0
          replace p440:=eq_true p440
          replace q440:=eq_true q440
          go_wp2_with (first|((with_reducible refine gate_builtin (b:=.append) (xs:=#[.tmp 31,.tmp 32]) rfl ?_);at_builtin;refine Kd.R_append_rows (Kd.int .u8) (w0:=w) w.heap.size rfl (.tmp 31) (.tmp 32) 48 5 (.int .u8 0) 1 rfl Try.underlying48 info5 rfl (by decide) (by omega) u6 x6_2 (rd_L5 l0 x27_2) _ _ _ (fun _=>True) (fun _=>False) rfl rfl ?aO ?aR (fun _ _ h=>h) (fun _ h=>h.elim) ?aF ?aB ?aS ?aL ?_;(case aR=>repeat (first|exact (Kd.C_below HR440_0.out HB.out)|(with_reducible refine Kd.C_alloc ?_ _)|(with_reducible refine Kd.C_drewN ?_ _)|(with_reducible refine Kd.C_drew ?_)));(case aB=>exact (by repeat (first|(with_reducible first|exact HB.out|apply below_alloc|apply pw_below_drewN|apply below_drew1)|exact HB.out)));(case aF=>exact (fun _ _=>trivial));(case aO=>exact (by (with_reducible repeat (first|apply Kd.R_alloc|apply Kd.R_drewN|apply Kd.R_drew));exact HO_6.out));(case aS=>exact (below_size (by repeat (first|(with_reducible first|exact HB.out|apply below_alloc|apply pw_below_drewN|apply below_drew1)|exact HB.out))));(case aL=>have:=LMc11.out;omega);intro v442 w12 ho hb hg hat;rw [← Ny441.out] at ho;have n0_:=Aside0.mk (hb);have n1_:=Aside0.mk (ho);clear HB HO_6;have HB:=n0_;have HO443:=n1_;clear n0_ n1_;clear ho hb hg hat))
          go_roundg k2
          case measure=>have:=HK1.out;have:=HK2.out;omega
          case rel=>exact ⟨(y441),(wrap64 (x27_2 + 1)),(by first|rfl|(simp;done)|(simp [*];done)),H',⟨by have:=HK1.out;have:=HK2.out;omega⟩,⟨by (with_reducible repeat (first|apply Kd.R_alloc|apply Kd.R_drewN|apply Kd.R_drew));exact HO443.out⟩,⟨by repeat (first|(with_reducible first|exact HB.out|apply below_alloc|apply pw_below_drewN|apply below_drew1)|exact HB.out)⟩⟩
         ·rw [if_neg c11] at H
          exact absurd H (by simp)
        ·rw [if_neg c10] at H
         exact absurd H (by simp)
       ·rw [if_neg c9] at H
        exact absurd H (by simp)
      ·rw [if_neg c8] at H
       have c8b0:decide (x27_2 < (l0.length:Int))=false:=decide_eq_false c8
       clear c8
       obtain rfl:=Option.some.inj H
       go_wp2
       go_ret
       exact ⟨_,by first|rfl|(simp [errW_none,errW_some] <;> rfl)|(simp [*,errW_none,errW_some] <;> rfl),by (with_reducible repeat (first|apply Kd.R_alloc|apply Kd.R_drewN|apply Kd.R_drew));exact HO_6.out,by repeat (first|(with_reducible first|exact HB.out|apply below_alloc|apply pw_below_drewN|apply below_drew1)|exact HB.out)⟩
end Go.Proofs.Ytbdnmdmfnopihaa.Print
end
section
namespace Go.Proofs.Ytbdnmdmfnopihaa.Print
open Go.RowKit Go.Proofs.YtbdnmdmfnopihaaW.PrintWords Go.Proofs.YtbdnmdmfnopihaaW.PrintLast Go.Proofs.YtbdnmdmfnopihaaW.PrintMore
attribute [local go_sem] max2_int min2_int max_two min_two max_three min_three max_four min_four   -- for this text's walks alone
attribute [local go_sem ↓] Go.Proofs.Ytbdnmdmfnopihaa.Sem.isSome_setCell
attribute [local go_sem] Go.Instr.field Go.asAgg
set_option linter.unusedVariables false
set_option linter.unusedSimpArgs false
mutual
def seal_Zeros.l0:Nat → Int → List Int → Int → Int → Option (Int)
 | 0,_,_,_,_=>none
 | k + 1,x3,x7,x8,x9=>if x9 < x8 then (if 0≤x9 then (if x9 < (x7.length:Int) then (seal_Zeros.l1 k x3 (rd x7 x9) x7 x8 x9 0) else (none)) else (none)) else (some x3)
def seal_Zeros.l1:Nat → Int → Int → List Int → Int → Int → Int → Option (Int)
 | 0,_,_,_,_,_,_=>none
 | k + 1,x3,x5,x7,x8,x9,x13=>if x13 < 8 then (if 0≤x13 then (if (Go.bits .and .u8 (shr .u8 x5 x13) 1)=0 then (seal_Zeros.l1 k (wrap64 (x3 + 1)) x5 x7 x8 x9 (wrap64 (x13 + 1))) else (seal_Zeros.l1 k x3 x5 x7 x8 x9 (wrap64 (x13 + 1)))) else (none)) else (seal_Zeros.l0 k x3 x7 x8 (wrap64 (x9 + 1)))
end
def seal_Zeros.f (k:Nat) (l0:List Int):Option (Int):=seal_Zeros.l0 k 0 l0 (l0.length:Int) 0
set_option maxHeartbeats 8000000 in
set_option maxRecDepth 100000 in
theorem seal_Zeros.calls (k:Nat) (A0:Option Addr) (c0:Nat) (l0:List Int) (r:Int) (w:World) (hr0:Kd.C (Kd.int .u8) w A0 l0.length l0) (hc0:l0.length≤c0) (h:seal_Zeros.f k l0=some r) :
  Calls Try.prog 70 #[.slice A0 l0.length c0] w fun e w'=>e=.returned (.int .i64 r)∧Drawn0 w w':=by
 have HR0:=Aside0.mk hr0
 have HC0:=Aside0.mk hc0
 clear hr0 hc0
 have H:(seal_Zeros.l0 k 0 l0 (l0.length:Int) 0)=some r:=h
 clear h
 have H':=Aside0.mk H
 clear H
 go_enter Try.func70,Try.ntmps70
 go_wp2
 go_loopg [3,9] k (fun kq v3 v9 w'=>∃ (x3_1:Int) (x9_1:Int),v3=.int .i64 x3_1∧v9=.int .i64 x9_1∧Aside0 (seal_Zeros.l0 kq x3_1 l0 (l0.length:Int) x9_1=some r)∧Aside0 (kq≤k)∧Drawn0 w w')
 case atStart=>exact ⟨(0),(0),(by first|rfl|(simp;done)|(simp [*];done)),(by first|rfl|(simp;done)|(simp [*];done)),H',⟨Nat.le_refl _⟩,by repeat (first|exact Drawn0.refl _|apply Drawn0.step)⟩
 case round =>
  clear H'
  obtain ⟨x3_1,x9_1,rfl,rfl,HA,HK1,⟨m1,rfl⟩⟩:=hrel
  cases gk with
  | zero=>exact absurd HA.out (by simp [seal_Zeros.l0])
  | succ k1 =>
   have H:=HA.out
   clear HA
   simp only [seal_Zeros.l0] at H
   by_cases c2:x9_1 < (l0.length:Int)
   ·rw [if_pos c2] at H
    have c2b0:decide (x9_1 < (l0.length:Int))=true:=decide_eq_true c2
    clear c2
    by_cases c3:0≤x9_1
    ·rw [if_pos c3] at H
     have c3b0:decide (0≤x9_1)=true:=decide_eq_true c3
     clear c3
     by_cases c4:x9_1 < (l0.length:Int)
     ·rw [if_pos c4] at H
      have c4b0:decide (x9_1 < (l0.length:Int))=true:=decide_eq_true c4
      clear c4
      have H':=Aside0.mk H
      clear H
      have p444:0≤(x9_1:Int):=of_decide_eq_true (by first|(with_reducible assumption)|assumption)
      have q444:x9_1 < (l0.length:Int):=of_decide_eq_true (by first|(with_reducible assumption)|assumption)
      obtain ⟨ad444,e444,hx444_0⟩:=Kd.at_int HR0.out x9_1 p444 q444
      cases e444
      replace p444:=eq_true p444
      replace q444:=eq_true q444
      go_wp2
      go_loopg [3,13] k1 (fun kq v3 v13 w'=>∃ (x3_2:Int) (x13_2:Int),v3=.int .i64 x3_2∧v13=.int .i64 x13_2∧Aside0 (seal_Zeros.l1 kq x3_2 (rd l0 x9_1) l0 (l0.length:Int) x9_1 x13_2=some r)∧Aside0 (kq≤k1)∧Drawn0 w w')
      case atStart=>exact ⟨(x3_1),(0),(by first|rfl|(simp;done)|(simp [*];done)),(by first|rfl|(simp;done)|(simp [*];done)),H',⟨Nat.le_refl _⟩,by repeat (first|exact Drawn0.refl _|apply Drawn0.step)⟩
      case round =>
       clear H'
       try clear c2
       try clear c2b0
       try clear p2
       try clear c3
       try clear c3b0
       try clear c4
       try clear c4b0
       try clear p4
       try clear q4
       try clear hx4
       try clear hx444_0
       try clear p444
       try clear q444
       obtain ⟨x3_2,x13_2,rfl,rfl,HA,HK2,⟨m2,rfl⟩⟩:=hrel
       cases gk with
       | zero=>exact absurd HA.out (by simp [seal_Zeros.l1])
       | succ k2 =>
        have H:=HA.out
        clear HA
        simp only [seal_Zeros.l1] at H
        by_cases c5:x13_2 < 8
        ·rw [if_pos c5] at H
         have c5b0:decide (x13_2 < 8)=true:=decide_eq_true c5
         clear c5
         by_cases c6:0≤x13_2
         ·rw [if_pos c6] at H
          have c6b0:=eq_true c6
          have c6b1:decide (0≤x13_2)=true:=decide_eq_true c6
          clear c6
          obtain ⟨ji7,hji7⟩:∃ j_:Int,(shr .u8 (rd l0 x9_1) x13_2)=j_:=⟨_,rfl⟩
          replace H:(if (Go.bits .and .u8 (ji7) 1)=0 then (seal_Zeros.l1 k2 (wrap64 (x3_2 + 1)) (rd l0 x9_1) l0 (l0.length:Int) x9_1 (wrap64 (x13_2 + 1))) else (seal_Zeros.l1 k2 x3_2 (rd l0 x9_1) l0 (l0.length:Int) x9_1 (wrap64 (x13_2 + 1))))=some r:=by first|(rw [hji7] at H;exact H)|(simp only [hji7] at H ⊢;exact H)
          have hji7_:((rd l0 x9_1) / 2 ^ min x13_2.toNat 8)=ji7:=hji7
          have hji7z:x13_2≤8 → ((rd l0 x9_1) / 2 ^ x13_2.toNat)=ji7:=shr_small hji7
          by_cases c8:(Go.bits .and .u8 (ji7) 1)=0
          ·rw [if_pos c8] at H
           have c8b0:((Go.bits .and .u8 (ji7) 1) == 0)=true:=beq_iff_eq.mpr c8
           have c8b1:((Go.bits .and .u8 (ji7) 1) != 0)=false:=bne_eq_false_iff_eq.mpr c8
           clear c8
           have H':=Aside0.mk H
           clear H
           go_wp2
           go_roundg k2
           case measure=>have:=HK1.out;have:=HK2.out;omega
           case rel=>exact ⟨(wrap64 (x3_2 + 1)),(wrap64 (x13_2 + 1)),(by first|rfl|(simp;done)|(simp [*];done)),(by first|rfl|(simp;done)|(simp [*];done)),H',⟨by have:=HK1.out;have:=HK2.out;omega⟩,by repeat (first|exact Drawn0.refl _|apply Drawn0.step)⟩
          ·rw [if_neg c8] at H
           have c8b0:((Go.bits .and .u8 (ji7) 1) == 0)=false:=beq_eq_false_iff_ne.mpr c8
           have c8b1:((Go.bits .and .u8 (ji7) 1) != 0)=true:=bne_iff_ne.mpr c8
           have H':=Aside0.mk H
           clear H
           go_wp2
           go_roundg k2
           case measure=>have:=HK1.out;have:=HK2.out;omega
           case rel=>exact ⟨(x3_2),(wrap64 (x13_2 + 1)),(by first|rfl|(simp;done)|(simp [*];done)),(by first|rfl|(simp;done)|(simp [*];done)),H',⟨by have:=HK1.out;have:=HK2.out;omega⟩,by repeat (first|exact Drawn0.refl _|apply Drawn0.step)⟩
         ·rw [if_neg c6] at H
          exact absurd H (by simp)
        ·rw [if_neg c5] at H
         have c5b0:decide (x13_2 < 8)=false:=decide_eq_false c5
         clear c5
         have H':=Aside0.mk H
         clear H
         go_wp2
         go_roundg k2
         case measure=>have:=HK1.out;have:=HK2.out;omega
         case rel=>exact ⟨(x3_2),(wrap64 (x9_1 + 1)),(by first|rfl|(simp;done)|(simp [*];done)),(by first|rfl|(simp;done)|(simp [*];done)),H',⟨by have:=HK1.out;have:=HK2.out;omega⟩,by repeat (first|exact Drawn0.refl _|apply Drawn0.step)⟩
     ·rw [if_neg c4] at H
      exact absurd H (by simp)
    ·rw [if_neg c3] at H
     exact absurd H (by simp)
   ·rw [if_neg c2] at H
    have c2b0:decide (x9_1 < (l0.length:Int))=false:=decide_eq_false c2
    clear c2
    obtain rfl:=Option.some.inj H
    go_wp2
    go_ret
    exact ⟨by first|rfl|(simp;done)|(simp [*];done),by repeat (first|exact Drawn0.refl _|apply Drawn0.step)⟩
def seal_sum.f (k:Nat) (l0:List Int):Option (List Int):=(seal_Zeros.f k l0).bind fun t445=>(some (([(t445 / 16777216) % 256,(t445 / 65536) % 256,(t445 / 256) % 256,(t445) % 256]:List Int)))
set_option maxHeartbeats 8000000 in
set_option maxRecDepth 100000 in
theorem seal_sum.calls (k:Nat) (A0:Option Addr) (c0:Nat) (l0:List Int) (r:List Int) (w:World) (hr0:Kd.C (Kd.int .u8) w A0 l0.length l0) (hc0:l0.length≤c0) (h:seal_sum.f k l0=some r) :
  Calls Try.prog 64 #[.slice A0 l0.length c0] w fun e w'=>∃ v0_:Value,e=.returned (v0_)∧Kd.R (Kd.int .u8) 5 w' w.heap.size (fun _=>True) v0_ r∧Below w.heap.size w w':=by
 have HR0:=Aside0.mk hr0
 have HC0:=Aside0.mk hc0
 clear hr0 hc0
 have HB:=Aside0.mk (Below.refl w.heap.size w)
 have H:((seal_Zeros.f k l0).bind fun t445=>(some (([(t445 / 16777216) % 256,(t445 / 65536) % 256,(t445 / 256) % 256,(t445) % 256]:List Int))))=some r:=h
 clear h
 replace H:=Option.bind_eq_some_iff.mp H
 obtain ⟨t445,A20,H⟩:=H
 replace H:(some (([(t445 / 16777216) % 256,(t445 / 65536) % 256,(t445 / 256) % 256,(t445) % 256]:List Int)))=some r:=H
 have A2:=Aside0.mk A20
 clear A20
 obtain ⟨y446,hy446⟩:∃ y_:List Int,y_=(([(t445 / 16777216) % 256,(t445 / 65536) % 256,(t445 / 256) % 256,(t445) % 256]:List Int)):=⟨_,rfl⟩
 replace H:(some y446)=some r:=by first|(rw [hy446];with_reducible exact H)|(have H2_:=(Option.bind_some _ _).symm.trans H;rw [hy446];with_reducible exact H2_)|(have H2_:=(Option.bind_some _ _).symm.trans H;with_reducible exact H2_)|with_reducible exact H|(rw [hy446];exact H)|exact H
 have Ny446:=Aside0.mk hy446
 clear hy446
 obtain rfl:=Option.some.inj H
 go_enter Try.func64,Try.ntmps64
 go_wp2_with (first|((with_reducible refine gate_callee (f:=70) rfl ?_);refine goesL_ (some 5) rfl rfl Try.func70 (by kernel_rfl) rfl #[.slice A0 l0.length c0] rfl (by (try simp only [List.map_toArray,List.map_cons,List.map_nil]);first|done|rfl|(simp only [List.length_drop,List.length_take];rfl)) ?_;(with_reducible refine (seal_Zeros.calls k _ _ l0 t445 _ ?side1 ?side2 A2.out).mono ?_);(case side1=>repeat (first|exact HR0.out|(with_reducible refine Kd.C_alloc ?_ _)|(with_reducible refine Kd.C_drewN ?_ _)|(with_reducible refine Kd.C_drew ?_)));(case side2=>exact HC0.out);rintro e w' ⟨rfl,⟨nd,rfl⟩⟩;refine ⟨_,rfl,?_⟩)|((with_reducible refine gate_dst (N:=17) rfl ?_);refine Kd.R_lit (Kd.int .u8) _ 5 ?hg (N:=17) ?hd (xs:=([(t445 / 16777216) % 256,(t445 / 65536) % 256,(t445 / 256) % 256,(t445) % 256]:List Int)) (inner:=[.int .u8 ((t445 / 16777216) % 256),.int .u8 ((t445 / 65536) % 256),.int .u8 ((t445 / 256) % 256),.int .u8 ((t445) % 256)]) (ok:=fun _=>True) (okp:=fun _=>True) ?hr ?hp (fun _ hk=>hk) trivial (Below.refl _ _) (Nat.le_refl _) (by simp) ?_;(case hd=>rfl);(case hg=>rfl);(case hr=>first|(go_simp;done)|(go_simp;rfl));(case hp=>exact (Reps.one (show Kd.M (Kd.int .u8) _ _ _ ((t445 / 16777216) % 256) [.int .u8 ((t445 / 16777216) % 256)] from rfl) (Reps.one (show Kd.M (Kd.int .u8) _ _ _ ((t445 / 65536) % 256) [.int .u8 ((t445 / 65536) % 256)] from rfl) (Reps.one (show Kd.M (Kd.int .u8) _ _ _ ((t445 / 256) % 256) [.int .u8 ((t445 / 256) % 256)] from rfl) (Reps.one (show Kd.M (Kd.int .u8) _ _ _ ((t445) % 256) [.int .u8 ((t445) % 256)] from rfl) (Reps.none _ _))))));intro v447 w3 ho4 hb hg_ hnew_;clear hg_ hnew_;(first|rw [← Ny446.out] at ho4|(simp only [Int.reduceToNat] at ho4;rw [← Ny446.out] at ho4));have n0_:=Aside0.mk (Kd.R_lower ho4 (below_size (by repeat (first|(with_reducible first|exact HB.out|apply below_alloc|apply pw_below_drewN|apply below_drew1)|exact HB.out))));have n1_:=Aside0.mk (below_step (by repeat (first|(with_reducible first|exact HB.out|apply below_alloc|apply pw_below_drewN|apply below_drew1)|exact HB.out)) hb);clear HB;have HO448:=n0_;have HB:=n1_;clear n0_ n1_;clear hb ho4))
 go_ret
 exact ⟨_,by first|rfl|(simp [errW_none,errW_some] <;> rfl)|(simp [*,errW_none,errW_some] <;> rfl),by (with_reducible repeat (first|apply Kd.R_alloc|apply Kd.R_drewN|apply Kd.R_drew));exact HO448.out,by repeat (first|(with_reducible first|exact HB.out|apply below_alloc|apply pw_below_drewN|apply below_drew1)|exact HB.out)⟩
def seal_Seal.f (k:Nat) (l0:List Int):Option (List Int × Int):=if (l0.length:Int) > 1048576 then (some (([]:List Int),3)) else ((seal_sum.f k l0).bind fun t449=>((slices_Concat_byte_byte.f k (([l0,t449]:List (List Int)))).bind fun t455=>(some (t455,0))))
set_option maxHeartbeats 8000000 in
set_option maxRecDepth 100000 in
theorem seal_Seal.calls (k:Nat) (P0_:Nat → Prop) (A0:Option Addr) (c0:Nat) (l0:List Int) (r1:List Int) (r2:Int) (w:World) (hs0:Kd.V (Kd.int .u8) 5 w w.heap.size (fun k_=>P0_ k_) (.slice A0 l0.length c0) l0) (h:seal_Seal.f k l0=some (r1,r2)) :
  Calls Try.prog 55 #[.slice A0 l0.length c0] w fun e w'=>∃ v0_:Value,e=.returned (.tuple #[v0_,.int .i64 r2])∧Kd.R (Kd.int .u8) 5 w' w.heap.size (fun k_=>(w.heap.size≤k_)) v0_ r1∧Below w.heap.size w w':=by
 have HO0:=Aside0.mk (show Kd.V (Kd.int .u8) 5 w w.heap.size (fun k_=>(P0_ k_∨w.heap.size≤k_)) (.slice A0 l0.length c0) l0 from Kd.V_mono hs0 (fun k_ hk=>.inl hk))
 have HB:=Aside0.mk (Below.refl w.heap.size w)
 have H:(if (l0.length:Int) > 1048576 then (some (([]:List Int),3)) else ((seal_sum.f k l0).bind fun t449=>((slices_Concat_byte_byte.f k (([l0,t449]:List (List Int)))).bind fun t455=>(some (t455,0)))))=some (r1,r2):=h
 clear h
 by_cases c2:(l0.length:Int) > 1048576
 ·rw [if_pos c2] at H
  have c2b0:decide (1048576 < (l0.length:Int))=true:=decide_eq_true c2
  have c2b1:decide (1048576 < l0.length)=true:=decide_eq_true (by omega)
  clear c2
  simp only [Option.some.injEq,Prod.mk.injEq] at H
  obtain ⟨rfl,rfl⟩:=H
  go_enter Try.func55,Try.ntmps55
  go_wp2
  go_ret2
  exact ⟨_,by first|rfl|(simp [errW_none,errW_some] <;> rfl)|(simp [*,errW_none,errW_some] <;> rfl),by first|exact Kd.R_nil _ _ _ _ _|exact Kd.N_nil _ _ _ _ _|exact Kd.V_nil _ _ _ _ _|exact Kd.Q_nil _ _ _ _ _|exact Kd.S_nil _ _ _ _ _,by repeat (first|(with_reducible first|exact HB.out|apply below_alloc|apply pw_below_drewN|apply below_drew1)|exact HB.out)⟩
 ·rw [if_neg c2] at H
  have c2b0:decide (1048576 < (l0.length:Int))=false:=decide_eq_false c2
  have c2b1:decide (1048576 < l0.length)=false:=decide_eq_false (by omega)
  clear c2
  replace H:=Option.bind_eq_some_iff.mp H
  obtain ⟨t449,A30,H⟩:=H
  replace H:((slices_Concat_byte_byte.f k (([l0,t449]:List (List Int)))).bind fun t455=>(some (t455,0)))=some (r1,r2):=H
  have A3:=Aside0.mk A30
  clear A30
  obtain ⟨y452,hy452⟩:∃ y_:List (List Int),y_=(([l0,t449]:List (List Int))):=⟨_,rfl⟩
  replace H:((slices_Concat_byte_byte.f k y452).bind fun t455=>(some (t455,0)))=some (r1,r2):=by first|(rw [hy452];with_reducible exact H)|(have H2_:=(Option.bind_some _ _).symm.trans H;rw [hy452];with_reducible exact H2_)|(have H2_:=(Option.bind_some _ _).symm.trans H;with_reducible exact H2_)|with_reducible exact H|(rw [hy452];exact H)|exact H
  have Ny452:=Aside0.mk hy452
  clear hy452
  replace H:=Option.bind_eq_some_iff.mp H
  obtain ⟨t455,A40,H⟩:=H
  replace H:(some (t455,0))=some (r1,r2):=H
  have A4:=Aside0.mk A40
  clear A40
  simp only [Option.some.injEq,Prod.mk.injEq] at H
  obtain ⟨rfl,rfl⟩:=H
  go_enter Try.func55,Try.ntmps55
  go_wp2_with (first|((with_reducible refine gate_callee (f:=64) rfl ?_);refine goesL_ (some 9) rfl rfl Try.func64 (by kernel_rfl) rfl #[.slice A0 l0.length c0] rfl (by (try simp only [List.map_toArray,List.map_cons,List.map_nil]);first|done|rfl|(simp only [List.length_drop,List.length_take];rfl)) ?_;(with_reducible refine (seal_sum.calls k _ _ l0 t449 _ ?side1 ?side2 A3.out).mono ?_);(case side1=>repeat (first|exact (Kd.V_reads' HO0.out).2.2|(with_reducible refine Kd.C_alloc ?_ _)|(with_reducible refine Kd.C_drewN ?_ _)|(with_reducible refine Kd.C_drew ?_)));(case side2=>exact (Kd.V_reads' HO0.out).2.1);rintro e w5 ⟨v450,rfl,ho0,hb⟩;refine ⟨_,rfl,?_⟩;have n0_:=Aside0.mk (Kd.V_elder' (by (with_reducible repeat (first|apply Kd.V_alloc|apply Kd.V_drewN|apply Kd.V_drew));exact HO0.out) (Kd.R_base ho0) hb);have n1_:=Aside0.mk (Kd.R_lower (Kd.R_newM (M:=fun k_=>(w.heap.size≤k_)) ho0 (below_size (by repeat (first|(with_reducible first|exact HB.out|apply below_alloc|apply pw_below_drewN|apply below_drew1)|exact HB.out))) (fun k_ h_=>h_)) (below_size (by repeat (first|(with_reducible first|exact HB.out|apply below_alloc|apply pw_below_drewN|apply below_drew1)|exact HB.out))));have n2_:=Aside0.mk (below_step (by repeat (first|(with_reducible first|exact HB.out|apply below_alloc|apply pw_below_drewN|apply below_drew1)|exact HB.out)) hb);clear HO0 HB;have HO0:=n0_;have HO451:=n1_;have HB:=n2_;clear n0_ n1_ n2_;(try clear hb);(try clear hb2);(try clear hk);(try clear hi);(try clear ho0);obtain ⟨Ao6,co6,eo6⟩:=Kd.R_slice HO451.out;subst eo6)|((with_reducible refine gate_dst (N:=10) rfl ?_);refine Kd.N_lit (Kd.slice 5 (Kd.int .u8)) _ 48 ?hg (N':=10) ?hd (xs:=([l0,t449]:List (List Int))) (inner:=[.slice A0 l0.length c0,.slice Ao6 t449.length co6]) (ok:=(fun k_=>(P0_ k_∨w.heap.size≤k_))) (okp:=(fun k_=>(P0_ k_∨w.heap.size≤k_))) ?hr ?hp (fun _ hk=>hk) ((show ∀ k_,w5.heap.size≤k_ → (fun k_=>(P0_ k_∨w.heap.size≤k_)) k_ from fun k_ hk=>(.inr (Nat.le_trans (below_size (by repeat (first|(with_reducible first|exact HB.out|apply below_alloc|apply pw_below_drewN|apply below_drew1)|exact HB.out))) hk))) _ (Nat.le_refl _)) (Below.refl _ _) (Nat.le_refl _) (by simp) ?_;(case hd=>rfl);(case hg=>rfl);(case hr=>first|(go_simp;done)|(go_simp;rfl));(case hp=>exact (Reps.one (show Kd.FK (Kd.slice 5 (Kd.int .u8)) _ _ l0 [.slice A0 l0.length c0] from (Kd.FK_slice_mk (Kd.V_reads' (Kd.V_mono (ok':=(fun k_=>(P0_ k_∨w.heap.size≤k_))) (HO0.out) (fun k_ hk=>hk.1))).2.1 (Kd.V_F (Kd.V_mono (ok':=(fun k_=>(P0_ k_∨w.heap.size≤k_))) (HO0.out) (fun k_ hk=>hk.1))))) (Reps.one (show Kd.FK (Kd.slice 5 (Kd.int .u8)) _ _ t449 [.slice Ao6 t449.length co6] from (Kd.FK_slice_mk (Kd.R_reads' (Kd.R_mono (ok':=(fun k_=>(P0_ k_∨w.heap.size≤k_))) (HO451.out) (fun k_ hk=>(.inr (hk.1))))).2.1 (Kd.R_F (Kd.R_mono (ok':=(fun k_=>(P0_ k_∨w.heap.size≤k_))) (HO451.out) (fun k_ hk=>(.inr (hk.1))))))) (Reps.none _ _))));intro v453 w7 ho8 hb hg_ hnew_;clear hg_ hnew_;(first|rw [← Ny452.out] at ho8|(simp only [Int.reduceToNat] at ho8;rw [← Ny452.out] at ho8));have n0_:=Aside0.mk (Kd.V_elder' (by (with_reducible repeat (first|apply Kd.V_alloc|apply Kd.V_drewN|apply Kd.V_drew));exact HO0.out) (Kd.N_base ho8) hb);have n1_:=Aside0.mk (Kd.N_lower ho8 (below_size (by repeat (first|(with_reducible first|exact HB.out|apply below_alloc|apply pw_below_drewN|apply below_drew1)|exact HB.out))));have n2_:=Aside0.mk (below_step (by repeat (first|(with_reducible first|exact HB.out|apply below_alloc|apply pw_below_drewN|apply below_drew1)|exact HB.out)) hb);clear HO0 HB HO451;have HO0:=n0_;have HO454:=n1_;have HB:=n2_;clear n0_ n1_ n2_;clear hb ho8;obtain ⟨Ao9,co9,eo9⟩:=Kd.N_slice HO454.out;subst eo9)|((with_reducible refine gate_callee (f:=63) rfl ?_);refine goesL_ (some 11) rfl rfl Try.func63 (by kernel_rfl) rfl #[.slice Ao9 y452.length co9] rfl (by (try simp only [List.map_toArray,List.map_cons,List.map_nil]);first|done|rfl|(simp only [List.length_drop,List.length_take];rfl)) ?_;(with_reducible refine (slices_Concat_byte_byte.calls k _ _ y452 t455 _ ?side1 ?side2 A4.out).mono ?_);(case side1=>repeat (first|exact (Kd.N_reads' HO454.out).2.2|(with_reducible refine Kd.C_alloc ?_ _)|(with_reducible refine Kd.C_drewN ?_ _)|(with_reducible refine Kd.C_drew ?_)));(case side2=>exact (Kd.N_reads' HO454.out).2.1);rintro e w10 ⟨v456,rfl,ho0,hb⟩;refine ⟨_,rfl,?_⟩;have n0_:=Aside0.mk (Kd.V_elder' (by (with_reducible repeat (first|apply Kd.V_alloc|apply Kd.V_drewN|apply Kd.V_drew));exact HO0.out) (Kd.R_base ho0) hb);have n1_:=Aside0.mk (Kd.N_elder' (by (with_reducible repeat (first|apply Kd.N_alloc|apply Kd.N_drewN|apply Kd.N_drew));exact HO454.out) (Kd.R_base ho0) hb);have n2_:=Aside0.mk (Kd.R_lower (Kd.R_newM (M:=fun k_=>(w.heap.size≤k_)) ho0 (below_size (by repeat (first|(with_reducible first|exact HB.out|apply below_alloc|apply pw_below_drewN|apply below_drew1)|exact HB.out))) (fun k_ h_=>h_)) (below_size (by repeat (first|(with_reducible first|exact HB.out|apply below_alloc|apply pw_below_drewN|apply below_drew1)|exact HB.out))));have n3_:=Aside0.mk (below_step (by repeat (first|(with_reducible first|exact HB.out|apply below_alloc|apply pw_below_drewN|apply below_drew1)|exact HB.out)) hb);clear HO0 HO454 HB;have HO0:=n0_;have HO454:=n1_;have HO457:=n2_;have HB:=n3_;clear n0_ n1_ n2_ n3_;(try clear hb);(try clear hb2);(try clear hk);(try clear hi);(try clear ho0)))
  go_ret2
  exact ⟨_,by first|rfl|(simp [errW_none,errW_some] <;> rfl)|(simp [*,errW_none,errW_some] <;> rfl),by (with_reducible repeat (first|apply Kd.R_alloc|apply Kd.R_drewN|apply Kd.R_drew));exact Kd.R_mono HO457.out (fun _ hk=>hk.1),by repeat (first|(with_reducible first|exact HB.out|apply below_alloc|apply pw_below_drewN|apply below_drew1)|exact HB.out)⟩
end Go.Proofs.Ytbdnmdmfnopihaa.Print
end
