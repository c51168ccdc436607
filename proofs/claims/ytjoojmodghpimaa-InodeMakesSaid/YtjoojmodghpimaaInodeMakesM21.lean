/- Texts of the proof of InodeMakes, part 21. -/
import Derived.Test.YtjoojmodghpimaaInodeMakesM14
import Derived.Test.YtjoojmodghpimaaInodeMakesMA
import Derived.Test.YtjoojmodghpimaaInodeMakesM19
import Derived.Test.YtjoojmodghpimaaInodeMakesM20
section
namespace Go.Proofs.Ytjoojmodghpimaa.Print
open Go.RowKit Go.Proofs.YtjoojmodghpimaaW.PrintWords Go.Proofs.YtjoojmodghpimaaW.PrintLast Go.Proofs.YtjoojmodghpimaaW.PrintMore
attribute [local go_sem] max2_int min2_int max_two min_two max_three min_three max_four min_four   -- for this text's walks alone
attribute [local go_sem ↓] Go.Proofs.Ytjoojmodghpimaa.Sem.isSome_setCell
attribute [local go_sem] Go.Instr.field Go.asAgg
set_option linter.unusedVariables false
set_option linter.unusedSimpArgs false
mutual
def slipwayref01_Pack.l0:Nat → List Int → List Int → List Int → Int → Int → Option (List Int × Int)
 | 0,_,_,_,_,_=>none
 | k + 1,x0,x1,x8,x9,x10=>if x10 < (x1.length:Int) then (if 0≤x10 then (if x10 < (x0.length:Int) then (if (rd x0 x10) < 64 then (if 0≤(IntKind.u64.wrap (rd x0 x10)) then (slipwayref01_Pack.j1 k x0 x1 x8 x9 x10 ((shr .u64 (rd x1 x10) (IntKind.u64.wrap (rd x0 x10))) != 0)) else (none)) else (slipwayref01_Pack.j1 k x0 x1 x8 x9 x10 false)) else (none)) else (none)) else (some (x8,0))
def slipwayref01_Pack.j1:Nat → List Int → List Int → List Int → Int → Int → Bool → Option (List Int × Int)
 | 0,_,_,_,_,_,_=>none
 | k + 1,x0,x1,x8,x9,x10,x50=>if x50=true then (some (([]:List Int),1)) else (if 0≤x10 then (if x10 < (x0.length:Int) then (slipwayref01_Pack.l1 k x0 x1 x8 x9 x10 (wrap64 ((rd x0 x10) - 1))) else (none)) else (none))
def slipwayref01_Pack.l1:Nat → List Int → List Int → List Int → Int → Int → Int → Option (List Int × Int)
 | 0,_,_,_,_,_,_=>none
 | k + 1,x0,x1,x8,x9,x10,x11=>if x11 ≥ 0 then (if 0≤(wrap64 (Int.tdiv x9 8)) then (if (wrap64 (Int.tdiv x9 8)) < (x8.length:Int) then (if 0≤x10 then (if x10 < (x1.length:Int) then (if 0≤(IntKind.u64.wrap (x11)) then (if 0≤(IntKind.u64.wrap (wrap64 (7 - (Int.tmod x9 8)))) then (slipwayref01_Pack.l1 k x0 x1 (x8.set ((wrap64 (Int.tdiv x9 8)):Int).toNat (Go.bits .or .u8 (rd x8 (wrap64 (Int.tdiv x9 8))) (shl .u8 ((Go.bits .and .u64 (shr .u64 (rd x1 x10) (IntKind.u64.wrap (x11))) 1) % 256) (IntKind.u64.wrap (wrap64 (7 - (Int.tmod x9 8))))))) (wrap64 (x9 + 1)) x10 (wrap64 (x11 - 1))) else (none)) else (none)) else (none)) else (none)) else (none)) else (none)) else (slipwayref01_Pack.l0 k x0 x1 x8 x9 (wrap64 (x10 + 1)))
end
def slipwayref01_Pack.f (k:Nat) (l0:List Int) (l1:List Int):Option (List Int × Int):=(slipwayref01_Width.f k l0).bind fun bt249=>(if bt249.2=0 then (if (l1.length:Int)=(l0.length:Int) then (if 0≤bt249.1 then (if (bt249.1:Int).toNat≤281474976710656 then (slipwayref01_Pack.l0 k l0 l1 (List.replicate (bt249.1:Int).toNat 0) 0 0) else (none)) else (none)) else (some (([]:List Int),1))) else (some (([]:List Int),bt249.2)))
def slipwayref01_Pack.T11:Bool × List (List Nat × List Nat):=(true,[([],[]),([],[]),([0,1],[0,1]),([2],[2]),([3],[3]),([4],[4]),([5],[5]),([5],[5]),([6,7,5],[5,6,7]),([8,5],[5,8]),([5],[5]),([5],[5]),([10,11,5],[5,10,11]),([12,5],[5,12]),([13,5],[5,13]),([9,14,5],[5,9,14]),([15,5],[5,15]),([5,16],[5,16])])
def slipwayref01_Pack.B11:List Nat:=[0,0,3,7,15,31,63,63,255,511,63,63,3135,7231,15423,32767,65535,131071]
theorem slipwayref01_Pack.tab11:rtab .any (opsOf Try.f35 11)=slipwayref01_Pack.T11:=by kernel_rfl
theorem slipwayref01_Pack.bits11:waitsOk slipwayref01_Pack.T11.2 slipwayref01_Pack.B11=true:=by kernel_rfl
def slipwayref01_Pack.T16:Bool × List (List Nat × List Nat):=(true,[([],[]),([],[]),([1],[1]),([0,2],[0,2]),([3],[3]),([],[]),([],[]),([5,6],[5,6]),([7],[7]),([],[]),([9],[9]),([8,10],[8,10]),([11],[11]),([12],[12]),([],[]),([14],[14]),([15],[15]),([16],[16]),([13,17],[13,17]),([4,18],[4,18]),([0,2,0,1,2,3,4,5,6,7,8,9,10,11,12,13,14,15,16,17,18,19],[0,2]),([20,19,0,1,2,3,4,5,6,7,8,9,10,11,12,13,14,15,16,17,18,19],[19,20])])
def slipwayref01_Pack.B16:List Nat:=[0,0,2,7,15,0,0,96,224,0,512,2016,4064,8160,0,16384,49152,114688,262112,524287,1048575,2097151]
theorem slipwayref01_Pack.tab16:rtab .any (opsOf Try.f35 16)=slipwayref01_Pack.T16:=by kernel_rfl
theorem slipwayref01_Pack.bits16:waitsOk slipwayref01_Pack.T16.2 slipwayref01_Pack.B16=true:=by kernel_rfl
set_option maxHeartbeats 8000000 in
set_option maxRecDepth 100000 in
theorem slipwayref01_Pack.calls (k:Nat) (A0:Option Addr) (c0:Nat) (l0:List Int) (A1:Option Addr) (c1:Nat) (l1:List Int) (r1:List Int) (r2:Int) (w:World) (hr0:Kd.C (Kd.int .i64) w A0 l0.length l0) (hc0:l0.length≤c0) (hr1:Kd.C (Kd.int .u64) w A1 l1.length l1) (hc1:l1.length≤c1) (h:slipwayref01_Pack.f k l0 l1=some (r1,r2)) :
  Calls Try.prog 35 #[.slice A0 l0.length c0,.slice A1 l1.length c1] w fun e w'=>∃ v0_:Value,e=.returned (.tuple #[v0_,.int .i64 r2])∧Kd.R (Kd.int .u8) 5 w' w.heap.size (fun _=>True) v0_ r1∧Below w.heap.size w w':=by
 have HR0:=zm hr0
 have HC0:=zm hc0
 clear hr0 hc0
 have HR1:=zm hr1
 have HC1:=zm hc1
 clear hr1 hc1
 have HB:=zm (Below.refl w.heap.size w)
 have H:((slipwayref01_Width.f k l0).bind fun bt249=>(if bt249.2=0 then (if (l1.length:Int)=(l0.length:Int) then (if 0≤bt249.1 then (if (bt249.1:Int).toNat≤281474976710656 then (slipwayref01_Pack.l0 k l0 l1 (List.replicate (bt249.1:Int).toNat 0) 0 0) else (none)) else (none)) else (some (([]:List Int),1))) else (some (([]:List Int),bt249.2))))=some (r1,r2):=h
 clear h
 replace H:=Option.bind_eq_some_iff.mp H
 obtain ⟨⟨t249,t250⟩,A30,H⟩:=H
 replace H:(if t250=0 then (if (l1.length:Int)=(l0.length:Int) then (if 0≤t249 then (if (t249:Int).toNat≤281474976710656 then (slipwayref01_Pack.l0 k l0 l1 (List.replicate (t249:Int).toNat 0) 0 0) else (none)) else (none)) else (some (([]:List Int),1))) else (some (([]:List Int),t250)))=some (r1,r2):=H
 have A3:=zm A30
 clear A30
 by_cases c4:t250=0
 ·rw [if_pos c4] at H
  have c4b0:(t250 == 0)=true:=beq_iff_eq.mpr c4
  have c4b1:(t250 != 0)=false:=bne_eq_false_iff_eq.mpr c4
  clear c4
  by_cases c5:(l1.length:Int)=(l0.length:Int)
  ·rw [if_pos c5] at H
   have c5b0:((l1.length:Int) == (l0.length:Int))=true:=beq_iff_eq.mpr c5
   have c5b1:((l1.length:Int) != (l0.length:Int))=false:=bne_eq_false_iff_eq.mpr c5
   have c5b2:(l1.length == l0.length)=true:=by first|simpa using c5|(simp at c5 ⊢;omega)
   clear c5
   by_cases c6:0≤t249
   ·rw [if_pos c6] at H
    have c6b0:=eq_true c6
    have c6b1:decide (0≤t249)=true:=decide_eq_true c6
    clear c6
    by_cases c7:(t249:Int).toNat≤281474976710656
    ·rw [if_pos c7] at H
     have c7b0:=eq_true c7
     have c7b1:decide ((t249:Int).toNat≤281474976710656)=true:=decide_eq_true c7
     clear c7
     obtain ⟨y251,hy251⟩:∃ y_:List Int,y_=(List.replicate (t249:Int).toNat 0):=⟨_,rfl⟩
     replace H:(slipwayref01_Pack.l0 k l0 l1 y251 0 0)=some (r1,r2):=by first|(rw [hy251];with_reducible exact H)|(have H2_:=(Option.bind_some _ _).symm.trans H;rw [hy251];with_reducible exact H2_)|(have H2_:=(Option.bind_some _ _).symm.trans H;with_reducible exact H2_)|with_reducible exact H|(rw [hy251];exact H)|exact H
     have Ny251:=zm hy251
     clear hy251
     have H':=zm H
     clear H
     go_enter Try.func35,Try.ntmps35
     go_wp2_with (first|((with_reducible refine gate_callee (f:=51) rfl ?_);refine goesL_ (some 14) rfl rfl Try.func51 (by kernel_rfl) rfl #[.slice A0 l0.length c0] rfl (by (try simp only [List.map_toArray,List.map_cons,List.map_nil]);first|done|rfl|(simp only [List.length_drop,List.length_take];rfl)) ?_;(with_reducible refine (slipwayref01_Width.calls k _ _ l0 t249 t250 _ ?side1 ?side2 A3.out).mono ?_);(case side1=>repeat (first|exact HR0.out|(with_reducible refine Kd.C_alloc ?_ _)|(with_reducible refine Kd.C_drewN ?_ _)|(with_reducible refine Kd.C_drew ?_)));(case side2=>exact HC0.out);rintro e w' ⟨rfl,⟨nd,rfl⟩⟩;refine ⟨_,rfl,?_⟩)|((with_reducible refine gate_dst (N:=26) rfl ?_);refine Kd.R_make (Kd.int .u8) _ 5 rfl (N:=26) rfl 25 _ _ rfl t249 rfl rfl Try.underlying25 (.int .u8 0) 1 info5 rfl (by decide) (by omega) 0 (ok:=fun _=>True) (okp:=fun _=>True) rfl (fun _ hk=>hk) trivial (za_) (Nat.le_trans (Nat.mul_le_mul_right _ (za_:t249.toNat≤281474976710656)) (by omega)) (Below.refl _ _) (Nat.le_refl _) ?_;intro v252 w8 ho9 hb hg_ hnew_;clear hg_ hnew_;(first|rw [← Ny251.out] at ho9|(simp only [Int.reduceToNat] at ho9;rw [← Ny251.out] at ho9));have n0_:=zm (Kd.R_lower ho9 (below_size (zb_)));have n1_:=zkH HB hb;clear HB;have HO253:=n0_;have HB:=n1_;clear n0_ n1_;clear hb ho9))
     go_loopg [9,10] k (fun kq v9 v10 w'=>∃ (x8_1:List Int) (x9_1:Int) (x10_1:Int),v9=.int .i64 x9_1∧v10=.int .i64 x10_1∧Aside0 (slipwayref01_Pack.l0 kq l0 l1 x8_1 x9_1 x10_1=some (r1,r2))∧Aside0 (kq≤k)∧Aside0 (Kd.R (Kd.int .u8) 5 w' w.heap.size (fun _=>True) v252 x8_1)∧Aside0 (Below w.heap.size w w'))
     case atStart=>exact ⟨(y251),(0),(0),zs_,zs_,H',⟨Nat.le_refl _⟩,⟨by (with_reducible repeat (first|apply zrA|apply zrN|apply zrD));exact HO253.out⟩,⟨zb_⟩⟩
     case round =>
      clear H'
      try clear c1
      try clear p2
      try clear c3
      try clear c4
      try clear c4b0
      try clear c4b1
      try clear c5
      try clear c5b0
      try clear c5b1
      try clear c5b2
      try clear c6
      try clear c6b0
      try clear c6b1
      try clear c7
      try clear c7b0
      try clear c7b1
      obtain ⟨x8_1,x9_1,x10_1,rfl,rfl,HA,HK1,HO_8,HB⟩:=hrel
      cases gk with
      | zero=>exact absurd HA.out (by simp [slipwayref01_Pack.l0])
      | succ k1 =>
       have H:=HA.out
       clear HA
       simp only [slipwayref01_Pack.l0] at H
       by_cases c10:x10_1 < (l1.length:Int)
       ·rw [if_pos c10] at H
        have c10b0:decide (x10_1 < (l1.length:Int))=true:=decide_eq_true c10
        clear c10
        have HC11:=zm H
        clear H
        go_upto_region 11 with (fail)
        go_cut [50] (fun v50 wc=>∃ (kq:Nat) (x50_10:Bool),v50=.bool x50_10∧Aside0 (slipwayref01_Pack.j1 kq l0 l1 x8_1 x9_1 x10_1 x50_10=some (r1,r2))∧Aside0 (kq≤k1)∧Aside0 (Kd.R (Kd.int .u8) 5 wc w.heap.size (fun _=>True) v252 x8_1)∧Aside0 (Below w.heap.size w wc))
        case first =>
         have H:=HC11.out
         clear HC11
         by_cases c12:0≤x10_1
         ·rw [if_pos c12] at H
          have c12b0:decide (0≤x10_1)=true:=decide_eq_true c12
          clear c12
          (first|rw [c12b0]|(simp only [i64_w,i32_w];rw [c12b0])|skip)
          by_cases c13:x10_1 < (l0.length:Int)
          ·rw [if_pos c13] at H
           have c13b0:decide (x10_1 < (l0.length:Int))=true:=decide_eq_true c13
           clear c13
           by_cases c14:(rd l0 x10_1) < 64
           ·rw [if_pos c14] at H
            have c14b0:decide ((rd l0 x10_1) < 64)=true:=decide_eq_true c14
            clear c14
            obtain ⟨ji15,hji15⟩:∃ j_:Int,(IntKind.u64.wrap (rd l0 x10_1))=j_:=⟨_,rfl⟩
            replace H:(if 0≤(ji15) then (slipwayref01_Pack.j1 k1 l0 l1 x8_1 x9_1 x10_1 ((shr .u64 (rd l1 x10_1) (ji15)) != 0)) else (none))=some (r1,r2):=by first|(rw [hji15] at H;exact H)|(simp only [hji15] at H ⊢;exact H)
            by_cases c16:0≤(ji15)
            ·rw [if_pos c16] at H
             have c16b0:=eq_true c16
             have c16b1:decide (0≤(ji15))=true:=decide_eq_true c16
             clear c16
             obtain ⟨ji17,hji17⟩:∃ j_:Int,(shr .u64 (rd l1 x10_1) (ji15))=j_:=⟨_,rfl⟩
             replace H:(slipwayref01_Pack.j1 k1 l0 l1 x8_1 x9_1 x10_1 ((ji17) != 0))=some (r1,r2):=by first|(rw [hji17] at H;exact H)|(simp only [hji17] at H ⊢;exact H)
             have hji17_:((rd l1 x10_1) / 2 ^ min (ji15).toNat 64)=ji17:=hji17
             have hji17z:(ji15)≤64 → ((rd l1 x10_1) / 2 ^ (ji15).toNat)=ji17:=shr_small hji17
             have H':=zm H
             clear H
             try go_wp2
             have n0_:=zm (zrD HO_8.out)
             have n1_:=zm (zlD HB.out)
             clear HO_8 HB
             have HO_8:=n0_
             have HB:=n1_
             clear n0_ n1_
             have p254:0≤(x10_1:Int):=za_
             have q254:x10_1 < (l0.length:Int):=za_
             obtain ⟨ad254,e254,hx254_0⟩:=Kd.at_int HR0.out x10_1 p254 q254
             have hw254_0:=hx254_0
             cases e254
             replace hx254_0:=zhx HB hx254_0
             replace p254:=eq_true p254
             replace q254:=eq_true q254
             have p255:0≤(x10_1:Int):=za_
             have q255:x10_1 < (l1.length:Int):=za_
             obtain ⟨ad255,e255,hx255_0⟩:=Kd.at_int HR1.out x10_1 p255 q255
             have hw255_0:=hx255_0
             cases e255
             replace hx255_0:=zhx HB hx255_0
             replace p255:=eq_true p255
             replace q255:=eq_true q255
             have p256:0≤(x10_1:Int):=za_
             have q256:x10_1 < (l0.length:Int):=za_
             obtain ⟨ad256,e256,hx256_0⟩:=Kd.at_int HR0.out x10_1 p256 q256
             have hw256_0:=hx256_0
             obtain rfl:ad254=ad256:=(by injection e256)
             replace hx256_0:=zhx HB hx256_0
             replace p256:=eq_true p256
             replace q256:=eq_true q256
             refine start_ (n:=18) (S:=fun w'=>w'.cell? (ad254.add (x10_1).toNat)=some (.int .i64 (rd l0 x10_1))∧w'.cell? (ad255.add (x10_1).toNat)=some (.int .u64 (rd l1 x10_1))∧w'.cell? (ad254.add (x10_1).toNat)=some (.int .i64 (rd l0 x10_1))) (ds:=[]) (Array.replicate 18 false) (by kernel_rfl) rfl rfl ⟨(zhx HB hw254_0),(zhx HB hw255_0),(zhx HB hw256_0)⟩ (fun hHeld=>?_);refine with_tabW slipwayref01_Pack.tab11 slipwayref01_Pack.bits11 (fun HT_ HW_=>?_)
             generalize wr.drew=w18 at HO_8 HB hx254_0 hx255_0 hx256_0 hHeld ⊢
             refine zpu 0 ?_
             refine zpu 1 ?_
             refine zpu 2 ?_
             refine zta 3 hHeld ?_
             refine zpu 4 ?_
             refine zpu 5 ?_
             refine zpu 6 ?_
             refine zpu 7 ?_
             refine zpu 8 ?_
             refine zpu 10 ?_
             refine zpu 11 ?_
             refine zpu 12 ?_
             refine zta 9 hHeld ?_
             refine zta 13 hHeld ?_
             refine zpu 14 ?_
             refine zpu 15 ?_
             refine zpu 16 ?_
             refine zpu 17 ?_
             refine zdo ?_
             try go_wp2
             go_meet
             case rel=>exact ⟨_,(((ji17) != 0)),(by first|rfl|(simp;done)|(simp only [← hji17] <;> (first|rfl|simp))|(simp [*];done)),H',⟨by have:=HK1.out;first|omega|exact Nat.le_refl _⟩,⟨by (with_reducible repeat (first|apply zrA|apply zrN|apply zrD));exact HO_8.out⟩,⟨zb_⟩⟩
            ·rw [if_neg c16] at H
             exact absurd H (by simp)
           ·rw [if_neg c14] at H
            have c14b0:decide ((rd l0 x10_1) < 64)=false:=decide_eq_false c14
            clear c14
            have H':=zm H
            clear H
            try go_wp2
            have n0_:=zm (zrD HO_8.out)
            have n1_:=zm (zlD HB.out)
            clear HO_8 HB
            have HO_8:=n0_
            have HB:=n1_
            clear n0_ n1_
            have p254:0≤(x10_1:Int):=za_
            have q254:x10_1 < (l0.length:Int):=za_
            obtain ⟨ad254,e254,hx254_0⟩:=Kd.at_int HR0.out x10_1 p254 q254
            have hw254_0:=hx254_0
            cases e254
            replace hx254_0:=zhx HB hx254_0
            replace p254:=eq_true p254
            replace q254:=eq_true q254
            refine start_ (n:=18) (S:=fun w'=>w'.cell? (ad254.add (x10_1).toNat)=some (.int .i64 (rd l0 x10_1))) (ds:=[]) (Array.replicate 18 false) (by kernel_rfl) rfl rfl ((zhx HB hw254_0)) (fun hHeld=>?_);refine with_tabW slipwayref01_Pack.tab11 slipwayref01_Pack.bits11 (fun HT_ HW_=>?_)
            generalize wr.drew=w19 at HO_8 HB hx254_0 hHeld ⊢
            refine zpu 0 ?_
            refine zpu 1 ?_
            refine zpu 2 ?_
            refine take_ (i:=3) (N:=some 36) (v:=?_) (a':=?_) #[true,true,true,true,false,false,false,false,false,false,false,false,false,false,false,false,false,false] rfl rfl (take_ofW HT_.out HW_.out (by kernel_rfl)) (fun _ _ _ h=>h) (Or.inl ⟨by rfl,?_⟩) hHeld ?_ ?_
            rotate_left
            ·intro w' s0
             go_simp
             with_reducible rfl
            rotate_left
            ·simp only [Act.put,List.setIfInBounds_toArray,List.set_cons_zero,List.set_cons_succ,i64_w,i32_w]
             rfl
            refine zpu 4 ?_
            refine zpu 5 ?_
            refine zpn 6 ?_
            refine zpn 7 ?_
            refine zpn 8 ?_
            refine zpn 9 ?_
            refine zpn 10 ?_
            refine zpn 11 ?_
            refine zpn 12 ?_
            refine zpn 13 ?_
            refine zpn 14 ?_
            refine zpn 15 ?_
            refine zpn 16 ?_
            refine zpu 17 ?_
            refine zdo ?_
            try go_wp2
            go_meet
            case rel=>exact ⟨_,(false),zs_,H',⟨by have:=HK1.out;first|omega|exact Nat.le_refl _⟩,⟨by (with_reducible repeat (first|apply zrA|apply zrN|apply zrD));exact HO_8.out⟩,⟨zb_⟩⟩
          ·rw [if_neg c13] at H
           exact absurd H (by simp)
         ·rw [if_neg c12] at H
          exact absurd H (by simp)
        case rest =>
         clear HC11
         try clear c1
         try clear p2
         try clear q2
         try clear hx2
         try clear c3
         try clear c4
         try clear c4b0
         try clear c4b1
         try clear c5
         try clear c5b0
         try clear c5b1
         try clear c5b2
         try clear c6
         try clear c6b0
         try clear c6b1
         try clear c7
         try clear c7b0
         try clear c7b1
         try clear c10
         try clear c10b0
         try clear c12
         try clear c12b0
         try clear c13
         try clear c13b0
         try clear c14
         try clear c14b0
         try clear c16
         try clear c16b0
         try clear c16b1
         try clear hx254_0
         try clear hx255_0
         try clear hx256_0
         try clear p2
         try clear p254
         try clear p255
         try clear p256
         try clear q254
         try clear q255
         try clear q256
         obtain ⟨kq,x50_10,rfl,HA,HJ10,HO_8,HB⟩:=hcut
         cases kq with
         | zero=>exact absurd HA.out (by simp [slipwayref01_Pack.j1])
         | succ kj10 =>
          have H:=HA.out
          clear HA
          simp only [slipwayref01_Pack.j1] at H
          by_cases c20:x50_10=true
          ·subst c20
           have H1:(some (([]:List Int),1))=some (r1,r2):=by rw [if_pos rfl] at H;exact H
           clear H
           have H:=H1
           clear H1
           simp only [Option.some.injEq,Prod.mk.injEq] at H
           obtain ⟨rfl,rfl⟩:=H
           go_wp2
           go_ret2
           exact ⟨_,ze_,zr_,zb_⟩
          ·replace c20:=Bool.eq_false_iff.mpr c20
           subst c20
           have H1:(if 0≤x10_1 then (if x10_1 < (l0.length:Int) then (slipwayref01_Pack.l1 kj10 l0 l1 x8_1 x9_1 x10_1 (wrap64 ((rd l0 x10_1) - 1))) else (none)) else (none))=some (r1,r2):=by rw [if_neg (show ¬ (false=true) by decide)] at H;exact H
           clear H
           have H:=H1
           clear H1
           by_cases c21:0≤x10_1
           ·rw [if_pos c21] at H
            have c21b0:decide (0≤x10_1)=true:=decide_eq_true c21
            clear c21
            by_cases c22:x10_1 < (l0.length:Int)
            ·rw [if_pos c22] at H
             have c22b0:decide (x10_1 < (l0.length:Int))=true:=decide_eq_true c22
             clear c22
             have H':=zm H
             clear H
             have p257:0≤(x10_1:Int):=za_
             have q257:x10_1 < (l0.length:Int):=za_
             obtain ⟨ad257,e257,hx257_0⟩:=Kd.at_int HR0.out x10_1 p257 q257
             cases e257
             replace hx257_0:=zhx HB hx257_0
             replace p257:=eq_true p257
             replace q257:=eq_true q257
             go_wp2
             go_loopg [9,11] kj10 (fun kq v9 v11 w'=>∃ (x8_3:List Int) (x9_3:Int) (x11_3:Int),v9=.int .i64 x9_3∧v11=.int .i64 x11_3∧Aside0 (slipwayref01_Pack.l1 kq l0 l1 x8_3 x9_3 x10_1 x11_3=some (r1,r2))∧Aside0 (kq≤kj10)∧Aside0 (Kd.R (Kd.int .u8) 5 w' w.heap.size (fun _=>True) v252 x8_3)∧Aside0 (Below w.heap.size w w'))
             case atStart=>exact ⟨(x8_1),(x9_1),(wrap64 ((rd l0 x10_1) - 1)),zs_,zs_,H',⟨Nat.le_refl _⟩,⟨by (with_reducible repeat (first|apply zrA|apply zrN|apply zrD));exact HO_8.out⟩,⟨zb_⟩⟩
             case round =>
              clear H'
              try clear c1
              try clear c2
              try clear p2
              try clear q2
              try clear hx2
              try clear c3
              try clear c4
              try clear c4b0
              try clear c4b1
              try clear c5
              try clear c5b0
              try clear c5b1
              try clear c5b2
              try clear c6
              try clear c6b0
              try clear c6b1
              try clear p6
              try clear c7
              try clear c7b0
              try clear c7b1
              try clear c10
              try clear c10b0
              try clear c12
              try clear c12b0
              try clear c13
              try clear c13b0
              try clear c14
              try clear c14b0
              try clear c16
              try clear c16b0
              try clear c16b1
              try clear c20
              try clear c21
              try clear c21b0
              try clear c22
              try clear c22b0
              try clear hx254_0
              try clear hx255_0
              try clear hx256_0
              try clear hx257_0
              try clear p2
              try clear p254
              try clear p255
              try clear p256
              try clear p257
              try clear q2
              try clear q254
              try clear q255
              try clear q256
              try clear q257
              obtain ⟨x8_3,x9_3,x11_3,rfl,rfl,HA,HK3,HO_8,HB⟩:=hrel
              cases gk with
              | zero=>exact absurd HA.out (by simp [slipwayref01_Pack.l1])
              | succ k3 =>
               have H:=HA.out
               clear HA
               simp only [slipwayref01_Pack.l1] at H
               by_cases c23:x11_3 ≥ 0
               ·rw [if_pos c23] at H
                have c23b0:decide (0≤x11_3)=true:=decide_eq_true c23
                clear c23
                obtain ⟨ji24,hji24⟩:∃ j_:Int,(wrap64 (Int.tdiv x9_3 8))=j_:=⟨_,rfl⟩
                replace H:(if 0≤(ji24) then (if (ji24) < (x8_3.length:Int) then (if 0≤x10_1 then (if x10_1 < (l1.length:Int) then (if 0≤(IntKind.u64.wrap (x11_3)) then (if 0≤(IntKind.u64.wrap (wrap64 (7 - (Int.tmod x9_3 8)))) then (slipwayref01_Pack.l1 k3 l0 l1 (x8_3.set ((ji24):Int).toNat (Go.bits .or .u8 (rd x8_3 (ji24)) (shl .u8 ((Go.bits .and .u64 (shr .u64 (rd l1 x10_1) (IntKind.u64.wrap (x11_3))) 1) % 256) (IntKind.u64.wrap (wrap64 (7 - (Int.tmod x9_3 8))))))) (wrap64 (x9_3 + 1)) x10_1 (wrap64 (x11_3 - 1))) else (none)) else (none)) else (none)) else (none)) else (none)) else (none))=some (r1,r2):=by first|(rw [hji24] at H;exact H)|(simp only [hji24] at H ⊢;exact H)
                have hji24w:(IntKind.i64.wrap (Int.tdiv x9_3 8))=ji24:=(i64_w _).trans hji24
                by_cases c25:0≤(ji24)
                ·rw [if_pos c25] at H
                 have c25b0:decide (0≤(ji24))=true:=decide_eq_true c25
                 clear c25
                 by_cases c26:(ji24) < (x8_3.length:Int)
                 ·rw [if_pos c26] at H
                  have c26b0:decide ((ji24) < (x8_3.length:Int))=true:=decide_eq_true c26
                  clear c26
                  by_cases c27:0≤x10_1
                  ·rw [if_pos c27] at H
                   have c27b0:decide (0≤x10_1)=true:=decide_eq_true c27
                   clear c27
                   by_cases c28:x10_1 < (l1.length:Int)
                   ·rw [if_pos c28] at H
                    have c28b0:decide (x10_1 < (l1.length:Int))=true:=decide_eq_true c28
                    clear c28
                    obtain ⟨ji29,hji29⟩:∃ j_:Int,(IntKind.u64.wrap (x11_3))=j_:=⟨_,rfl⟩
                    replace H:(if 0≤(ji29) then (if 0≤(IntKind.u64.wrap (wrap64 (7 - (Int.tmod x9_3 8)))) then (slipwayref01_Pack.l1 k3 l0 l1 (x8_3.set ((ji24):Int).toNat (Go.bits .or .u8 (rd x8_3 (ji24)) (shl .u8 ((Go.bits .and .u64 (shr .u64 (rd l1 x10_1) (ji29)) 1) % 256) (IntKind.u64.wrap (wrap64 (7 - (Int.tmod x9_3 8))))))) (wrap64 (x9_3 + 1)) x10_1 (wrap64 (x11_3 - 1))) else (none)) else (none))=some (r1,r2):=by first|(rw [hji29] at H;exact H)|(simp only [hji29] at H ⊢;exact H)
                    by_cases c30:0≤(ji29)
                    ·rw [if_pos c30] at H
                     have c30b0:=eq_true c30
                     have c30b1:decide (0≤(ji29))=true:=decide_eq_true c30
                     clear c30
                     obtain ⟨ji31,hji31⟩:∃ j_:Int,(shr .u64 (rd l1 x10_1) (ji29))=j_:=⟨_,rfl⟩
                     replace H:(if 0≤(IntKind.u64.wrap (wrap64 (7 - (Int.tmod x9_3 8)))) then (slipwayref01_Pack.l1 k3 l0 l1 (x8_3.set ((ji24):Int).toNat (Go.bits .or .u8 (rd x8_3 (ji24)) (shl .u8 ((Go.bits .and .u64 (ji31) 1) % 256) (IntKind.u64.wrap (wrap64 (7 - (Int.tmod x9_3 8))))))) (wrap64 (x9_3 + 1)) x10_1 (wrap64 (x11_3 - 1))) else (none))=some (r1,r2):=by first|(rw [hji31] at H;exact H)|(simp only [hji31] at H ⊢;exact H)
                     have hji31_:((rd l1 x10_1) / 2 ^ min (ji29).toNat 64)=ji31:=hji31
                     have hji31z:(ji29)≤64 → ((rd l1 x10_1) / 2 ^ (ji29).toNat)=ji31:=shr_small hji31
                     obtain ⟨ji32,hji32⟩:∃ j_:Int,(IntKind.u64.wrap (wrap64 (7 - (Int.tmod x9_3 8))))=j_:=⟨_,rfl⟩
                     replace H:(if 0≤(ji32) then (slipwayref01_Pack.l1 k3 l0 l1 (x8_3.set ((ji24):Int).toNat (Go.bits .or .u8 (rd x8_3 (ji24)) (shl .u8 ((Go.bits .and .u64 (ji31) 1) % 256) (ji32)))) (wrap64 (x9_3 + 1)) x10_1 (wrap64 (x11_3 - 1))) else (none))=some (r1,r2):=by first|(rw [hji32] at H;exact H)|(simp only [hji32] at H ⊢;exact H)
                     by_cases c33:0≤(ji32)
                     ·rw [if_pos c33] at H
                      have c33b0:=eq_true c33
                      have c33b1:decide (0≤(ji32))=true:=decide_eq_true c33
                      clear c33
                      obtain ⟨ji34,hji34⟩:∃ j_:Int,(shl .u8 ((Go.bits .and .u64 (ji31) 1) % 256) (ji32))=j_:=⟨_,rfl⟩
                      replace H:(slipwayref01_Pack.l1 k3 l0 l1 (x8_3.set ((ji24):Int).toNat (Go.bits .or .u8 (rd x8_3 (ji24)) (ji34))) (wrap64 (x9_3 + 1)) x10_1 (wrap64 (x11_3 - 1)))=some (r1,r2):=by first|(rw [hji34] at H;exact H)|(simp only [hji34] at H ⊢;exact H)
                      have hji34_:(IntKind.u8.wrap (((Go.bits .and .u64 (ji31) 1) % 256) * 2 ^ min (ji32).toNat 8))=ji34:=hji34
                      have hji34z:(ji32)≤8 → (IntKind.u8.wrap (((Go.bits .and .u64 (ji31) 1) % 256) * 2 ^ (ji32).toNat))=ji34:=shl_small hji34
                      have hji34m:(((Go.bits .and .u64 (ji31) 1) % 256) * 2 ^ min (ji32).toNat 8) % 256=ji34:=(IntKind.wrap_u8 _).symm.trans hji34_
                      have hji34n:(ji32)≤8 → (((Go.bits .and .u64 (ji31) 1) % 256) * 2 ^ (ji32).toNat) % 256=ji34:=fun hle_=>(IntKind.wrap_u8 _).symm.trans (hji34z hle_)
                      obtain ⟨y260,hy260⟩:∃ y_:List Int,y_=(x8_3.set ((ji24):Int).toNat (Go.bits .or .u8 (rd x8_3 (ji24)) (ji34))):=⟨_,rfl⟩
                      replace H:(slipwayref01_Pack.l1 k3 l0 l1 y260 (wrap64 (x9_3 + 1)) x10_1 (wrap64 (x11_3 - 1)))=some (r1,r2):=by first|(rw [hy260];with_reducible exact H)|(have H2_:=(Option.bind_some _ _).symm.trans H;rw [hy260];with_reducible exact H2_)|(have H2_:=(Option.bind_some _ _).symm.trans H;with_reducible exact H2_)|with_reducible exact H|(rw [hy260];exact H)|exact H
                      have Ny260:=zm hy260
                      clear hy260
                      have H':=zm H
                      clear H
                      try go_wp2
                      have n0_:=zm (zrD HO_8.out)
                      have n1_:=zm (zlD HB.out)
                      clear HO_8 HB
                      have HO_8:=n0_
                      have HB:=n1_
                      clear n0_ n1_
                      obtain ⟨Ao37,co37,eo37⟩:=Kd.R_slice HO_8.out
                      (first|subst eo37|(injection eo37 with f1_ f2_ f3_;have f4_:=f1_.symm;have f5_:=f3_.symm;clear f1_ f2_ f3_;subst f4_;subst f5_))
                      have p258:0≤((ji24):Int):=za_
                      have q258:(ji24) < (x8_3.length:Int):=za_
                      obtain ⟨ad258,e258,hx258_0⟩:=Kd.at_int (Kd.R_reads' HO_8.out).2.2 (ji24) p258 q258
                      cases e258
                      replace p258:=eq_true p258
                      replace q258:=eq_true q258
                      have p259:0≤(x10_1:Int):=za_
                      have q259:x10_1 < (l1.length:Int):=za_
                      obtain ⟨ad259,e259,hx259_0⟩:=Kd.at_int HR1.out x10_1 p259 q259
                      have hw259_0:=hx259_0
                      cases e259
                      replace hx259_0:=zhx HB hx259_0
                      replace p259:=eq_true p259
                      replace q259:=eq_true q259
                      have p35:0≤((ji24):Int):=za_
                      have q35:((ji24):Int) < ((x8_3.length:Int):Int):=za_
                      obtain ⟨go35,co35,eo35,gb35,gl35,cl35,HG35⟩:=Kd.R_form HO_8.out (by omega)
                      (first|cases eo35|(injection eo35 with ea_ en_ ec_;(first|subst ea_|(injection ea_ with ea_;subst ea_));subst ec_;clear en_))
                      have GB35:=zm gb35
                      have GG35:=zm HG35
                      clear gb35 gl35 HG35
                      (first|simp only [add_plain] at hx258_0|skip)
                      obtain ⟨hx35_0,hf35_0⟩:=Kd.R_celln 0 HO_8.out ((ji24):Int) p35 q35
                      replace p35:=eq_true p35
                      replace q35:=eq_true q35
                      have HP38:=Kd.R_putn HO_8.out ((ji24):Int) (Go.bits .or .u8 (rd x8_3 (ji24)) (ji34))
                      rw [← Ny260.out] at HP38
                      have HQ38:=zm HP38
                      clear HP38
                      refine start_ (n:=22) (S:=fun w'=>w'.cell? ⟨go35,((ji24)).toNat,none⟩=some (.int .u8 (rd x8_3 (ji24)))∧w'.cell? (ad259.add (x10_1).toNat)=some (.int .u64 (rd l1 x10_1))) (ds:=[21]) (Array.replicate 22 false) (by kernel_rfl) rfl rfl ⟨hx258_0,(zhx HB hw259_0)⟩ (fun hHeld=>?_);refine with_tabW slipwayref01_Pack.tab16 slipwayref01_Pack.bits16 (fun HT_ HW_=>?_)
                      generalize wr.drew=w36 at HO_8 HB GG35 HQ38 hf35_0 hx258_0 hx259_0 hx35_0 hHeld ⊢
                      refine zpu 0 ?_
                      refine zpu 1 ?_
                      refine zpu 2 ?_
                      refine zpu 3 ?_
                      refine zpu 5 ?_
                      refine zpu 6 ?_
                      refine zpu 7 ?_
                      refine zpu 9 ?_
                      refine zpu 10 ?_
                      refine zpu 14 ?_
                      refine zpu 15 ?_
                      refine zpu 16 ?_
                      refine zpu 17 ?_
                      refine zta 4 hHeld ?_
                      refine zta 8 hHeld ?_
                      refine zpu 11 ?_
                      refine zpu 12 ?_
                      refine zpu 13 ?_
                      refine zpu 18 ?_
                      refine zpu 19 ?_
                      refine zpu 20 ?_
                      refine zla 21 none (fun K hK=>?_)
                      refine skip_ (w1:=?_) (by rfl) rfl ?_ ?_
                      rotate_left
                      ·go_simp
                       rfl
                      refine hK.out _ _ ?_
                      clear hK K
                      refine zdo ?_
                      try go_wp2
                      go_roundg k3
                      case measure=>have:=HK1.out;have:=HJ10.out;have:=HK3.out;omega
                      case rel=>exact ⟨(y260),(wrap64 (x9_3 + 1)),(wrap64 (x11_3 - 1)),zs_,zs_,H',⟨by have:=HK1.out;have:=HJ10.out;have:=HK3.out;omega⟩,⟨by (with_reducible repeat (first|apply zrA|apply zrN|apply zrD));exact HQ38.out⟩,⟨by repeat (first|(with_reducible first|exact HB.out|apply zlA|apply zlN|apply zlD|refine zlS ?_ GB35.out)|exact HB.out)⟩⟩
                     ·rw [if_neg c33] at H
                      exact absurd H (by simp)
                    ·rw [if_neg c30] at H
                     exact absurd H (by simp)
                   ·rw [if_neg c28] at H
                    exact absurd H (by simp)
                  ·rw [if_neg c27] at H
                   exact absurd H (by simp)
                 ·rw [if_neg c26] at H
                  exact absurd H (by simp)
                ·rw [if_neg c25] at H
                 exact absurd H (by simp)
               ·rw [if_neg c23] at H
                have c23b0:decide (0≤x11_3)=false:=decide_eq_false c23
                clear c23
                have H':=zm H
                clear H
                go_wp2
                go_roundg k3
                case measure=>have:=HK1.out;have:=HJ10.out;have:=HK3.out;omega
                case rel=>exact ⟨(x8_3),(x9_3),(wrap64 (x10_1 + 1)),zs_,zs_,H',⟨by have:=HK1.out;have:=HJ10.out;have:=HK3.out;omega⟩,⟨by (with_reducible repeat (first|apply zrA|apply zrN|apply zrD));exact HO_8.out⟩,⟨zb_⟩⟩
            ·rw [if_neg c22] at H
             exact absurd H (by simp)
           ·rw [if_neg c21] at H
            exact absurd H (by simp)
       ·rw [if_neg c10] at H
        have c10b0:decide (x10_1 < (l1.length:Int))=false:=decide_eq_false c10
        clear c10
        simp only [Option.some.injEq,Prod.mk.injEq] at H
        obtain ⟨rfl,rfl⟩:=H
        go_wp2
        go_ret2
        exact ⟨_,ze_,by (with_reducible repeat (first|apply zrA|apply zrN|apply zrD));exact HO_8.out,zb_⟩
    ·rw [if_neg c7] at H
     exact absurd H (by simp)
   ·rw [if_neg c6] at H
    exact absurd H (by simp)
  ·rw [if_neg c5] at H
   have c5b0:((l1.length:Int) == (l0.length:Int))=false:=beq_eq_false_iff_ne.mpr c5
   have c5b1:((l1.length:Int) != (l0.length:Int))=true:=bne_iff_ne.mpr c5
   have c5b2:(l1.length == l0.length)=false:=by first|simpa using c5|(simp at c5 ⊢;omega)
   simp only [Option.some.injEq,Prod.mk.injEq] at H
   obtain ⟨rfl,rfl⟩:=H
   go_enter Try.func35,Try.ntmps35
   go_wp2_with (first|((with_reducible refine gate_callee (f:=51) rfl ?_);refine goesL_ (some 14) rfl rfl Try.func51 (by kernel_rfl) rfl #[.slice A0 l0.length c0] rfl (by (try simp only [List.map_toArray,List.map_cons,List.map_nil]);first|done|rfl|(simp only [List.length_drop,List.length_take];rfl)) ?_;(with_reducible refine (slipwayref01_Width.calls k _ _ l0 t249 t250 _ ?side1 ?side2 A3.out).mono ?_);(case side1=>repeat (first|exact HR0.out|(with_reducible refine Kd.C_alloc ?_ _)|(with_reducible refine Kd.C_drewN ?_ _)|(with_reducible refine Kd.C_drew ?_)));(case side2=>exact HC0.out);rintro e w' ⟨rfl,⟨nd,rfl⟩⟩;refine ⟨_,rfl,?_⟩))
   go_ret2
   exact ⟨_,ze_,zr_,zb_⟩
 ·rw [if_neg c4] at H
  have c4b0:(t250 == 0)=false:=beq_eq_false_iff_ne.mpr c4
  have c4b1:(t250 != 0)=true:=bne_iff_ne.mpr c4
  simp only [Option.some.injEq,Prod.mk.injEq] at H
  obtain ⟨rfl,rfl⟩:=H
  go_enter Try.func35,Try.ntmps35
  go_wp2_with (first|((with_reducible refine gate_callee (f:=51) rfl ?_);refine goesL_ (some 14) rfl rfl Try.func51 (by kernel_rfl) rfl #[.slice A0 l0.length c0] rfl (by (try simp only [List.map_toArray,List.map_cons,List.map_nil]);first|done|rfl|(simp only [List.length_drop,List.length_take];rfl)) ?_;(with_reducible refine (slipwayref01_Width.calls k _ _ l0 t249 t250 _ ?side1 ?side2 A3.out).mono ?_);(case side1=>repeat (first|exact HR0.out|(with_reducible refine Kd.C_alloc ?_ _)|(with_reducible refine Kd.C_drewN ?_ _)|(with_reducible refine Kd.C_drew ?_)));(case side2=>exact HC0.out);rintro e w' ⟨rfl,⟨nd,rfl⟩⟩;refine ⟨_,rfl,?_⟩))
  go_ret2
  exact ⟨_,ze_,zr_,zb_⟩
end Go.Proofs.Ytjoojmodghpimaa.Print
end
section
namespace Go.Proofs.Ytjoojmodghpimaa.Print
open Go.RowKit Go.Proofs.YtjoojmodghpimaaW.PrintWords Go.Proofs.YtjoojmodghpimaaW.PrintLast Go.Proofs.YtjoojmodghpimaaW.PrintMore
attribute [local go_sem] max2_int min2_int max_two min_two max_three min_three max_four min_four   -- for this text's walks alone
attribute [local go_sem ↓] Go.Proofs.Ytjoojmodghpimaa.Sem.isSome_setCell
attribute [local go_sem] Go.Instr.field Go.asAgg
set_option linter.unusedVariables false
set_option linter.unusedSimpArgs false
def slipwayref14_headWidths.f :Option (List Int):=some (([8,8,8,8,32,64,32,32]:List Int))
set_option maxHeartbeats 8000000 in
set_option maxRecDepth 100000 in
theorem slipwayref14_headWidths.calls  (r:List Int) (w:World) (h:slipwayref14_headWidths.f =some r) :
  Calls Try.prog 36 #[] w fun e w'=>∃ v0_:Value,e=.returned (v0_)∧Kd.R (Kd.int .i64) 3 w' w.heap.size (fun _=>True) v0_ r∧Below w.heap.size w w':=by
 have HB:=zm (Below.refl w.heap.size w)
 have H:(some (([8,8,8,8,32,64,32,32]:List Int)))=some r:=h
 clear h
 obtain ⟨y261,hy261⟩:∃ y_:List Int,y_=(([8,8,8,8,32,64,32,32]:List Int)):=⟨_,rfl⟩
 replace H:(some y261)=some r:=by first|(rw [hy261];with_reducible exact H)|(have H2_:=(Option.bind_some _ _).symm.trans H;rw [hy261];with_reducible exact H2_)|(have H2_:=(Option.bind_some _ _).symm.trans H;with_reducible exact H2_)|with_reducible exact H|(rw [hy261];exact H)|exact H
 have Ny261:=zm hy261
 clear hy261
 obtain rfl:=Option.some.inj H
 go_enter Try.func36,Try.ntmps36
 go_wp2_with (first|((with_reducible refine gate_dst (N:=1) rfl ?_);refine Kd.R_lit (Kd.int .i64) _ 3 ?hg (N:=1) ?hd (xs:=([8,8,8,8,32,64,32,32]:List Int)) (inner:=[.int .i64 8,.int .i64 8,.int .i64 8,.int .i64 8,.int .i64 32,.int .i64 64,.int .i64 32,.int .i64 32]) (ok:=fun _=>True) (okp:=fun _=>True) ?hr ?hp (fun _ hk=>hk) trivial (Below.refl _ _) (Nat.le_refl _) (by simp) ?_;(case hd=>rfl);(case hg=>rfl);(case hr=>first|(go_simp;done)|(go_simp;rfl));(case hp=>exact (Reps.one (show Kd.M (Kd.int .i64) _ _ _ 8 [.int .i64 8] from rfl) (Reps.one (show Kd.M (Kd.int .i64) _ _ _ 8 [.int .i64 8] from rfl) (Reps.one (show Kd.M (Kd.int .i64) _ _ _ 8 [.int .i64 8] from rfl) (Reps.one (show Kd.M (Kd.int .i64) _ _ _ 8 [.int .i64 8] from rfl) (Reps.one (show Kd.M (Kd.int .i64) _ _ _ 32 [.int .i64 32] from rfl) (Reps.one (show Kd.M (Kd.int .i64) _ _ _ 64 [.int .i64 64] from rfl) (Reps.one (show Kd.M (Kd.int .i64) _ _ _ 32 [.int .i64 32] from rfl) (Reps.one (show Kd.M (Kd.int .i64) _ _ _ 32 [.int .i64 32] from rfl) (Reps.none _ _))))))))));intro v262 w1 ho2 hb hg_ hnew_;clear hg_ hnew_;(first|rw [← Ny261.out] at ho2|(simp only [Int.reduceToNat] at ho2;rw [← Ny261.out] at ho2));have n0_:=zm (Kd.R_lower ho2 (below_size (zb_)));have n1_:=zkH HB hb;clear HB;have HO263:=n0_;have HB:=n1_;clear n0_ n1_;clear hb ho2))
 go_ret
 exact ⟨_,ze_,by (with_reducible repeat (first|apply zrA|apply zrN|apply zrD));exact HO263.out,zb_⟩
def slipwayref14_rootWidths.f :Option (List Int):=some (([24,16,32]:List Int))
set_option maxHeartbeats 8000000 in
set_option maxRecDepth 100000 in
theorem slipwayref14_rootWidths.calls  (r:List Int) (w:World) (h:slipwayref14_rootWidths.f =some r) :
  Calls Try.prog 37 #[] w fun e w'=>∃ v0_:Value,e=.returned (v0_)∧Kd.R (Kd.int .i64) 3 w' w.heap.size (fun _=>True) v0_ r∧Below w.heap.size w w':=by
 have HB:=zm (Below.refl w.heap.size w)
 have H:(some (([24,16,32]:List Int)))=some r:=h
 clear h
 obtain ⟨y264,hy264⟩:∃ y_:List Int,y_=(([24,16,32]:List Int)):=⟨_,rfl⟩
 replace H:(some y264)=some r:=by first|(rw [hy264];with_reducible exact H)|(have H2_:=(Option.bind_some _ _).symm.trans H;rw [hy264];with_reducible exact H2_)|(have H2_:=(Option.bind_some _ _).symm.trans H;with_reducible exact H2_)|with_reducible exact H|(rw [hy264];exact H)|exact H
 have Ny264:=zm hy264
 clear hy264
 obtain rfl:=Option.some.inj H
 go_enter Try.func37,Try.ntmps37
 go_wp2_with (first|((with_reducible refine gate_dst (N:=1) rfl ?_);refine Kd.R_lit (Kd.int .i64) _ 3 ?hg (N:=1) ?hd (xs:=([24,16,32]:List Int)) (inner:=[.int .i64 24,.int .i64 16,.int .i64 32]) (ok:=fun _=>True) (okp:=fun _=>True) ?hr ?hp (fun _ hk=>hk) trivial (Below.refl _ _) (Nat.le_refl _) (by simp) ?_;(case hd=>rfl);(case hg=>rfl);(case hr=>first|(go_simp;done)|(go_simp;rfl));(case hp=>exact (Reps.one (show Kd.M (Kd.int .i64) _ _ _ 24 [.int .i64 24] from rfl) (Reps.one (show Kd.M (Kd.int .i64) _ _ _ 16 [.int .i64 16] from rfl) (Reps.one (show Kd.M (Kd.int .i64) _ _ _ 32 [.int .i64 32] from rfl) (Reps.none _ _)))));intro v265 w1 ho2 hb hg_ hnew_;clear hg_ hnew_;(first|rw [← Ny264.out] at ho2|(simp only [Int.reduceToNat] at ho2;rw [← Ny264.out] at ho2));have n0_:=zm (Kd.R_lower ho2 (below_size (zb_)));have n1_:=zkH HB hb;clear HB;have HO266:=n0_;have HB:=n1_;clear n0_ n1_;clear hb ho2))
 go_ret
 exact ⟨_,ze_,by (with_reducible repeat (first|apply zrA|apply zrN|apply zrD));exact HO266.out,zb_⟩
end Go.Proofs.Ytjoojmodghpimaa.Print
end
section
namespace Go.Proofs.Ytjoojmodghpimaa.Print
open Go.RowKit Go.Proofs.YtjoojmodghpimaaW.PrintWords Go.Proofs.YtjoojmodghpimaaW.PrintLast Go.Proofs.YtjoojmodghpimaaW.PrintMore
attribute [local go_sem] max2_int min2_int max_two min_two max_three min_three max_four min_four   -- for this text's walks alone
attribute [local go_sem ↓] Go.Proofs.Ytjoojmodghpimaa.Sem.isSome_setCell
attribute [local go_sem] Go.Instr.field Go.asAgg
set_option linter.unusedVariables false
set_option linter.unusedSimpArgs false
mutual
def slipwayref14_Encode.l0:Nat → List Int → Int → Int → Int → Int → Int → Int → Int → List (S51) → Option (List Int × Int)
 | 0,_,_,_,_,_,_,_,_,_=>none
 | k + 1,x5,x7,x268000,x268001,x268002,x268003,x268004,x268005,x268006=>if x7 < (x268006.length:Int) then ((slipwayref14_rootWidths.f).bind fun t279=>(if 0≤x7 then ((slipwayref01_Pack.f k t279 (([IntKind.u64.wrap ((rd_T51 x268006 x7).f0),IntKind.u64.wrap ((rd_T51 x268006 x7).f1),IntKind.u64.wrap ((rd_T51 x268006 x7).f2)]:List Int))).bind fun bt288=>(if x5.length + bt288.1.length < 140737488355328 then (slipwayref14_Encode.l0 k (x5 ++ bt288.1) (wrap64 (x7 + 1)) x268000 x268001 x268002 x268003 x268004 x268005 x268006) else (none))) else (none))) else (slipwayref14_Encode.l1 k x5)
def slipwayref14_Encode.l1:Nat → List Int → Option (List Int × Int)
 | 0,_=>none
 | k + 1,x5=>if (x5.length:Int) < 64 then (if x5.length < 140737488355328 then (slipwayref14_Encode.l1 k (x5 ++ [0])) else (none)) else (some (x5,0))
end
def slipwayref14_Encode.f (k:Nat) (a0_0:Int) (a0_1:Int) (a0_2:Int) (a0_3:Int) (a0_4:Int) (a0_5:Int) (l0_6:List (S51)):Option (List Int × Int):=(slipwayref14_Check.f k a0_0 a0_1 a0_2 a0_3 a0_4 a0_5 l0_6).bind fun t268=>(if t268=0 then ((slipwayref14_headWidths.f).bind fun t269=>((slipwayref01_Pack.f k t269 (([IntKind.u64.wrap (a0_0),IntKind.u64.wrap (a0_5),IntKind.u64.wrap ((l0_6.length:Int)),0,IntKind.u64.wrap (a0_1),IntKind.u64.wrap (a0_2),IntKind.u64.wrap (a0_3),IntKind.u64.wrap (a0_4)]:List Int))).bind fun bt275=>(slipwayref14_Encode.l0 k bt275.1 0 a0_0 a0_1 a0_2 a0_3 a0_4 a0_5 l0_6))) else (some (([]:List Int),t268)))
def slipwayref14_Encode.T4:Bool × List (List Nat × List Nat):=(true,[([],[]),([],[]),([1],[1]),([2],[2]),([],[]),([4],[4]),([5],[5]),([],[]),([7],[7]),([8],[8]),([9],[9]),([],[]),([11],[11]),([12],[12]),([],[]),([14],[14]),([15],[15]),([],[]),([17],[17]),([18],[18]),([],[]),([20],[20]),([21],[21]),([3,6,10,13,16,19,22],[3,6,10,13,16,19,22]),([0,23,0],[0,23]),([24],[24]),([25],[25]),([25],[25]),([26,24,0,1,2,3,4,5,6,7,8,9,10,11,12,13,14,15,16,17,18,19,20,21,22,23,24,25,26],[26]),([27,28,0,1,2,3,4,5,6,7,8,9,10,11,12,13,14,15,16,17,18,19,20,21,22,23,24,25,26,27,28],[27])])
def slipwayref14_Encode.B4:List Nat:=[0,0,2,6,0,16,48,0,128,384,896,0,2048,6144,0,16384,49152,0,131072,393216,0,1048576,3145728,8388606,16777215,33554431,67108863,67108863,134217727,536870911]
theorem slipwayref14_Encode.tab4:rtab .any (opsOf Try.f12 4)=slipwayref14_Encode.T4:=by kernel_rfl
theorem slipwayref14_Encode.bits4:waitsOk slipwayref14_Encode.T4.2 slipwayref14_Encode.B4=true:=by kernel_rfl
def slipwayref14_Encode.T8:Bool × List (List Nat × List Nat):=(true,[([],[]),([],[]),([1],[1]),([],[]),([2,3],[2,3]),([4],[4]),([5],[5]),([6],[6]),([],[]),([8],[8]),([],[]),([9,10],[9,10]),([11],[11]),([12],[12]),([13],[13]),([],[]),([15],[15]),([],[]),([16,17],[16,17]),([18],[18]),([19],[19]),([20],[20]),([7,14,21],[7,14,21]),([0,22,0],[0,22]),([23],[23]),([24],[24]),([24],[24]),([25,23,0,1,2,3,4,5,6,7,8,9,10,11,12,13,14,15,16,17,18,19,20,21,22,23,24,25],[25]),([26,27,0,1,2,3,4,5,6,7,8,9,10,11,12,13,14,15,16,17,18,19,20,21,22,23,24,25,26,27],[26])])
def slipwayref14_Encode.B8:List Nat:=[0,0,2,0,14,30,62,126,0,256,0,1792,3840,7936,16128,0,32768,0,229376,491520,1015808,2064384,4194302,8388607,16777215,33554431,33554431,67108863,268435455]
theorem slipwayref14_Encode.tab8:rtab .any (opsOf Try.f12 8)=slipwayref14_Encode.T8:=by kernel_rfl
theorem slipwayref14_Encode.bits8:waitsOk slipwayref14_Encode.T8.2 slipwayref14_Encode.B8=true:=by kernel_rfl
set_option maxHeartbeats 8000000 in
set_option maxRecDepth 100000 in
theorem slipwayref14_Encode.calls (k:Nat) (a0_0:Int) (a0_1:Int) (a0_2:Int) (a0_3:Int) (a0_4:Int) (a0_5:Int) (A0_6:Option Addr) (c0_6:Nat) (l0_6:List (S51)) (r1:List Int) (r2:Int) (w:World) (hr0_6:Kd.C k51 w A0_6 l0_6.length l0_6) (hc0_6:l0_6.length≤c0_6) (h:slipwayref14_Encode.f k a0_0 a0_1 a0_2 a0_3 a0_4 a0_5 l0_6=some (r1,r2)) :
  Calls Try.prog 12 #[.agg #[.int .i64 a0_0,.int .i64 a0_1,.int .i64 a0_2,.int .i64 a0_3,.int .i64 a0_4,.int .i64 a0_5,.slice A0_6 l0_6.length c0_6]] w fun e w'=>∃ v0_:Value,e=.returned (.tuple #[v0_,.int .i64 r2])∧Kd.R (Kd.int .u8) 5 w' w.heap.size (fun _=>True) v0_ r1∧Below w.heap.size w w':=by
 have hu24:=Try.underlying24
 have HR0_6:=zm hr0_6
 have HC0_6:=zm hc0_6
 clear hr0_6 hc0_6
 have HB:=zm (Below.refl w.heap.size w)
 have H:((slipwayref14_Check.f k a0_0 a0_1 a0_2 a0_3 a0_4 a0_5 l0_6).bind fun t268=>(if t268=0 then ((slipwayref14_headWidths.f).bind fun t269=>((slipwayref01_Pack.f k t269 (([IntKind.u64.wrap (a0_0),IntKind.u64.wrap (a0_5),IntKind.u64.wrap ((l0_6.length:Int)),0,IntKind.u64.wrap (a0_1),IntKind.u64.wrap (a0_2),IntKind.u64.wrap (a0_3),IntKind.u64.wrap (a0_4)]:List Int))).bind fun bt275=>(slipwayref14_Encode.l0 k bt275.1 0 a0_0 a0_1 a0_2 a0_3 a0_4 a0_5 l0_6))) else (some (([]:List Int),t268))))=some (r1,r2):=h
 clear h
 replace H:=Option.bind_eq_some_iff.mp H
 obtain ⟨t268,A20,H⟩:=H
 replace H:(if t268=0 then ((slipwayref14_headWidths.f).bind fun t269=>((slipwayref01_Pack.f k t269 (([IntKind.u64.wrap (a0_0),IntKind.u64.wrap (a0_5),IntKind.u64.wrap ((l0_6.length:Int)),0,IntKind.u64.wrap (a0_1),IntKind.u64.wrap (a0_2),IntKind.u64.wrap (a0_3),IntKind.u64.wrap (a0_4)]:List Int))).bind fun bt275=>(slipwayref14_Encode.l0 k bt275.1 0 a0_0 a0_1 a0_2 a0_3 a0_4 a0_5 l0_6))) else (some (([]:List Int),t268)))=some (r1,r2):=H
 have A2:=zm A20
 clear A20
 by_cases c3:t268=0
 ·rw [if_pos c3] at H
  have c3b0:(t268 == 0)=true:=beq_iff_eq.mpr c3
  have c3b1:(t268 != 0)=false:=bne_eq_false_iff_eq.mpr c3
  clear c3
  replace H:=Option.bind_eq_some_iff.mp H
  obtain ⟨t269,A40,H⟩:=H
  replace H:((slipwayref01_Pack.f k t269 (([IntKind.u64.wrap (a0_0),IntKind.u64.wrap (a0_5),IntKind.u64.wrap ((l0_6.length:Int)),0,IntKind.u64.wrap (a0_1),IntKind.u64.wrap (a0_2),IntKind.u64.wrap (a0_3),IntKind.u64.wrap (a0_4)]:List Int))).bind fun bt275=>(slipwayref14_Encode.l0 k bt275.1 0 a0_0 a0_1 a0_2 a0_3 a0_4 a0_5 l0_6))=some (r1,r2):=H
  have A4:=zm A40
  clear A40
  obtain ⟨y272,hy272⟩:∃ y_:List Int,y_=(([IntKind.u64.wrap (a0_0),IntKind.u64.wrap (a0_5),IntKind.u64.wrap ((l0_6.length:Int)),0,IntKind.u64.wrap (a0_1),IntKind.u64.wrap (a0_2),IntKind.u64.wrap (a0_3),IntKind.u64.wrap (a0_4)]:List Int)):=⟨_,rfl⟩
  replace H:((slipwayref01_Pack.f k t269 y272).bind fun bt275=>(slipwayref14_Encode.l0 k bt275.1 0 a0_0 a0_1 a0_2 a0_3 a0_4 a0_5 l0_6))=some (r1,r2):=by first|(rw [hy272];with_reducible exact H)|(have H2_:=(Option.bind_some _ _).symm.trans H;rw [hy272];with_reducible exact H2_)|(have H2_:=(Option.bind_some _ _).symm.trans H;with_reducible exact H2_)|with_reducible exact H|(rw [hy272];exact H)|exact H
  have Ny272:=zm hy272
  clear hy272
  replace H:=Option.bind_eq_some_iff.mp H
  obtain ⟨⟨t275,t276⟩,A50,H⟩:=H
  replace H:(slipwayref14_Encode.l0 k t275 0 a0_0 a0_1 a0_2 a0_3 a0_4 a0_5 l0_6)=some (r1,r2):=H
  have A5:=zm A50
  clear A50
  have H':=zm H
  clear H
  go_enter Try.func12,Try.ntmps12
  try go_wp2_with (first|((with_reducible refine gate_dst (N:=1) rfl ?_);refine zbx 1 #[.int .i64 a0_0,.int .i64 a0_1,.int .i64 a0_2,.int .i64 a0_3,.int .i64 a0_4,.int .i64 a0_5,.slice A0_6 l0_6.length c0_6] 24 ?_;intro gb267 hg w6 hbox hb;have n0_:=zkH HB hb;have n1_:=zm (hbox);have n2_:=zkG HB hg;have n3_:=zkG HB hg;clear HB;have HB:=n0_;have BK267:=n1_;have GW267:=n2_;have GE267:=n3_;clear n0_ n1_ n2_ n3_;clear hb hbox hg;obtain ⟨hcz7_0,hcz7_1,hcz7_2,hcz7_3,hcz7_4,hcz7_5,hcz7_6,hfz7_0,hfz7_1,hfz7_2,hfz7_3,hfz7_4,hfz7_5,hfz7_6⟩:=zc7 BK267.out)|((with_reducible refine gate_callee (f:=15) rfl ?_);refine goesL_ (some 11) rfl rfl Try.func15 (by kernel_rfl) rfl #[.agg #[.int .i64 a0_0,.int .i64 a0_1,.int .i64 a0_2,.int .i64 a0_3,.int .i64 a0_4,.int .i64 a0_5,.slice A0_6 l0_6.length c0_6]] rfl (by (try simp only [List.map_toArray,List.map_cons,List.map_nil]);first|done|rfl|(simp only [List.length_drop,List.length_take];rfl)) ?_;(with_reducible refine (slipwayref14_Check.calls k a0_0 a0_1 a0_2 a0_3 a0_4 a0_5 _ _ l0_6 t268 _ ?side1 ?side2 A2.out).mono ?_);(case side1=>exact zC HR0_6);(case side2=>exact HC0_6.out);rintro e w8 ⟨rfl,hb⟩;refine ⟨_,rfl,?_⟩;have n0_:=zkB BK267 hb;have n1_:=zkH HB hb;clear BK267 HB;have BK267:=n0_;have HB:=n1_;clear n0_ n1_;(try clear hb);(try clear hb2);(try clear hk);(try clear hi)))
  have n0_:=zm (zbD BK267.out)
  have n1_:=zm (zlD HB.out)
  clear BK267 HB
  have BK267:=n0_
  have HB:=n1_
  clear n0_ n1_
  refine start_ (n:=30) (S:=fun w'=>True) (ds:=[]) (Array.replicate 30 false) (by kernel_rfl) rfl rfl trivial (fun hHeld=>?_);refine with_tabW slipwayref14_Encode.tab4 slipwayref14_Encode.bits4 (fun HT_ HW_=>?_)
  generalize w8.drew=w9 at BK267 HB hHeld ⊢
  refine zpu 1 ?_
  refine zpu 4 ?_
  refine zpu 7 ?_
  refine zpu 11 ?_
  refine zpu 14 ?_
  refine zpu 17 ?_
  refine zpu 20 ?_
  refine inv_at [0,2,3,5,6,8,9,10,12,13,15,16,18,19,21,22,23,24,25,26,27,28,29] (fun a0_ b a w'=>∃ (v270:Value) (v273:Value) (v277:Value) (m24_:Value) (m25_:Value) (m26_:Value) (m28_:Value),a=putSel a0_ b [(0,16,v270),(2,18,.int .i64 a0_0),(3,19,.int .u64 (IntKind.u64.wrap (a0_0))),(5,21,.int .i64 a0_5),(6,22,.int .u64 (IntKind.u64.wrap (a0_5))),(8,24,.slice A0_6 l0_6.length c0_6),(9,25,.int .i64 (l0_6.length:Int)),(10,26,.int .u64 (IntKind.u64.wrap ((l0_6.length:Int)))),(12,28,.int .i64 a0_1),(13,29,.int .u64 (IntKind.u64.wrap (a0_1))),(15,31,.int .i64 a0_2),(16,32,.int .u64 (IntKind.u64.wrap (a0_2))),(18,34,.int .i64 a0_3),(19,35,.int .u64 (IntKind.u64.wrap (a0_3))),(21,37,.int .i64 a0_4),(22,38,.int .u64 (IntKind.u64.wrap (a0_4))),(23,39,v273),(24,40,m24_),(25,15,m25_),(26,41,m26_),(27,42,.int .i64 t276),(28,5,m28_),(29,6,.int .i64 t276)]∧(w'.heap[gb267]?=some (.cells #[.int .i64 a0_0,.int .i64 a0_1,.int .i64 a0_2,.int .i64 a0_3,.int .i64 a0_4,.int .i64 a0_5,.slice A0_6 l0_6.length c0_6] 24 (0,0)))∧(Below w.heap.size w w')∧(b 0=true → Kd.R (Kd.int .i64) 3 w' w.heap.size (fun _=>True) v270 t269)∧(b 23=true → Kd.R (Kd.int .u64) 58 w' w.heap.size (fun _=>True) v273 y272)∧(b 24=true → Kd.R (Kd.int .u8) 5 w' w.heap.size (fun _=>True) v277 t275)∧(b 24=true → (m24_:Value)=.tuple #[v277,.int .i64 t276])∧(b 25=true → (m25_:Value)=.tuple #[v277,.int .i64 t276])∧(b 26=true → (m26_:Value)=v277)∧(b 28=true → (m28_:Value)=v277)) HT_.out HW_.out (by kernel_rfl) (by kernel_rfl) ?_ ?_ ?_
  ·exact ⟨.bool false,.bool false,.bool false,.bool false,.bool false,.bool false,.bool false,by simp only [putSel,Bool.false_eq_true,if_false],BK267.out,HB.out,fun h_=>absurd h_ (by decide),fun h_=>absurd h_ (by decide),fun h_=>absurd h_ (by decide),fun h_=>absurd h_ (by decide),fun h_=>absurd h_ (by decide),fun h_=>absurd h_ (by decide),fun h_=>absurd h_ (by decide)⟩
  ·skip
   clear BK267 HB
   refine steps_cons ?_ ?_
   ·rintro b a w' ⟨v270,v273,v277,m24_,m25_,m26_,m28_,ha,Q_BK267,Q_HB,Q_HO271,Q_HO274,Q_HO278,Q_X24_,Q_X25_,Q_X26_,Q_X28_⟩ hb_ hon hoff
    refine ⟨_,rfl,fun K hK=>?_⟩
    replace ha:=zm ha
    have BK267:=zm Q_BK267
    have HB:=zm Q_HB
    refine goes_ Try.func36 (by kernel_rfl) rfl #[] (by rfl) rfl rfl (by first|(simp only [List.map_toArray,List.map_cons,List.map_nil,Act.eval,Array.getD_eq_getD_getElem?,Option.getD_some];done)|(simp only [List.map_toArray,List.map_cons,List.map_nil,Act.eval,Array.getD_eq_getD_getElem?,Option.getD_some];rfl)) ?_
    with_reducible refine (slipwayref14_headWidths.calls  t269 _ A4.out).mono ?_
    rintro e w10 ⟨v270,rfl,ho0,hb⟩
    refine ⟨_,rfl,?_⟩
    have n0_:=zm (Kd.R_lower ho0 (below_size (zb_)))
    have n1_:=zkB BK267 hb
    have n2_:=zkH HB hb
    have z_HO274:=fun (h0_:b 23=true)=>(show Kd.R (Kd.int .u64) 58 w10 w.heap.size (fun _=>True) v273 y272 from by first|exact (Kd.R_below (by (with_reducible repeat (first|apply zrA|apply zrN|apply zrD));exact (Q_HO274 h0_)) hb)|exact Kd.R_mono (Kd.R_below (by (with_reducible repeat (first|apply zrA|apply zrN|apply zrD));exact (Q_HO274 h0_)) hb) (fun _ h_=>by first|trivial|exact h_|exact h_.1))
    clear BK267 HB
    have HO271:=n0_
    have BK267:=n1_
    have HB:=n2_
    clear n0_ n1_ n2_
    (try clear hb)
    (try clear hb2)
    (try clear hk)
    (try clear hi)
    (try clear ho0)
    refine hK.out _ _ ⟨v270,v273,v277,m24_,m25_,m26_,m28_,(by rw [ha.out];exact putSel_upk 0 hb_ rfl rfl rfl),zx_,(zb_),fun _=>(by (with_reducible repeat (first|apply zrA|apply zrN|apply zrD));exact HO271.out),z_HO274,fun h0_=>absurd ((hoff 24 (by kernel_rfl)).symm.trans h0_) (by decide),fun h0_=>absurd ((hoff 24 (by kernel_rfl)).symm.trans h0_) (by decide),fun h0_=>absurd ((hoff 25 (by kernel_rfl)).symm.trans h0_) (by decide),fun h0_=>absurd ((hoff 26 (by kernel_rfl)).symm.trans h0_) (by decide),fun h0_=>absurd ((hoff 28 (by kernel_rfl)).symm.trans h0_) (by decide)⟩
   refine steps_cons ?_ ?_
   ·rintro b a w' ⟨v270,v273,v277,m24_,m25_,m26_,m28_,ha,Q_BK267,Q_HB,Q_HO271,Q_HO274,Q_HO278,Q_X24_,Q_X25_,Q_X26_,Q_X28_⟩ hb_ hon hoff
    refine ⟨_,rfl,fun K hK=>?_⟩
    have e17:a.tmps[17]?=some (.pointer (some ⟨gb267,0,none⟩)):=by rw [ha];exact (putSel_off rfl).trans rfl
    replace ha:=zm ha
    have BK267:=zm Q_BK267
    have HB:=zm Q_HB
    have hc0_:w'.cell? ⟨gb267,0,none⟩=some (.int .i64 a0_0):=(blk_cell BK267.out 0).trans rfl
    have hc1_:w'.cell? ⟨gb267,1,none⟩=some (.int .i64 a0_1):=(blk_cell BK267.out 1).trans rfl
    have hc2_:w'.cell? ⟨gb267,2,none⟩=some (.int .i64 a0_2):=(blk_cell BK267.out 2).trans rfl
    have hc3_:w'.cell? ⟨gb267,3,none⟩=some (.int .i64 a0_3):=(blk_cell BK267.out 3).trans rfl
    have hc4_:w'.cell? ⟨gb267,4,none⟩=some (.int .i64 a0_4):=(blk_cell BK267.out 4).trans rfl
    have hc5_:w'.cell? ⟨gb267,5,none⟩=some (.int .i64 a0_5):=(blk_cell BK267.out 5).trans rfl
    have hc6_:w'.cell? ⟨gb267,6,none⟩=some (.slice A0_6 l0_6.length c0_6):=(blk_cell BK267.out 6).trans rfl
    refine value_ (w1:=w') (v:=.int .i64 a0_0) (by rfl) rfl ?_ ?_
    ·go_simp
     (try simp only [i64_w])
     try rfl
    refine hK.out _ _ ⟨v270,v273,v277,m24_,m25_,m26_,m28_,(by rw [ha.out];exact putSel_upk 1 hb_ rfl rfl rfl),Q_BK267,Q_HB,Q_HO271,fun h0_=>absurd ((hoff 23 (by kernel_rfl)).symm.trans h0_) (by decide),fun h0_=>absurd ((hoff 24 (by kernel_rfl)).symm.trans h0_) (by decide),fun h0_=>absurd ((hoff 24 (by kernel_rfl)).symm.trans h0_) (by decide),fun h0_=>absurd ((hoff 25 (by kernel_rfl)).symm.trans h0_) (by decide),fun h0_=>absurd ((hoff 26 (by kernel_rfl)).symm.trans h0_) (by decide),fun h0_=>absurd ((hoff 28 (by kernel_rfl)).symm.trans h0_) (by decide)⟩
   refine steps_cons ?_ ?_
   ·rintro b a w' ⟨v270,v273,v277,m24_,m25_,m26_,m28_,ha,Q_BK267,Q_HB,Q_HO271,Q_HO274,Q_HO278,Q_X24_,Q_X25_,Q_X26_,Q_X28_⟩ hb_ hon hoff
    refine ⟨_,rfl,fun K hK=>?_⟩
    have e18:a.tmps[18]?=some (.int .i64 a0_0):=by rw [ha];exact putSel_on (e:=(2,18,.int .i64 a0_0)) 1 rfl rfl (hon 2 (by kernel_rfl)) rfl
    replace ha:=zm ha
    have BK267:=zm Q_BK267
    have HB:=zm Q_HB
    refine value_ (w1:=w') (v:=.int .u64 (IntKind.u64.wrap (a0_0))) (by rfl) rfl ?_ ?_
    ·go_simp
     (try simp only [i64_w])
     try rfl
    refine hK.out _ _ ⟨v270,v273,v277,m24_,m25_,m26_,m28_,(by rw [ha.out];exact putSel_upk 2 hb_ rfl rfl rfl),Q_BK267,Q_HB,Q_HO271,fun h0_=>absurd ((hoff 23 (by kernel_rfl)).symm.trans h0_) (by decide),fun h0_=>absurd ((hoff 24 (by kernel_rfl)).symm.trans h0_) (by decide),fun h0_=>absurd ((hoff 24 (by kernel_rfl)).symm.trans h0_) (by decide),fun h0_=>absurd ((hoff 25 (by kernel_rfl)).symm.trans h0_) (by decide),fun h0_=>absurd ((hoff 26 (by kernel_rfl)).symm.trans h0_) (by decide),fun h0_=>absurd ((hoff 28 (by kernel_rfl)).symm.trans h0_) (by decide)⟩
   refine steps_cons ?_ ?_
   ·rintro b a w' ⟨v270,v273,v277,m24_,m25_,m26_,m28_,ha,Q_BK267,Q_HB,Q_HO271,Q_HO274,Q_HO278,Q_X24_,Q_X25_,Q_X26_,Q_X28_⟩ hb_ hon hoff
    refine ⟨_,rfl,fun K hK=>?_⟩
    have e20:a.tmps[20]?=some (.pointer (some ⟨gb267,5,none⟩)):=by rw [ha];exact (putSel_off rfl).trans rfl
    replace ha:=zm ha
    have BK267:=zm Q_BK267
    have HB:=zm Q_HB
    have hc0_:w'.cell? ⟨gb267,0,none⟩=some (.int .i64 a0_0):=(blk_cell BK267.out 0).trans rfl
    have hc1_:w'.cell? ⟨gb267,1,none⟩=some (.int .i64 a0_1):=(blk_cell BK267.out 1).trans rfl
    have hc2_:w'.cell? ⟨gb267,2,none⟩=some (.int .i64 a0_2):=(blk_cell BK267.out 2).trans rfl
    have hc3_:w'.cell? ⟨gb267,3,none⟩=some (.int .i64 a0_3):=(blk_cell BK267.out 3).trans rfl
    have hc4_:w'.cell? ⟨gb267,4,none⟩=some (.int .i64 a0_4):=(blk_cell BK267.out 4).trans rfl
    have hc5_:w'.cell? ⟨gb267,5,none⟩=some (.int .i64 a0_5):=(blk_cell BK267.out 5).trans rfl
    have hc6_:w'.cell? ⟨gb267,6,none⟩=some (.slice A0_6 l0_6.length c0_6):=(blk_cell BK267.out 6).trans rfl
    refine value_ (w1:=w') (v:=.int .i64 a0_5) (by rfl) rfl ?_ ?_
    ·go_simp
     (try simp only [i64_w])
     try rfl
    refine hK.out _ _ ⟨v270,v273,v277,m24_,m25_,m26_,m28_,(by rw [ha.out];exact putSel_upk 3 hb_ rfl rfl rfl),Q_BK267,Q_HB,Q_HO271,fun h0_=>absurd ((hoff 23 (by kernel_rfl)).symm.trans h0_) (by decide),fun h0_=>absurd ((hoff 24 (by kernel_rfl)).symm.trans h0_) (by decide),fun h0_=>absurd ((hoff 24 (by kernel_rfl)).symm.trans h0_) (by decide),fun h0_=>absurd ((hoff 25 (by kernel_rfl)).symm.trans h0_) (by decide),fun h0_=>absurd ((hoff 26 (by kernel_rfl)).symm.trans h0_) (by decide),fun h0_=>absurd ((hoff 28 (by kernel_rfl)).symm.trans h0_) (by decide)⟩
   refine steps_cons ?_ ?_
   ·rintro b a w' ⟨v270,v273,v277,m24_,m25_,m26_,m28_,ha,Q_BK267,Q_HB,Q_HO271,Q_HO274,Q_HO278,Q_X24_,Q_X25_,Q_X26_,Q_X28_⟩ hb_ hon hoff
    refine ⟨_,rfl,fun K hK=>?_⟩
    have e21:a.tmps[21]?=some (.int .i64 a0_5):=by rw [ha];exact putSel_on (e:=(5,21,.int .i64 a0_5)) 3 rfl rfl (hon 5 (by kernel_rfl)) rfl
    replace ha:=zm ha
    have BK267:=zm Q_BK267
    have HB:=zm Q_HB
    refine value_ (w1:=w') (v:=.int .u64 (IntKind.u64.wrap (a0_5))) (by rfl) rfl ?_ ?_
    ·go_simp
     (try simp only [i64_w])
     try rfl
    refine hK.out _ _ ⟨v270,v273,v277,m24_,m25_,m26_,m28_,(by rw [ha.out];exact putSel_upk 4 hb_ rfl rfl rfl),Q_BK267,Q_HB,Q_HO271,fun h0_=>absurd ((hoff 23 (by kernel_rfl)).symm.trans h0_) (by decide),fun h0_=>absurd ((hoff 24 (by kernel_rfl)).symm.trans h0_) (by decide),fun h0_=>absurd ((hoff 24 (by kernel_rfl)).symm.trans h0_) (by decide),fun h0_=>absurd ((hoff 25 (by kernel_rfl)).symm.trans h0_) (by decide),fun h0_=>absurd ((hoff 26 (by kernel_rfl)).symm.trans h0_) (by decide),fun h0_=>absurd ((hoff 28 (by kernel_rfl)).symm.trans h0_) (by decide)⟩
   refine steps_cons ?_ ?_
   ·rintro b a w' ⟨v270,v273,v277,m24_,m25_,m26_,m28_,ha,Q_BK267,Q_HB,Q_HO271,Q_HO274,Q_HO278,Q_X24_,Q_X25_,Q_X26_,Q_X28_⟩ hb_ hon hoff
    refine ⟨_,rfl,fun K hK=>?_⟩
    have e23:a.tmps[23]?=some (.pointer (some ⟨gb267,6,none⟩)):=by rw [ha];exact (putSel_off rfl).trans rfl
    replace ha:=zm ha
    have BK267:=zm Q_BK267
    have HB:=zm Q_HB
    have hc0_:w'.cell? ⟨gb267,0,none⟩=some (.int .i64 a0_0):=(blk_cell BK267.out 0).trans rfl
    have hc1_:w'.cell? ⟨gb267,1,none⟩=some (.int .i64 a0_1):=(blk_cell BK267.out 1).trans rfl
    have hc2_:w'.cell? ⟨gb267,2,none⟩=some (.int .i64 a0_2):=(blk_cell BK267.out 2).trans rfl
    have hc3_:w'.cell? ⟨gb267,3,none⟩=some (.int .i64 a0_3):=(blk_cell BK267.out 3).trans rfl
    have hc4_:w'.cell? ⟨gb267,4,none⟩=some (.int .i64 a0_4):=(blk_cell BK267.out 4).trans rfl
    have hc5_:w'.cell? ⟨gb267,5,none⟩=some (.int .i64 a0_5):=(blk_cell BK267.out 5).trans rfl
    have hc6_:w'.cell? ⟨gb267,6,none⟩=some (.slice A0_6 l0_6.length c0_6):=(blk_cell BK267.out 6).trans rfl
    refine value_ (w1:=w') (v:=.slice A0_6 l0_6.length c0_6) (by rfl) rfl ?_ ?_
    ·go_simp
     (try simp only [i64_w])
     try rfl
    refine hK.out _ _ ⟨v270,v273,v277,m24_,m25_,m26_,m28_,(by rw [ha.out];exact putSel_upk 5 hb_ rfl rfl rfl),Q_BK267,Q_HB,Q_HO271,fun h0_=>absurd ((hoff 23 (by kernel_rfl)).symm.trans h0_) (by decide),fun h0_=>absurd ((hoff 24 (by kernel_rfl)).symm.trans h0_) (by decide),fun h0_=>absurd ((hoff 24 (by kernel_rfl)).symm.trans h0_) (by decide),fun h0_=>absurd ((hoff 25 (by kernel_rfl)).symm.trans h0_) (by decide),fun h0_=>absurd ((hoff 26 (by kernel_rfl)).symm.trans h0_) (by decide),fun h0_=>absurd ((hoff 28 (by kernel_rfl)).symm.trans h0_) (by decide)⟩
   refine steps_cons ?_ ?_
   ·rintro b a w' ⟨v270,v273,v277,m24_,m25_,m26_,m28_,ha,Q_BK267,Q_HB,Q_HO271,Q_HO274,Q_HO278,Q_X24_,Q_X25_,Q_X26_,Q_X28_⟩ hb_ hon hoff
    refine ⟨_,rfl,fun K hK=>?_⟩
    have e24:a.tmps[24]?=some (.slice A0_6 l0_6.length c0_6):=by rw [ha];exact putSel_on (e:=(8,24,.slice A0_6 l0_6.length c0_6)) 5 rfl rfl (hon 8 (by kernel_rfl)) rfl
    replace ha:=zm ha
    have BK267:=zm Q_BK267
    have HB:=zm Q_HB
    refine value_ (w1:=w') (v:=.int .i64 (l0_6.length:Int)) (by rfl) rfl ?_ ?_
    ·go_simp
     (try simp only [i64_w])
     try rfl
    refine hK.out _ _ ⟨v270,v273,v277,m24_,m25_,m26_,m28_,(by rw [ha.out];exact putSel_upk 6 hb_ rfl rfl rfl),Q_BK267,Q_HB,Q_HO271,fun h0_=>absurd ((hoff 23 (by kernel_rfl)).symm.trans h0_) (by decide),fun h0_=>absurd ((hoff 24 (by kernel_rfl)).symm.trans h0_) (by decide),fun h0_=>absurd ((hoff 24 (by kernel_rfl)).symm.trans h0_) (by decide),fun h0_=>absurd ((hoff 25 (by kernel_rfl)).symm.trans h0_) (by decide),fun h0_=>absurd ((hoff 26 (by kernel_rfl)).symm.trans h0_) (by decide),fun h0_=>absurd ((hoff 28 (by kernel_rfl)).symm.trans h0_) (by decide)⟩
   refine steps_cons ?_ ?_
   ·rintro b a w' ⟨v270,v273,v277,m24_,m25_,m26_,m28_,ha,Q_BK267,Q_HB,Q_HO271,Q_HO274,Q_HO278,Q_X24_,Q_X25_,Q_X26_,Q_X28_⟩ hb_ hon hoff
    refine ⟨_,rfl,fun K hK=>?_⟩
    have e25:a.tmps[25]?=some (.int .i64 (l0_6.length:Int)):=by rw [ha];exact putSel_on (e:=(9,25,.int .i64 (l0_6.length:Int))) 6 rfl rfl (hon 9 (by kernel_rfl)) rfl
    replace ha:=zm ha
    have BK267:=zm Q_BK267
    have HB:=zm Q_HB
    refine value_ (w1:=w') (v:=.int .u64 (IntKind.u64.wrap ((l0_6.length:Int)))) (by rfl) rfl ?_ ?_
    ·go_simp
     (try simp only [i64_w])
     try rfl
    refine hK.out _ _ ⟨v270,v273,v277,m24_,m25_,m26_,m28_,(by rw [ha.out];exact putSel_upk 7 hb_ rfl rfl rfl),Q_BK267,Q_HB,Q_HO271,fun h0_=>absurd ((hoff 23 (by kernel_rfl)).symm.trans h0_) (by decide),fun h0_=>absurd ((hoff 24 (by kernel_rfl)).symm.trans h0_) (by decide),fun h0_=>absurd ((hoff 24 (by kernel_rfl)).symm.trans h0_) (by decide),fun h0_=>absurd ((hoff 25 (by kernel_rfl)).symm.trans h0_) (by decide),fun h0_=>absurd ((hoff 26 (by kernel_rfl)).symm.trans h0_) (by decide),fun h0_=>absurd ((hoff 28 (by kernel_rfl)).symm.trans h0_) (by decide)⟩
   refine steps_cons ?_ ?_
   ·rintro b a w' ⟨v270,v273,v277,m24_,m25_,m26_,m28_,ha,Q_BK267,Q_HB,Q_HO271,Q_HO274,Q_HO278,Q_X24_,Q_X25_,Q_X26_,Q_X28_⟩ hb_ hon hoff
    refine ⟨_,rfl,fun K hK=>?_⟩
    have e27:a.tmps[27]?=some (.pointer (some ⟨gb267,1,none⟩)):=by rw [ha];exact (putSel_off rfl).trans rfl
    replace ha:=zm ha
    have BK267:=zm Q_BK267
    have HB:=zm Q_HB
    have hc0_:w'.cell? ⟨gb267,0,none⟩=some (.int .i64 a0_0):=(blk_cell BK267.out 0).trans rfl
    have hc1_:w'.cell? ⟨gb267,1,none⟩=some (.int .i64 a0_1):=(blk_cell BK267.out 1).trans rfl
    have hc2_:w'.cell? ⟨gb267,2,none⟩=some (.int .i64 a0_2):=(blk_cell BK267.out 2).trans rfl
    have hc3_:w'.cell? ⟨gb267,3,none⟩=some (.int .i64 a0_3):=(blk_cell BK267.out 3).trans rfl
    have hc4_:w'.cell? ⟨gb267,4,none⟩=some (.int .i64 a0_4):=(blk_cell BK267.out 4).trans rfl
    have hc5_:w'.cell? ⟨gb267,5,none⟩=some (.int .i64 a0_5):=(blk_cell BK267.out 5).trans rfl
    have hc6_:w'.cell? ⟨gb267,6,none⟩=some (.slice A0_6 l0_6.length c0_6):=(blk_cell BK267.out 6).trans rfl
    refine value_ (w1:=w') (v:=.int .i64 a0_1) (by rfl) rfl ?_ ?_
    ·go_simp
     (try simp only [i64_w])
     try rfl
    refine hK.out _ _ ⟨v270,v273,v277,m24_,m25_,m26_,m28_,(by rw [ha.out];exact putSel_upk 8 hb_ rfl rfl rfl),Q_BK267,Q_HB,Q_HO271,fun h0_=>absurd ((hoff 23 (by kernel_rfl)).symm.trans h0_) (by decide),fun h0_=>absurd ((hoff 24 (by kernel_rfl)).symm.trans h0_) (by decide),fun h0_=>absurd ((hoff 24 (by kernel_rfl)).symm.trans h0_) (by decide),fun h0_=>absurd ((hoff 25 (by kernel_rfl)).symm.trans h0_) (by decide),fun h0_=>absurd ((hoff 26 (by kernel_rfl)).symm.trans h0_) (by decide),fun h0_=>absurd ((hoff 28 (by kernel_rfl)).symm.trans h0_) (by decide)⟩
   refine steps_cons ?_ ?_
   ·rintro b a w' ⟨v270,v273,v277,m24_,m25_,m26_,m28_,ha,Q_BK267,Q_HB,Q_HO271,Q_HO274,Q_HO278,Q_X24_,Q_X25_,Q_X26_,Q_X28_⟩ hb_ hon hoff
    refine ⟨_,rfl,fun K hK=>?_⟩
    have e28:a.tmps[28]?=some (.int .i64 a0_1):=by rw [ha];exact putSel_on (e:=(12,28,.int .i64 a0_1)) 8 rfl rfl (hon 12 (by kernel_rfl)) rfl
    replace ha:=zm ha
    have BK267:=zm Q_BK267
    have HB:=zm Q_HB
    refine value_ (w1:=w') (v:=.int .u64 (IntKind.u64.wrap (a0_1))) (by rfl) rfl ?_ ?_
    ·go_simp
     (try simp only [i64_w])
     try rfl
    refine hK.out _ _ ⟨v270,v273,v277,m24_,m25_,m26_,m28_,(by rw [ha.out];exact putSel_upk 9 hb_ rfl rfl rfl),Q_BK267,Q_HB,Q_HO271,fun h0_=>absurd ((hoff 23 (by kernel_rfl)).symm.trans h0_) (by decide),fun h0_=>absurd ((hoff 24 (by kernel_rfl)).symm.trans h0_) (by decide),fun h0_=>absurd ((hoff 24 (by kernel_rfl)).symm.trans h0_) (by decide),fun h0_=>absurd ((hoff 25 (by kernel_rfl)).symm.trans h0_) (by decide),fun h0_=>absurd ((hoff 26 (by kernel_rfl)).symm.trans h0_) (by decide),fun h0_=>absurd ((hoff 28 (by kernel_rfl)).symm.trans h0_) (by decide)⟩
   refine steps_cons ?_ ?_
   ·rintro b a w' ⟨v270,v273,v277,m24_,m25_,m26_,m28_,ha,Q_BK267,Q_HB,Q_HO271,Q_HO274,Q_HO278,Q_X24_,Q_X25_,Q_X26_,Q_X28_⟩ hb_ hon hoff
    refine ⟨_,rfl,fun K hK=>?_⟩
    have e30:a.tmps[30]?=some (.pointer (some ⟨gb267,2,none⟩)):=by rw [ha];exact (putSel_off rfl).trans rfl
    replace ha:=zm ha
    have BK267:=zm Q_BK267
    have HB:=zm Q_HB
    have hc0_:w'.cell? ⟨gb267,0,none⟩=some (.int .i64 a0_0):=(blk_cell BK267.out 0).trans rfl
    have hc1_:w'.cell? ⟨gb267,1,none⟩=some (.int .i64 a0_1):=(blk_cell BK267.out 1).trans rfl
    have hc2_:w'.cell? ⟨gb267,2,none⟩=some (.int .i64 a0_2):=(blk_cell BK267.out 2).trans rfl
    have hc3_:w'.cell? ⟨gb267,3,none⟩=some (.int .i64 a0_3):=(blk_cell BK267.out 3).trans rfl
    have hc4_:w'.cell? ⟨gb267,4,none⟩=some (.int .i64 a0_4):=(blk_cell BK267.out 4).trans rfl
    have hc5_:w'.cell? ⟨gb267,5,none⟩=some (.int .i64 a0_5):=(blk_cell BK267.out 5).trans rfl
    have hc6_:w'.cell? ⟨gb267,6,none⟩=some (.slice A0_6 l0_6.length c0_6):=(blk_cell BK267.out 6).trans rfl
    refine value_ (w1:=w') (v:=.int .i64 a0_2) (by rfl) rfl ?_ ?_
    ·go_simp
     (try simp only [i64_w])
     try rfl
    refine hK.out _ _ ⟨v270,v273,v277,m24_,m25_,m26_,m28_,(by rw [ha.out];exact putSel_upk 10 hb_ rfl rfl rfl),Q_BK267,Q_HB,Q_HO271,fun h0_=>absurd ((hoff 23 (by kernel_rfl)).symm.trans h0_) (by decide),fun h0_=>absurd ((hoff 24 (by kernel_rfl)).symm.trans h0_) (by decide),fun h0_=>absurd ((hoff 24 (by kernel_rfl)).symm.trans h0_) (by decide),fun h0_=>absurd ((hoff 25 (by kernel_rfl)).symm.trans h0_) (by decide),fun h0_=>absurd ((hoff 26 (by kernel_rfl)).symm.trans h0_) (by decide),fun h0_=>absurd ((hoff 28 (by kernel_rfl)).symm.trans h0_) (by decide)⟩
   refine steps_cons ?_ ?_
   ·rintro b a w' ⟨v270,v273,v277,m24_,m25_,m26_,m28_,ha,Q_BK267,Q_HB,Q_HO271,Q_HO274,Q_HO278,Q_X24_,Q_X25_,Q_X26_,Q_X28_⟩ hb_ hon hoff
    refine ⟨_,rfl,fun K hK=>?_⟩
    have e31:a.tmps[31]?=some (.int .i64 a0_2):=by rw [ha];exact putSel_on (e:=(15,31,.int .i64 a0_2)) 10 rfl rfl (hon 15 (by kernel_rfl)) rfl
    replace ha:=zm ha
    have BK267:=zm Q_BK267
    have HB:=zm Q_HB
    refine value_ (w1:=w') (v:=.int .u64 (IntKind.u64.wrap (a0_2))) (by rfl) rfl ?_ ?_
    ·go_simp
     (try simp only [i64_w])
     try rfl
    refine hK.out _ _ ⟨v270,v273,v277,m24_,m25_,m26_,m28_,(by rw [ha.out];exact putSel_upk 11 hb_ rfl rfl rfl),Q_BK267,Q_HB,Q_HO271,fun h0_=>absurd ((hoff 23 (by kernel_rfl)).symm.trans h0_) (by decide),fun h0_=>absurd ((hoff 24 (by kernel_rfl)).symm.trans h0_) (by decide),fun h0_=>absurd ((hoff 24 (by kernel_rfl)).symm.trans h0_) (by decide),fun h0_=>absurd ((hoff 25 (by kernel_rfl)).symm.trans h0_) (by decide),fun h0_=>absurd ((hoff 26 (by kernel_rfl)).symm.trans h0_) (by decide),fun h0_=>absurd ((hoff 28 (by kernel_rfl)).symm.trans h0_) (by decide)⟩
   refine steps_cons ?_ ?_
   ·rintro b a w' ⟨v270,v273,v277,m24_,m25_,m26_,m28_,ha,Q_BK267,Q_HB,Q_HO271,Q_HO274,Q_HO278,Q_X24_,Q_X25_,Q_X26_,Q_X28_⟩ hb_ hon hoff
    refine ⟨_,rfl,fun K hK=>?_⟩
    have e33:a.tmps[33]?=some (.pointer (some ⟨gb267,3,none⟩)):=by rw [ha];exact (putSel_off rfl).trans rfl
    replace ha:=zm ha
    have BK267:=zm Q_BK267
    have HB:=zm Q_HB
    have hc0_:w'.cell? ⟨gb267,0,none⟩=some (.int .i64 a0_0):=(blk_cell BK267.out 0).trans rfl
    have hc1_:w'.cell? ⟨gb267,1,none⟩=some (.int .i64 a0_1):=(blk_cell BK267.out 1).trans rfl
    have hc2_:w'.cell? ⟨gb267,2,none⟩=some (.int .i64 a0_2):=(blk_cell BK267.out 2).trans rfl
    have hc3_:w'.cell? ⟨gb267,3,none⟩=some (.int .i64 a0_3):=(blk_cell BK267.out 3).trans rfl
    have hc4_:w'.cell? ⟨gb267,4,none⟩=some (.int .i64 a0_4):=(blk_cell BK267.out 4).trans rfl
    have hc5_:w'.cell? ⟨gb267,5,none⟩=some (.int .i64 a0_5):=(blk_cell BK267.out 5).trans rfl
    have hc6_:w'.cell? ⟨gb267,6,none⟩=some (.slice A0_6 l0_6.length c0_6):=(blk_cell BK267.out 6).trans rfl
    refine value_ (w1:=w') (v:=.int .i64 a0_3) (by rfl) rfl ?_ ?_
    ·go_simp
     (try simp only [i64_w])
     try rfl
    refine hK.out _ _ ⟨v270,v273,v277,m24_,m25_,m26_,m28_,(by rw [ha.out];exact putSel_upk 12 hb_ rfl rfl rfl),Q_BK267,Q_HB,Q_HO271,fun h0_=>absurd ((hoff 23 (by kernel_rfl)).symm.trans h0_) (by decide),fun h0_=>absurd ((hoff 24 (by kernel_rfl)).symm.trans h0_) (by decide),fun h0_=>absurd ((hoff 24 (by kernel_rfl)).symm.trans h0_) (by decide),fun h0_=>absurd ((hoff 25 (by kernel_rfl)).symm.trans h0_) (by decide),fun h0_=>absurd ((hoff 26 (by kernel_rfl)).symm.trans h0_) (by decide),fun h0_=>absurd ((hoff 28 (by kernel_rfl)).symm.trans h0_) (by decide)⟩
   refine steps_cons ?_ ?_
   ·rintro b a w' ⟨v270,v273,v277,m24_,m25_,m26_,m28_,ha,Q_BK267,Q_HB,Q_HO271,Q_HO274,Q_HO278,Q_X24_,Q_X25_,Q_X26_,Q_X28_⟩ hb_ hon hoff
    refine ⟨_,rfl,fun K hK=>?_⟩
    have e34:a.tmps[34]?=some (.int .i64 a0_3):=by rw [ha];exact putSel_on (e:=(18,34,.int .i64 a0_3)) 12 rfl rfl (hon 18 (by kernel_rfl)) rfl
    replace ha:=zm ha
    have BK267:=zm Q_BK267
    have HB:=zm Q_HB
    refine value_ (w1:=w') (v:=.int .u64 (IntKind.u64.wrap (a0_3))) (by rfl) rfl ?_ ?_
    ·go_simp
     (try simp only [i64_w])
     try rfl
    refine hK.out _ _ ⟨v270,v273,v277,m24_,m25_,m26_,m28_,(by rw [ha.out];exact putSel_upk 13 hb_ rfl rfl rfl),Q_BK267,Q_HB,Q_HO271,fun h0_=>absurd ((hoff 23 (by kernel_rfl)).symm.trans h0_) (by decide),fun h0_=>absurd ((hoff 24 (by kernel_rfl)).symm.trans h0_) (by decide),fun h0_=>absurd ((hoff 24 (by kernel_rfl)).symm.trans h0_) (by decide),fun h0_=>absurd ((hoff 25 (by kernel_rfl)).symm.trans h0_) (by decide),fun h0_=>absurd ((hoff 26 (by kernel_rfl)).symm.trans h0_) (by decide),fun h0_=>absurd ((hoff 28 (by kernel_rfl)).symm.trans h0_) (by decide)⟩
   refine steps_cons ?_ ?_
   ·rintro b a w' ⟨v270,v273,v277,m24_,m25_,m26_,m28_,ha,Q_BK267,Q_HB,Q_HO271,Q_HO274,Q_HO278,Q_X24_,Q_X25_,Q_X26_,Q_X28_⟩ hb_ hon hoff
    refine ⟨_,rfl,fun K hK=>?_⟩
    have e36:a.tmps[36]?=some (.pointer (some ⟨gb267,4,none⟩)):=by rw [ha];exact (putSel_off rfl).trans rfl
    replace ha:=zm ha
    have BK267:=zm Q_BK267
    have HB:=zm Q_HB
    have hc0_:w'.cell? ⟨gb267,0,none⟩=some (.int .i64 a0_0):=(blk_cell BK267.out 0).trans rfl
    have hc1_:w'.cell? ⟨gb267,1,none⟩=some (.int .i64 a0_1):=(blk_cell BK267.out 1).trans rfl
    have hc2_:w'.cell? ⟨gb267,2,none⟩=some (.int .i64 a0_2):=(blk_cell BK267.out 2).trans rfl
    have hc3_:w'.cell? ⟨gb267,3,none⟩=some (.int .i64 a0_3):=(blk_cell BK267.out 3).trans rfl
    have hc4_:w'.cell? ⟨gb267,4,none⟩=some (.int .i64 a0_4):=(blk_cell BK267.out 4).trans rfl
    have hc5_:w'.cell? ⟨gb267,5,none⟩=some (.int .i64 a0_5):=(blk_cell BK267.out 5).trans rfl
    have hc6_:w'.cell? ⟨gb267,6,none⟩=some (.slice A0_6 l0_6.length c0_6):=(blk_cell BK267.out 6).trans rfl
    refine value_ (w1:=w') (v:=.int .i64 a0_4) (by rfl) rfl ?_ ?_
    ·go_simp
     (try simp only [i64_w])
     try rfl
    refine hK.out _ _ ⟨v270,v273,v277,m24_,m25_,m26_,m28_,(by rw [ha.out];exact putSel_upk 14 hb_ rfl rfl rfl),Q_BK267,Q_HB,Q_HO271,fun h0_=>absurd ((hoff 23 (by kernel_rfl)).symm.trans h0_) (by decide),fun h0_=>absurd ((hoff 24 (by kernel_rfl)).symm.trans h0_) (by decide),fun h0_=>absurd ((hoff 24 (by kernel_rfl)).symm.trans h0_) (by decide),fun h0_=>absurd ((hoff 25 (by kernel_rfl)).symm.trans h0_) (by decide),fun h0_=>absurd ((hoff 26 (by kernel_rfl)).symm.trans h0_) (by decide),fun h0_=>absurd ((hoff 28 (by kernel_rfl)).symm.trans h0_) (by decide)⟩
   refine steps_cons ?_ ?_
   ·rintro b a w' ⟨v270,v273,v277,m24_,m25_,m26_,m28_,ha,Q_BK267,Q_HB,Q_HO271,Q_HO274,Q_HO278,Q_X24_,Q_X25_,Q_X26_,Q_X28_⟩ hb_ hon hoff
    refine ⟨_,rfl,fun K hK=>?_⟩
    have e37:a.tmps[37]?=some (.int .i64 a0_4):=by rw [ha];exact putSel_on (e:=(21,37,.int .i64 a0_4)) 14 rfl rfl (hon 21 (by kernel_rfl)) rfl
    replace ha:=zm ha
    have BK267:=zm Q_BK267
    have HB:=zm Q_HB
    refine value_ (w1:=w') (v:=.int .u64 (IntKind.u64.wrap (a0_4))) (by rfl) rfl ?_ ?_
    ·go_simp
     (try simp only [i64_w])
     try rfl
    refine hK.out _ _ ⟨v270,v273,v277,m24_,m25_,m26_,m28_,(by rw [ha.out];exact putSel_upk 15 hb_ rfl rfl rfl),Q_BK267,Q_HB,Q_HO271,fun h0_=>absurd ((hoff 23 (by kernel_rfl)).symm.trans h0_) (by decide),fun h0_=>absurd ((hoff 24 (by kernel_rfl)).symm.trans h0_) (by decide),fun h0_=>absurd ((hoff 24 (by kernel_rfl)).symm.trans h0_) (by decide),fun h0_=>absurd ((hoff 25 (by kernel_rfl)).symm.trans h0_) (by decide),fun h0_=>absurd ((hoff 26 (by kernel_rfl)).symm.trans h0_) (by decide),fun h0_=>absurd ((hoff 28 (by kernel_rfl)).symm.trans h0_) (by decide)⟩
   refine steps_cons ?_ ?_
   ·rintro b a w' ⟨v270,v273,v277,m24_,m25_,m26_,m28_,ha,Q_BK267,Q_HB,Q_HO271,Q_HO274,Q_HO278,Q_X24_,Q_X25_,Q_X26_,Q_X28_⟩ hb_ hon hoff
    refine ⟨_,rfl,fun K hK=>?_⟩
    have e19:a.tmps[19]?=some (.int .u64 (IntKind.u64.wrap (a0_0))):=by rw [ha];exact putSel_on (e:=(3,19,.int .u64 (IntKind.u64.wrap (a0_0)))) 2 rfl rfl (hon 3 (by kernel_rfl)) rfl
    have e22:a.tmps[22]?=some (.int .u64 (IntKind.u64.wrap (a0_5))):=by rw [ha];exact putSel_on (e:=(6,22,.int .u64 (IntKind.u64.wrap (a0_5)))) 4 rfl rfl (hon 6 (by kernel_rfl)) rfl
    have e26:a.tmps[26]?=some (.int .u64 (IntKind.u64.wrap ((l0_6.length:Int)))):=by rw [ha];exact putSel_on (e:=(10,26,.int .u64 (IntKind.u64.wrap ((l0_6.length:Int))))) 7 rfl rfl (hon 10 (by kernel_rfl)) rfl
    have e29:a.tmps[29]?=some (.int .u64 (IntKind.u64.wrap (a0_1))):=by rw [ha];exact putSel_on (e:=(13,29,.int .u64 (IntKind.u64.wrap (a0_1)))) 9 rfl rfl (hon 13 (by kernel_rfl)) rfl
    have e32:a.tmps[32]?=some (.int .u64 (IntKind.u64.wrap (a0_2))):=by rw [ha];exact putSel_on (e:=(16,32,.int .u64 (IntKind.u64.wrap (a0_2)))) 11 rfl rfl (hon 16 (by kernel_rfl)) rfl
    have e35:a.tmps[35]?=some (.int .u64 (IntKind.u64.wrap (a0_3))):=by rw [ha];exact putSel_on (e:=(19,35,.int .u64 (IntKind.u64.wrap (a0_3)))) 13 rfl rfl (hon 19 (by kernel_rfl)) rfl
    have e38:a.tmps[38]?=some (.int .u64 (IntKind.u64.wrap (a0_4))):=by rw [ha];exact putSel_on (e:=(22,38,.int .u64 (IntKind.u64.wrap (a0_4)))) 15 rfl rfl (hon 22 (by kernel_rfl)) rfl
    replace ha:=zm ha
    have BK267:=zm Q_BK267
    have HB:=zm Q_HB
    refine Kd.R_lit_step (Kd.int .u64) _ 58 ?hg (N:=39) ?hd (xs:=([IntKind.u64.wrap (a0_0),IntKind.u64.wrap (a0_5),IntKind.u64.wrap ((l0_6.length:Int)),0,IntKind.u64.wrap (a0_1),IntKind.u64.wrap (a0_2),IntKind.u64.wrap (a0_3),IntKind.u64.wrap (a0_4)]:List Int)) (inner:=[.int .u64 (IntKind.u64.wrap (a0_0)),.int .u64 (IntKind.u64.wrap (a0_5)),.int .u64 (IntKind.u64.wrap ((l0_6.length:Int))),.int .u64 0,.int .u64 (IntKind.u64.wrap (a0_1)),.int .u64 (IntKind.u64.wrap (a0_2)),.int .u64 (IntKind.u64.wrap (a0_3)),.int .u64 (IntKind.u64.wrap (a0_4))]) (ok:=fun _=>True) (okp:=fun _=>True) ?hr ?hp (fun _ hk=>hk) trivial (Below.refl _ _) (Nat.le_refl _) (by simp) ?_;(case hd=>rfl);(case hg=>rfl);(case hr=>first|(go_simp;done)|(go_simp;rfl));(case hp=>exact (Reps.one (show Kd.M (Kd.int .u64) _ _ _ (IntKind.u64.wrap (a0_0)) [.int .u64 (IntKind.u64.wrap (a0_0))] from rfl) (Reps.one (show Kd.M (Kd.int .u64) _ _ _ (IntKind.u64.wrap (a0_5)) [.int .u64 (IntKind.u64.wrap (a0_5))] from rfl) (Reps.one (show Kd.M (Kd.int .u64) _ _ _ (IntKind.u64.wrap ((l0_6.length:Int))) [.int .u64 (IntKind.u64.wrap ((l0_6.length:Int)))] from rfl) (Reps.one (show Kd.M (Kd.int .u64) _ _ _ 0 [.int .u64 0] from rfl) (Reps.one (show Kd.M (Kd.int .u64) _ _ _ (IntKind.u64.wrap (a0_1)) [.int .u64 (IntKind.u64.wrap (a0_1))] from rfl) (Reps.one (show Kd.M (Kd.int .u64) _ _ _ (IntKind.u64.wrap (a0_2)) [.int .u64 (IntKind.u64.wrap (a0_2))] from rfl) (Reps.one (show Kd.M (Kd.int .u64) _ _ _ (IntKind.u64.wrap (a0_3)) [.int .u64 (IntKind.u64.wrap (a0_3))] from rfl) (Reps.one (show Kd.M (Kd.int .u64) _ _ _ (IntKind.u64.wrap (a0_4)) [.int .u64 (IntKind.u64.wrap (a0_4))] from rfl) (Reps.none _ _))))))))))
    intro v273 w10 ho11 hb hg_ hnew_
    clear hg_ hnew_
    (first|rw [← Ny272.out] at ho11|(simp only [Int.reduceToNat] at ho11;rw [← Ny272.out] at ho11))
    have n0_:=zm (Kd.R_lower ho11 (below_size (zb_)))
    have n1_:=zkB BK267 hb
    have n2_:=zkH HB hb
    have z_HO271:=fun (h0_:b 0=true)=>(show Kd.R (Kd.int .i64) 3 w10 w.heap.size (fun _=>True) v270 t269 from by first|exact (Kd.R_below (by (with_reducible repeat (first|apply zrA|apply zrN|apply zrD));exact (Q_HO271 h0_)) hb)|exact Kd.R_mono (Kd.R_below (by (with_reducible repeat (first|apply zrA|apply zrN|apply zrD));exact (Q_HO271 h0_)) hb) (fun _ h_=>by first|trivial|exact h_|exact h_.1))
    clear BK267 HB
    have HO274:=n0_
    have BK267:=n1_
    have HB:=n2_
    clear n0_ n1_ n2_ hb ho11
    refine hK.out _ _ ⟨v270,v273,v277,m24_,m25_,m26_,m28_,(by rw [ha.out];exact putSel_upk 16 hb_ rfl rfl rfl),zx_,(zb_),z_HO271,fun _=>(by (with_reducible repeat (first|apply zrA|apply zrN|apply zrD));exact HO274.out),fun h0_=>absurd ((hoff 24 (by kernel_rfl)).symm.trans h0_) (by decide),fun h0_=>absurd ((hoff 24 (by kernel_rfl)).symm.trans h0_) (by decide),fun h0_=>absurd ((hoff 25 (by kernel_rfl)).symm.trans h0_) (by decide),fun h0_=>absurd ((hoff 26 (by kernel_rfl)).symm.trans h0_) (by decide),fun h0_=>absurd ((hoff 28 (by kernel_rfl)).symm.trans h0_) (by decide)⟩
   refine steps_cons ?_ ?_
   ·rintro b a w' ⟨v270,v273,v277,m24_,m25_,m26_,m28_,ha,Q_BK267,Q_HB,Q_HO271,Q_HO274,Q_HO278,Q_X24_,Q_X25_,Q_X26_,Q_X28_⟩ hb_ hon hoff
    refine ⟨_,rfl,fun K hK=>?_⟩
    have e16:a.tmps[16]?=some (v270):=by rw [ha];exact putSel_on (e:=(0,16,v270)) 0 rfl rfl (hon 0 (by kernel_rfl)) rfl
    have e39:a.tmps[39]?=some (v273):=by rw [ha];exact putSel_on (e:=(23,39,v273)) 16 rfl rfl (hon 23 (by kernel_rfl)) rfl
    replace ha:=zm ha
    have BK267:=zm Q_BK267
    have HB:=zm Q_HB
    have HO271:=zm (Q_HO271 (hon 0 (by kernel_rfl)))
    have HO274:=zm (Q_HO274 (hon 23 (by kernel_rfl)))
    obtain ⟨Ao14,co14,eo14⟩:=Kd.R_slice HO271.out
    (first|subst eo14|(injection eo14 with f1_ f2_ f3_;have f4_:=f1_.symm;have f5_:=f3_.symm;clear f1_ f2_ f3_;subst f4_;subst f5_))
    obtain ⟨Ao15,co15,eo15⟩:=Kd.R_slice HO274.out
    (first|subst eo15|(injection eo15 with f1_ f2_ f3_;have f4_:=f1_.symm;have f5_:=f3_.symm;clear f1_ f2_ f3_;subst f4_;subst f5_))
    refine goes_ Try.func35 (by kernel_rfl) rfl #[.slice Ao14 t269.length co14,.slice Ao15 y272.length co15] (by rfl) rfl rfl (by first|(simp only [List.map_toArray,List.map_cons,List.map_nil,Act.eval,Array.getD_eq_getD_getElem?,Option.getD_some,e16,e39];done)|(simp only [List.map_toArray,List.map_cons,List.map_nil,Act.eval,Array.getD_eq_getD_getElem?,Option.getD_some,e16,e39];rfl)) ?_
    with_reducible refine (slipwayref01_Pack.calls k _ _ t269 _ _ y272 t275 t276 _ ?side1 ?side2 ?side3 ?side4 A5.out).mono ?_
    (case side1=>repeat (first|exact (Kd.R_reads' HO271.out).2.2|(with_reducible refine Kd.C_alloc ?_ _)|(with_reducible refine Kd.C_drewN ?_ _)|(with_reducible refine Kd.C_drew ?_)))
    (case side2=>exact (Kd.R_reads' HO271.out).2.1)
    (case side3=>repeat (first|exact (Kd.R_reads' HO274.out).2.2|(with_reducible refine Kd.C_alloc ?_ _)|(with_reducible refine Kd.C_drewN ?_ _)|(with_reducible refine Kd.C_drew ?_)))
    (case side4=>exact (Kd.R_reads' HO274.out).2.1)
    rintro e w16 ⟨v277,rfl,ho0,hb⟩
    refine ⟨_,rfl,?_⟩
    have n0_:=zm (Kd.R_below (by (with_reducible repeat (first|apply zrA|apply zrN|apply zrD));exact HO271.out) hb)
    have n1_:=zm (Kd.R_below (by (with_reducible repeat (first|apply zrA|apply zrN|apply zrD));exact HO274.out) hb)
    have n2_:=zm (Kd.R_lower ho0 (below_size (zb_)))
    have n3_:=zkB BK267 hb
    have n4_:=zkH HB hb
    clear HO271 HO274 BK267 HB
    have HO271:=n0_
    have HO274:=n1_
    have HO278:=n2_
    have BK267:=n3_
    have HB:=n4_
    clear n0_ n1_ n2_ n3_ n4_
    (try clear hb)
    (try clear hb2)
    (try clear hk)
    (try clear hi)
    (try clear ho0)
    refine hK.out _ _ ⟨.slice Ao14 t269.length co14,.slice Ao15 y272.length co15,v277,(.tuple #[v277,.int .i64 t276]),m25_,m26_,m28_,(by rw [ha.out];exact putSel_upk 17 hb_ rfl rfl rfl),zx_,(zb_),fun _=>(by (with_reducible repeat (first|apply zrA|apply zrN|apply zrD));exact HO271.out),fun _=>(by (with_reducible repeat (first|apply zrA|apply zrN|apply zrD));exact HO274.out),fun _=>(by (with_reducible repeat (first|apply zrA|apply zrN|apply zrD));exact HO278.out),fun _=>rfl,fun h0_=>absurd ((hoff 25 (by kernel_rfl)).symm.trans h0_) (by decide),fun h0_=>absurd ((hoff 26 (by kernel_rfl)).symm.trans h0_) (by decide),fun h0_=>absurd ((hoff 28 (by kernel_rfl)).symm.trans h0_) (by decide)⟩
   refine steps_cons ?_ ?_
   ·rintro b a w' ⟨v270,v273,v277,m24_,m25_,m26_,m28_,ha,Q_BK267,Q_HB,Q_HO271,Q_HO274,Q_HO278,Q_X24_,Q_X25_,Q_X26_,Q_X28_⟩ hb_ hon hoff
    refine ⟨_,rfl,fun K hK=>?_⟩
    have e40:a.tmps[40]?=some (m24_):=by rw [ha];exact putSel_on (e:=(24,40,m24_)) 17 rfl rfl (hon 24 (by kernel_rfl)) rfl
    rw [Q_X24_ (hon 24 (by kernel_rfl))] at e40
    replace ha:=zm ha
    have BK267:=zm Q_BK267
    have HB:=zm Q_HB
    have HO271:=zm (Q_HO271 (hon 0 (by kernel_rfl)))
    have HO274:=zm (Q_HO274 (hon 23 (by kernel_rfl)))
    have HO278:=zm (Q_HO278 (hon 24 (by kernel_rfl)))
    refine value_ (w1:=w') (v:=.tuple #[v277,.int .i64 t276]) (by rfl) rfl ?_ ?_
    ·go_simp
     (try simp only [i64_w])
     try rfl
    refine hK.out _ _ ⟨v270,v273,v277,m24_,(.tuple #[v277,.int .i64 t276]),m26_,m28_,(by rw [ha.out];exact putSel_upk 18 hb_ rfl rfl rfl),Q_BK267,Q_HB,Q_HO271,Q_HO274,Q_HO278,Q_X24_,fun _=>rfl,fun h0_=>absurd ((hoff 26 (by kernel_rfl)).symm.trans h0_) (by decide),fun h0_=>absurd ((hoff 28 (by kernel_rfl)).symm.trans h0_) (by decide)⟩
   refine steps_cons ?_ ?_
   ·rintro b a w' ⟨v270,v273,v277,m24_,m25_,m26_,m28_,ha,Q_BK267,Q_HB,Q_HO271,Q_HO274,Q_HO278,Q_X24_,Q_X25_,Q_X26_,Q_X28_⟩ hb_ hon hoff
    refine ⟨_,rfl,fun K hK=>?_⟩
    have e15:a.tmps[15]?=some (m25_):=by rw [ha];exact putSel_on (e:=(25,15,m25_)) 18 rfl rfl (hon 25 (by kernel_rfl)) rfl
    rw [Q_X25_ (hon 25 (by kernel_rfl))] at e15
    replace ha:=zm ha
    have BK267:=zm Q_BK267
    have HB:=zm Q_HB
    have HO271:=zm (Q_HO271 (hon 0 (by kernel_rfl)))
    have HO274:=zm (Q_HO274 (hon 23 (by kernel_rfl)))
    have HO278:=zm (Q_HO278 (hon 24 (by kernel_rfl)))
    obtain ⟨Ao26_0,co26_0,eo_⟩:=Kd.R_slice HO278.out
    subst eo_
    refine value_ (w1:=w') (v:=.slice Ao26_0 t275.length co26_0) (by rfl) rfl ?_ ?_
    ·go_simp
     (try simp only [i64_w])
     try rfl
    refine hK.out _ _ ⟨v270,v273,.slice Ao26_0 t275.length co26_0,m24_,m25_,(.slice Ao26_0 t275.length co26_0),m28_,(by rw [ha.out];exact putSel_upk 19 hb_ rfl rfl rfl),Q_BK267,Q_HB,Q_HO271,Q_HO274,Q_HO278,Q_X24_,Q_X25_,fun _=>rfl,fun h0_=>absurd ((hoff 28 (by kernel_rfl)).symm.trans h0_) (by decide)⟩
   refine steps_cons ?_ ?_
   ·rintro b a w' ⟨v270,v273,v277,m24_,m25_,m26_,m28_,ha,Q_BK267,Q_HB,Q_HO271,Q_HO274,Q_HO278,Q_X24_,Q_X25_,Q_X26_,Q_X28_⟩ hb_ hon hoff
    refine ⟨_,rfl,fun K hK=>?_⟩
    have e15:a.tmps[15]?=some (m25_):=by rw [ha];exact putSel_on (e:=(25,15,m25_)) 18 rfl rfl (hon 25 (by kernel_rfl)) rfl
    rw [Q_X25_ (hon 25 (by kernel_rfl))] at e15
    replace ha:=zm ha
    have BK267:=zm Q_BK267
    have HB:=zm Q_HB
    have HO271:=zm (Q_HO271 (hon 0 (by kernel_rfl)))
    have HO274:=zm (Q_HO274 (hon 23 (by kernel_rfl)))
    have HO278:=zm (Q_HO278 (hon 24 (by kernel_rfl)))
    obtain ⟨Ao27_0,co27_0,eo_⟩:=Kd.R_slice HO278.out
    subst eo_
    refine value_ (w1:=w') (v:=.int .i64 t276) (by rfl) rfl ?_ ?_
    ·go_simp
     (try simp only [i64_w])
     try rfl
    refine hK.out _ _ ⟨v270,v273,.slice Ao27_0 t275.length co27_0,m24_,m25_,m26_,m28_,(by rw [ha.out];exact putSel_upk 20 hb_ rfl rfl rfl),Q_BK267,Q_HB,Q_HO271,Q_HO274,Q_HO278,Q_X24_,Q_X25_,Q_X26_,Q_X28_⟩
   refine steps_cons ?_ ?_
   ·rintro b a w' ⟨v270,v273,v277,m24_,m25_,m26_,m28_,ha,Q_BK267,Q_HB,Q_HO271,Q_HO274,Q_HO278,Q_X24_,Q_X25_,Q_X26_,Q_X28_⟩ hb_ hon hoff
    refine ⟨_,rfl,fun K hK=>?_⟩
    have e41:a.tmps[41]?=some (m26_):=by rw [ha];exact putSel_on (e:=(26,41,m26_)) 19 rfl rfl (hon 26 (by kernel_rfl)) rfl
    rw [Q_X26_ (hon 26 (by kernel_rfl))] at e41
    replace ha:=zm ha
    have BK267:=zm Q_BK267
    have HB:=zm Q_HB
    have HO271:=zm (Q_HO271 (hon 0 (by kernel_rfl)))
    have HO274:=zm (Q_HO274 (hon 23 (by kernel_rfl)))
    have HO278:=zm (Q_HO278 (hon 24 (by kernel_rfl)))
    refine value_ (w1:=w') (v:=v277) (by rfl) rfl ?_ ?_
    ·go_simp
     (try simp only [i64_w])
     try rfl
    refine hK.out _ _ ⟨v270,v273,v277,m24_,m25_,m26_,(v277),(by rw [ha.out];exact putSel_upk 21 hb_ rfl rfl rfl),Q_BK267,Q_HB,Q_HO271,Q_HO274,Q_HO278,Q_X24_,Q_X25_,Q_X26_,fun _=>rfl⟩
   refine steps_cons ?_ ?_
   ·rintro b a w' ⟨v270,v273,v277,m24_,m25_,m26_,m28_,ha,Q_BK267,Q_HB,Q_HO271,Q_HO274,Q_HO278,Q_X24_,Q_X25_,Q_X26_,Q_X28_⟩ hb_ hon hoff
    refine ⟨_,rfl,fun K hK=>?_⟩
    have e42:a.tmps[42]?=some (.int .i64 t276):=by rw [ha];exact putSel_on (e:=(27,42,.int .i64 t276)) 20 rfl rfl (hon 27 (by kernel_rfl)) rfl
    replace ha:=zm ha
    have BK267:=zm Q_BK267
    have HB:=zm Q_HB
    have HO271:=zm (Q_HO271 (hon 0 (by kernel_rfl)))
    have HO274:=zm (Q_HO274 (hon 23 (by kernel_rfl)))
    have HO278:=zm (Q_HO278 (hon 24 (by kernel_rfl)))
    refine value_ (w1:=w') (v:=.int .i64 t276) (by rfl) rfl ?_ ?_
    ·go_simp
     (try simp only [i64_w])
     try rfl
    refine hK.out _ _ ⟨v270,v273,v277,m24_,m25_,m26_,m28_,(by rw [ha.out];exact putSel_upk 22 hb_ rfl rfl rfl),Q_BK267,Q_HB,Q_HO271,Q_HO274,Q_HO278,Q_X24_,Q_X25_,Q_X26_,Q_X28_⟩
   exact steps_nil
  rintro b a w16 hall ⟨v270,v273,v277,m24_,m25_,m26_,m28_,ha,Q_BK267,Q_HB,Q_HO271,Q_HO274,Q_HO278,Q_X24_,Q_X25_,Q_X26_,Q_X28_⟩
  clear BK267 HB
  have hb0_:=hall 0 (by kernel_rfl)
  have hb2_:=hall 2 (by kernel_rfl)
  have hb3_:=hall 3 (by kernel_rfl)
  have hb5_:=hall 5 (by kernel_rfl)
  have hb6_:=hall 6 (by kernel_rfl)
  have hb8_:=hall 8 (by kernel_rfl)
  have hb9_:=hall 9 (by kernel_rfl)
  have hb10_:=hall 10 (by kernel_rfl)
  have hb12_:=hall 12 (by kernel_rfl)
  have hb13_:=hall 13 (by kernel_rfl)
  have hb15_:=hall 15 (by kernel_rfl)
  have hb16_:=hall 16 (by kernel_rfl)
  have hb18_:=hall 18 (by kernel_rfl)
  have hb19_:=hall 19 (by kernel_rfl)
  have hb21_:=hall 21 (by kernel_rfl)
  have hb22_:=hall 22 (by kernel_rfl)
  have hb23_:=hall 23 (by kernel_rfl)
  have hb24_:=hall 24 (by kernel_rfl)
  have hb25_:=hall 25 (by kernel_rfl)
  have hb26_:=hall 26 (by kernel_rfl)
  have hb27_:=hall 27 (by kernel_rfl)
  have hb28_:=hall 28 (by kernel_rfl)
  have hb29_:=hall 29 (by kernel_rfl)
  subst ha
  obtain rfl:=Q_X24_ hb24_
  obtain rfl:=Q_X25_ hb25_
  obtain rfl:=Q_X26_ hb26_
  obtain rfl:=Q_X28_ hb28_
  simp only [putSel,hb0_,hb2_,hb3_,hb5_,hb6_,hb8_,hb9_,hb10_,hb12_,hb13_,hb15_,hb16_,hb18_,hb19_,hb21_,hb22_,hb23_,hb24_,hb25_,hb26_,hb27_,hb28_,hb29_,if_true,Act.put,List.setIfInBounds_toArray,List.set_cons_zero,List.set_cons_succ]
  have BK267:=zm Q_BK267
  clear Q_BK267
  have HB:=zm Q_HB
  clear Q_HB
  have HO271:=zm (Q_HO271 hb0_)
  clear Q_HO271
  have HO274:=zm (Q_HO274 hb23_)
  clear Q_HO274
  have HO278:=zm (Q_HO278 hb24_)
  clear Q_HO278 hall hb0_ hb2_ hb3_ hb5_ hb6_ hb8_ hb9_ hb10_ hb12_ hb13_ hb15_ hb16_ hb18_ hb19_ hb21_ hb22_ hb23_ hb24_ hb25_ hb26_ hb27_ hb28_ hb29_
  try go_wp2
  go_loopg [5,7] k (fun kq v5 v7 w'=>∃ (x5_1:List Int) (x7_1:Int),v7=.int .i64 x7_1∧Aside0 (slipwayref14_Encode.l0 kq x5_1 x7_1 a0_0 a0_1 a0_2 a0_3 a0_4 a0_5 l0_6=some (r1,r2))∧Aside0 (kq≤k)∧Aside0 (Kd.R (Kd.int .u8) 5 w' w.heap.size (fun _=>True) v5 x5_1)∧Aside0 (w'.heap[gb267]?=some (.cells #[.int .i64 a0_0,.int .i64 a0_1,.int .i64 a0_2,.int .i64 a0_3,.int .i64 a0_4,.int .i64 a0_5,(.slice A0_6 l0_6.length c0_6)] 24 (0,0)))∧Aside0 (Below w.heap.size w w'))
  case atStart=>exact ⟨(t275),(0),zs_,H',⟨Nat.le_refl _⟩,⟨by (with_reducible repeat (first|apply zrA|apply zrN|apply zrD));exact HO278.out⟩,⟨zx_⟩,⟨zb_⟩⟩
  case round =>
   clear H'
   try clear c1
   try clear c2
   try clear p2
   try clear c3
   try clear c3b0
   try clear c3b1
   try clear c4
   try clear c5
   try clear c6
   try clear c12
   try clear c15
   try clear hcz7_0
   try clear hcz7_1
   try clear hcz7_2
   try clear hcz7_3
   try clear hcz7_4
   try clear hcz7_5
   try clear hcz7_6
   try clear hfz7_0
   try clear hfz7_1
   try clear hfz7_2
   try clear hfz7_3
   try clear hfz7_4
   try clear hfz7_5
   try clear hfz7_6
   obtain ⟨x5_1,x7_1,rfl,HA,HK1,HO_5,BK267,HB⟩:=hrel
   cases gk with
   | zero=>exact absurd HA.out (by simp [slipwayref14_Encode.l0])
   | succ k1 =>
    have H:=HA.out
    clear HA
    simp only [slipwayref14_Encode.l0] at H
    by_cases c17:x7_1 < (l0_6.length:Int)
    ·rw [if_pos c17] at H
     have c17b0:decide (x7_1 < (l0_6.length:Int))=true:=decide_eq_true c17
     clear c17
     replace H:=Option.bind_eq_some_iff.mp H
     obtain ⟨t279,A180,H⟩:=H
     replace H:(if 0≤x7_1 then ((slipwayref01_Pack.f k1 t279 (([IntKind.u64.wrap ((rd_T51 l0_6 x7_1).f0),IntKind.u64.wrap ((rd_T51 l0_6 x7_1).f1),IntKind.u64.wrap ((rd_T51 l0_6 x7_1).f2)]:List Int))).bind fun bt288=>(if x5_1.length + bt288.1.length < 140737488355328 then (slipwayref14_Encode.l0 k1 (x5_1 ++ bt288.1) (wrap64 (x7_1 + 1)) a0_0 a0_1 a0_2 a0_3 a0_4 a0_5 l0_6) else (none))) else (none))=some (r1,r2):=H
     have A18:=zm A180
     clear A180
     by_cases c19:0≤x7_1
     ·rw [if_pos c19] at H
      have c19b0:decide (0≤x7_1)=true:=decide_eq_true c19
      clear c19
      obtain ⟨y285,hy285⟩:∃ y_:List Int,y_=(([IntKind.u64.wrap ((rd_T51 l0_6 x7_1).f0),IntKind.u64.wrap ((rd_T51 l0_6 x7_1).f1),IntKind.u64.wrap ((rd_T51 l0_6 x7_1).f2)]:List Int)):=⟨_,rfl⟩
      replace H:((slipwayref01_Pack.f k1 t279 y285).bind fun bt288=>(if x5_1.length + bt288.1.length < 140737488355328 then (slipwayref14_Encode.l0 k1 (x5_1 ++ bt288.1) (wrap64 (x7_1 + 1)) a0_0 a0_1 a0_2 a0_3 a0_4 a0_5 l0_6) else (none)))=some (r1,r2):=by first|(rw [hy285];with_reducible exact H)|(have H2_:=(Option.bind_some _ _).symm.trans H;rw [hy285];with_reducible exact H2_)|(have H2_:=(Option.bind_some _ _).symm.trans H;with_reducible exact H2_)|with_reducible exact H|(rw [hy285];exact H)|exact H
      have Ny285:=zm hy285
      clear hy285
      replace H:=Option.bind_eq_some_iff.mp H
      obtain ⟨⟨t288,t289⟩,A200,H⟩:=H
      replace H:(if x5_1.length + t288.length < 140737488355328 then (slipwayref14_Encode.l0 k1 (x5_1 ++ t288) (wrap64 (x7_1 + 1)) a0_0 a0_1 a0_2 a0_3 a0_4 a0_5 l0_6) else (none))=some (r1,r2):=H
      have A20:=zm A200
      clear A200
      by_cases c21:x5_1.length + t288.length < 140737488355328
      ·rw [if_pos c21] at H
       have LMc21:=zm c21
       clear c21
       obtain ⟨y292,hy292⟩:∃ y_:List Int,y_=(x5_1 ++ t288):=⟨_,rfl⟩
       replace H:(slipwayref14_Encode.l0 k1 y292 (wrap64 (x7_1 + 1)) a0_0 a0_1 a0_2 a0_3 a0_4 a0_5 l0_6)=some (r1,r2):=by first|(rw [hy292];with_reducible exact H)|(have H2_:=(Option.bind_some _ _).symm.trans H;rw [hy292];with_reducible exact H2_)|(have H2_:=(Option.bind_some _ _).symm.trans H;with_reducible exact H2_)|with_reducible exact H|(rw [hy292];exact H)|exact H
       have Ny292:=zm hy292
       clear hy292
       have H':=zm H
       clear H
       obtain ⟨hcz22_0,hcz22_1,hcz22_2,hcz22_3,hcz22_4,hcz22_5,hcz22_6,hfz22_0,hfz22_1,hfz22_2,hfz22_3,hfz22_4,hfz22_5,hfz22_6⟩:=zc7 BK267.out
       try go_wp2
       have n0_:=zm (zrD HO_5.out)
       have n1_:=zm (zbD BK267.out)
       have n2_:=zm (zlD HB.out)
       clear HO_5 BK267 HB
       have HO_5:=n0_
       have BK267:=n1_
       have HB:=n2_
       clear n0_ n1_ n2_
       have p282:0≤(x7_1:Int):=za_
       have q282:x7_1 < (l0_6.length:Int):=za_
       obtain ⟨ad282,e282,hx282_0,hx282_1,hx282_2⟩:=at_T51 HR0_6.out x7_1 p282 q282
       have hw282_2:=hx282_2
       have hw282_1:=hx282_1
       have hw282_0:=hx282_0
       cases e282
       replace hx282_0:=zhx HB hx282_0
       replace hx282_1:=zhx HB hx282_1
       replace hx282_2:=zhx HB hx282_2
       replace p282:=eq_true p282
       replace q282:=eq_true q282
       have p283:0≤(x7_1:Int):=za_
       have q283:x7_1 < (l0_6.length:Int):=za_
       obtain ⟨ad283,e283,hx283_0,hx283_1,hx283_2⟩:=at_T51 HR0_6.out x7_1 p283 q283
       have hw283_2:=hx283_2
       have hw283_1:=hx283_1
       have hw283_0:=hx283_0
       obtain rfl:ad282=ad283:=(by injection e283)
       replace hx283_0:=zhx HB hx283_0
       replace hx283_1:=zhx HB hx283_1
       replace hx283_2:=zhx HB hx283_2
       replace p283:=eq_true p283
       replace q283:=eq_true q283
       have p284:0≤(x7_1:Int):=za_
       have q284:x7_1 < (l0_6.length:Int):=za_
       obtain ⟨ad284,e284,hx284_0,hx284_1,hx284_2⟩:=at_T51 HR0_6.out x7_1 p284 q284
       have hw284_2:=hx284_2
       have hw284_1:=hx284_1
       have hw284_0:=hx284_0
       obtain rfl:ad282=ad284:=(by injection e284)
       replace hx284_0:=zhx HB hx284_0
       replace hx284_1:=zhx HB hx284_1
       replace hx284_2:=zhx HB hx284_2
       replace p284:=eq_true p284
       replace q284:=eq_true q284
       refine start_ (n:=29) (S:=fun w'=>True) (ds:=[]) (Array.replicate 29 false) (by kernel_rfl) rfl rfl trivial (fun hHeld=>?_);refine with_tabW slipwayref14_Encode.tab8 slipwayref14_Encode.bits8 (fun HT_ HW_=>?_)
       generalize wr.drew=w23 at HO_5 BK267 HB hx282_0 hx282_1 hx282_2 hx283_0 hx283_1 hx283_2 hx284_0 hx284_1 hx284_2 hHeld ⊢
       refine zpu 1 ?_
       refine zpu 3 ?_
       refine zpu 8 ?_
       refine zpu 10 ?_
       refine zpu 15 ?_
       refine zpu 17 ?_
       refine inv_at [0,2,4,5,6,7,9,11,12,13,14,16,18,19,20,21,22,23,24,25,26,27,28] (fun a0_ b a w'=>∃ (v280:Value) (v286:Value) (v290:Value) (m23_:Value) (m24_:Value) (m25_:Value) (m27_:Value),a=putSel a0_ b [(0,51,v280),(2,53,.slice (some ad282) l0_6.length c0_6),(4,55,.pointer (some (ad282.add ((x7_1).toNat * 3)))),(5,56,.pointer (some (ad282.add ((x7_1).toNat * 3)))),(6,57,.int .i64 ((rd_T51 l0_6 x7_1).f0)),(7,58,.int .u64 (IntKind.u64.wrap ((rd_T51 l0_6 x7_1).f0))),(9,60,.slice (some ad282) l0_6.length c0_6),(11,62,.pointer (some (ad282.add ((x7_1).toNat * 3)))),(12,63,.pointer (some ⟨(ad282.add ((x7_1).toNat * 3)).block,(ad282.add ((x7_1).toNat * 3)).off + 1,none⟩)),(13,64,.int .i64 ((rd_T51 l0_6 x7_1).f1)),(14,65,.int .u64 (IntKind.u64.wrap ((rd_T51 l0_6 x7_1).f1))),(16,67,.slice (some ad282) l0_6.length c0_6),(18,69,.pointer (some (ad282.add ((x7_1).toNat * 3)))),(19,70,.pointer (some ⟨(ad282.add ((x7_1).toNat * 3)).block,(ad282.add ((x7_1).toNat * 3)).off + 2,none⟩)),(20,71,.int .i64 ((rd_T51 l0_6 x7_1).f2)),(21,72,.int .u64 (IntKind.u64.wrap ((rd_T51 l0_6 x7_1).f2))),(22,73,v286),(23,74,m23_),(24,50,m24_),(25,75,m25_),(26,76,.int .i64 t289),(27,8,m27_),(28,9,.int .i64 t289)]∧(Kd.R (Kd.int .u8) 5 w' w.heap.size (fun k_=>some k_≠(v290:Value).ownBlock) u5 x5_1)∧(w'.heap[gb267]?=some (.cells #[.int .i64 a0_0,.int .i64 a0_1,.int .i64 a0_2,.int .i64 a0_3,.int .i64 a0_4,.int .i64 a0_5,.slice (some ad282) l0_6.length c0_6] 24 (0,0)))∧(Below w.heap.size w w')∧(b 0=true → Kd.R (Kd.int .i64) 3 w' w.heap.size (fun _=>True) v280 t279)∧(b 22=true → Kd.R (Kd.int .u64) 58 w' w.heap.size (fun _=>True) v286 y285)∧(b 23=true → Kd.R (Kd.int .u8) 5 w' w.heap.size (fun k_=>some k_≠(u5:Value).ownBlock) v290 t288)∧(b 23=true → (m23_:Value)=.tuple #[v290,.int .i64 t289])∧(b 24=true → (m24_:Value)=.tuple #[v290,.int .i64 t289])∧(b 25=true → (m25_:Value)=v290)∧(b 27=true → (m27_:Value)=v290)) HT_.out HW_.out (by kernel_rfl) (by kernel_rfl) ?_ ?_ ?_
       ·exact ⟨.bool false,.bool false,.bool false,.bool false,.bool false,.bool false,.bool false,by simp only [putSel,Bool.false_eq_true,if_false],Kd.R_mono HO_5.out (fun _ _=>by simp [Value.ownBlock]),BK267.out,HB.out,fun h_=>absurd h_ (by decide),fun h_=>absurd h_ (by decide),fun h_=>absurd h_ (by decide),fun h_=>absurd h_ (by decide),fun h_=>absurd h_ (by decide),fun h_=>absurd h_ (by decide),fun h_=>absurd h_ (by decide)⟩
       ·skip
        clear BK267 HB HO_5
        refine steps_cons ?_ ?_
        ·rintro b a w' ⟨v280,v286,v290,m23_,m24_,m25_,m27_,ha,Q_HO_5,Q_BK267,Q_HB,Q_HO281,Q_HO287,Q_HO291,Q_X23_,Q_X24_,Q_X25_,Q_X27_⟩ hb_ hon hoff
         refine ⟨_,rfl,fun K hK=>?_⟩
         replace ha:=zm ha
         have HO_5:=zm Q_HO_5
         have BK267:=zm Q_BK267
         have HB:=zm Q_HB
         refine goes_ Try.func37 (by kernel_rfl) rfl #[] (by rfl) rfl rfl (by first|(simp only [List.map_toArray,List.map_cons,List.map_nil,Act.eval,Array.getD_eq_getD_getElem?,Option.getD_some];done)|(simp only [List.map_toArray,List.map_cons,List.map_nil,Act.eval,Array.getD_eq_getD_getElem?,Option.getD_some];rfl)) ?_
         with_reducible refine (slipwayref14_rootWidths.calls  t279 _ A18.out).mono ?_
         rintro e w24 ⟨v280,rfl,ho0,hb⟩
         refine ⟨_,rfl,?_⟩
         have n0_:=zm (Kd.R_below (by (with_reducible repeat (first|apply zrA|apply zrN|apply zrD));exact HO_5.out) hb)
         have n1_:=zm (Kd.R_lower ho0 (below_size (zb_)))
         have n2_:=zkB BK267 hb
         have n3_:=zkH HB hb
         have z_HO287:=fun (h0_:b 22=true)=>(show Kd.R (Kd.int .u64) 58 w24 w.heap.size (fun _=>True) v286 y285 from by first|exact (Kd.R_below (by (with_reducible repeat (first|apply zrA|apply zrN|apply zrD));exact (Q_HO287 h0_)) hb)|exact Kd.R_mono (Kd.R_below (by (with_reducible repeat (first|apply zrA|apply zrN|apply zrD));exact (Q_HO287 h0_)) hb) (fun _ h_=>by first|trivial|exact h_|exact h_.1))
         clear HO_5 BK267 HB
         have HO_5:=n0_
         have HO281:=n1_
         have BK267:=n2_
         have HB:=n3_
         clear n0_ n1_ n2_ n3_
         (try clear hb)
         (try clear hb2)
         (try clear hk)
         (try clear hi)
         (try clear ho0)
         refine hK.out _ _ ⟨v280,v286,v290,m23_,m24_,m25_,m27_,(by rw [ha.out];exact putSel_upk 0 hb_ rfl rfl rfl),(by (with_reducible repeat (first|apply zrA|apply zrN|apply zrD));exact HO_5.out),zx_,(zb_),fun _=>(by (with_reducible repeat (first|apply zrA|apply zrN|apply zrD));exact HO281.out),z_HO287,fun h0_=>absurd ((hoff 23 (by kernel_rfl)).symm.trans h0_) (by decide),fun h0_=>absurd ((hoff 23 (by kernel_rfl)).symm.trans h0_) (by decide),fun h0_=>absurd ((hoff 24 (by kernel_rfl)).symm.trans h0_) (by decide),fun h0_=>absurd ((hoff 25 (by kernel_rfl)).symm.trans h0_) (by decide),fun h0_=>absurd ((hoff 27 (by kernel_rfl)).symm.trans h0_) (by decide)⟩
        refine steps_cons ?_ ?_
        ·rintro b a w' ⟨v280,v286,v290,m23_,m24_,m25_,m27_,ha,Q_HO_5,Q_BK267,Q_HB,Q_HO281,Q_HO287,Q_HO291,Q_X23_,Q_X24_,Q_X25_,Q_X27_⟩ hb_ hon hoff
         refine ⟨_,rfl,fun K hK=>?_⟩
         have e52:a.tmps[52]?=some (.pointer (some ⟨gb267,6,none⟩)):=by rw [ha];exact (putSel_off rfl).trans rfl
         replace ha:=zm ha
         have HO_5:=zm Q_HO_5
         have BK267:=zm Q_BK267
         have HB:=zm Q_HB
         have hc0_:w'.cell? ⟨gb267,0,none⟩=some (.int .i64 a0_0):=(blk_cell BK267.out 0).trans rfl
         have hc1_:w'.cell? ⟨gb267,1,none⟩=some (.int .i64 a0_1):=(blk_cell BK267.out 1).trans rfl
         have hc2_:w'.cell? ⟨gb267,2,none⟩=some (.int .i64 a0_2):=(blk_cell BK267.out 2).trans rfl
         have hc3_:w'.cell? ⟨gb267,3,none⟩=some (.int .i64 a0_3):=(blk_cell BK267.out 3).trans rfl
         have hc4_:w'.cell? ⟨gb267,4,none⟩=some (.int .i64 a0_4):=(blk_cell BK267.out 4).trans rfl
         have hc5_:w'.cell? ⟨gb267,5,none⟩=some (.int .i64 a0_5):=(blk_cell BK267.out 5).trans rfl
         have hc6_:w'.cell? ⟨gb267,6,none⟩=some (.slice (some ad282) l0_6.length c0_6):=(blk_cell BK267.out 6).trans rfl
         refine value_ (w1:=w') (v:=.slice (some ad282) l0_6.length c0_6) (by rfl) rfl ?_ ?_
         ·go_simp
          (try simp only [i64_w])
          try rfl
         refine hK.out _ _ ⟨v280,v286,v290,m23_,m24_,m25_,m27_,(by rw [ha.out];exact putSel_upk 1 hb_ rfl rfl rfl),Q_HO_5,Q_BK267,Q_HB,Q_HO281,fun h0_=>absurd ((hoff 22 (by kernel_rfl)).symm.trans h0_) (by decide),fun h0_=>absurd ((hoff 23 (by kernel_rfl)).symm.trans h0_) (by decide),fun h0_=>absurd ((hoff 23 (by kernel_rfl)).symm.trans h0_) (by decide),fun h0_=>absurd ((hoff 24 (by kernel_rfl)).symm.trans h0_) (by decide),fun h0_=>absurd ((hoff 25 (by kernel_rfl)).symm.trans h0_) (by decide),fun h0_=>absurd ((hoff 27 (by kernel_rfl)).symm.trans h0_) (by decide)⟩
        refine steps_cons ?_ ?_
        ·rintro b a w' ⟨v280,v286,v290,m23_,m24_,m25_,m27_,ha,Q_HO_5,Q_BK267,Q_HB,Q_HO281,Q_HO287,Q_HO291,Q_X23_,Q_X24_,Q_X25_,Q_X27_⟩ hb_ hon hoff
         refine ⟨_,rfl,fun K hK=>?_⟩
         have e53:a.tmps[53]?=some (.slice (some ad282) l0_6.length c0_6):=by rw [ha];exact putSel_on (e:=(2,53,.slice (some ad282) l0_6.length c0_6)) 1 rfl rfl (hon 2 (by kernel_rfl)) rfl
         have e54:a.tmps[54]?=some (.int .i64 x7_1):=by rw [ha];exact (putSel_off rfl).trans rfl
         replace ha:=zm ha
         have HO_5:=zm Q_HO_5
         have BK267:=zm Q_BK267
         have HB:=zm Q_HB
         have hs0_:w'.cell? (ad282.add ((x7_1).toNat * 3))=some (.int .i64 ((rd_T51 l0_6 x7_1).f0)):=(zhx HB hw282_0)
         have hs1_:w'.cell? ⟨(ad282.add ((x7_1).toNat * 3)).block,(ad282.add ((x7_1).toNat * 3)).off + 1,none⟩=some (.int .i64 ((rd_T51 l0_6 x7_1).f1)):=(zhx HB hw282_1)
         have hs2_:w'.cell? ⟨(ad282.add ((x7_1).toNat * 3)).block,(ad282.add ((x7_1).toNat * 3)).off + 2,none⟩=some (.int .i64 ((rd_T51 l0_6 x7_1).f2)):=(zhx HB hw282_2)
         refine value_ (w1:=w') (v:=.pointer (some (ad282.add ((x7_1).toNat * 3)))) (by rfl) rfl ?_ ?_
         ·go_simp
          (try simp only [i64_w])
          try rfl
         refine hK.out _ _ ⟨v280,v286,v290,m23_,m24_,m25_,m27_,(by rw [ha.out];exact putSel_upk 2 hb_ rfl rfl rfl),Q_HO_5,Q_BK267,Q_HB,Q_HO281,fun h0_=>absurd ((hoff 22 (by kernel_rfl)).symm.trans h0_) (by decide),fun h0_=>absurd ((hoff 23 (by kernel_rfl)).symm.trans h0_) (by decide),fun h0_=>absurd ((hoff 23 (by kernel_rfl)).symm.trans h0_) (by decide),fun h0_=>absurd ((hoff 24 (by kernel_rfl)).symm.trans h0_) (by decide),fun h0_=>absurd ((hoff 25 (by kernel_rfl)).symm.trans h0_) (by decide),fun h0_=>absurd ((hoff 27 (by kernel_rfl)).symm.trans h0_) (by decide)⟩
        refine steps_cons ?_ ?_
        ·rintro b a w' ⟨v280,v286,v290,m23_,m24_,m25_,m27_,ha,Q_HO_5,Q_BK267,Q_HB,Q_HO281,Q_HO287,Q_HO291,Q_X23_,Q_X24_,Q_X25_,Q_X27_⟩ hb_ hon hoff
         refine ⟨_,rfl,fun K hK=>?_⟩
         have e55:a.tmps[55]?=some (.pointer (some (ad282.add ((x7_1).toNat * 3)))):=by rw [ha];exact putSel_on (e:=(4,55,.pointer (some (ad282.add ((x7_1).toNat * 3))))) 2 rfl rfl (hon 4 (by kernel_rfl)) rfl
         replace ha:=zm ha
         have HO_5:=zm Q_HO_5
         have BK267:=zm Q_BK267
         have HB:=zm Q_HB
         refine value_ (w1:=w') (v:=.pointer (some (ad282.add ((x7_1).toNat * 3)))) (by rfl) rfl ?_ ?_
         ·go_simp
          (try simp only [i64_w])
          try rfl
         refine hK.out _ _ ⟨v280,v286,v290,m23_,m24_,m25_,m27_,(by rw [ha.out];exact putSel_upk 3 hb_ rfl rfl rfl),Q_HO_5,Q_BK267,Q_HB,Q_HO281,fun h0_=>absurd ((hoff 22 (by kernel_rfl)).symm.trans h0_) (by decide),fun h0_=>absurd ((hoff 23 (by kernel_rfl)).symm.trans h0_) (by decide),fun h0_=>absurd ((hoff 23 (by kernel_rfl)).symm.trans h0_) (by decide),fun h0_=>absurd ((hoff 24 (by kernel_rfl)).symm.trans h0_) (by decide),fun h0_=>absurd ((hoff 25 (by kernel_rfl)).symm.trans h0_) (by decide),fun h0_=>absurd ((hoff 27 (by kernel_rfl)).symm.trans h0_) (by decide)⟩
        refine steps_cons ?_ ?_
        ·rintro b a w' ⟨v280,v286,v290,m23_,m24_,m25_,m27_,ha,Q_HO_5,Q_BK267,Q_HB,Q_HO281,Q_HO287,Q_HO291,Q_X23_,Q_X24_,Q_X25_,Q_X27_⟩ hb_ hon hoff
         refine ⟨_,rfl,fun K hK=>?_⟩
         have e56:a.tmps[56]?=some (.pointer (some (ad282.add ((x7_1).toNat * 3)))):=by rw [ha];exact putSel_on (e:=(5,56,.pointer (some (ad282.add ((x7_1).toNat * 3))))) 3 rfl rfl (hon 5 (by kernel_rfl)) rfl
         replace ha:=zm ha
         have HO_5:=zm Q_HO_5
         have BK267:=zm Q_BK267
         have HB:=zm Q_HB
         have hs0_:w'.cell? (ad282.add ((x7_1).toNat * 3))=some (.int .i64 ((rd_T51 l0_6 x7_1).f0)):=(zhx HB hw282_0)
         have hs1_:w'.cell? ⟨(ad282.add ((x7_1).toNat * 3)).block,(ad282.add ((x7_1).toNat * 3)).off + 1,none⟩=some (.int .i64 ((rd_T51 l0_6 x7_1).f1)):=(zhx HB hw282_1)
         have hs2_:w'.cell? ⟨(ad282.add ((x7_1).toNat * 3)).block,(ad282.add ((x7_1).toNat * 3)).off + 2,none⟩=some (.int .i64 ((rd_T51 l0_6 x7_1).f2)):=(zhx HB hw282_2)
         refine value_ (w1:=w') (v:=.int .i64 ((rd_T51 l0_6 x7_1).f0)) (by rfl) rfl ?_ ?_
         ·go_simp
          (try simp only [i64_w])
          try rfl
         refine hK.out _ _ ⟨v280,v286,v290,m23_,m24_,m25_,m27_,(by rw [ha.out];exact putSel_upk 4 hb_ rfl rfl rfl),Q_HO_5,Q_BK267,Q_HB,Q_HO281,fun h0_=>absurd ((hoff 22 (by kernel_rfl)).symm.trans h0_) (by decide),fun h0_=>absurd ((hoff 23 (by kernel_rfl)).symm.trans h0_) (by decide),fun h0_=>absurd ((hoff 23 (by kernel_rfl)).symm.trans h0_) (by decide),fun h0_=>absurd ((hoff 24 (by kernel_rfl)).symm.trans h0_) (by decide),fun h0_=>absurd ((hoff 25 (by kernel_rfl)).symm.trans h0_) (by decide),fun h0_=>absurd ((hoff 27 (by kernel_rfl)).symm.trans h0_) (by decide)⟩
        refine steps_cons ?_ ?_
        ·rintro b a w' ⟨v280,v286,v290,m23_,m24_,m25_,m27_,ha,Q_HO_5,Q_BK267,Q_HB,Q_HO281,Q_HO287,Q_HO291,Q_X23_,Q_X24_,Q_X25_,Q_X27_⟩ hb_ hon hoff
         refine ⟨_,rfl,fun K hK=>?_⟩
         have e57:a.tmps[57]?=some (.int .i64 ((rd_T51 l0_6 x7_1).f0)):=by rw [ha];exact putSel_on (e:=(6,57,.int .i64 ((rd_T51 l0_6 x7_1).f0))) 4 rfl rfl (hon 6 (by kernel_rfl)) rfl
         replace ha:=zm ha
         have HO_5:=zm Q_HO_5
         have BK267:=zm Q_BK267
         have HB:=zm Q_HB
         refine value_ (w1:=w') (v:=.int .u64 (IntKind.u64.wrap ((rd_T51 l0_6 x7_1).f0))) (by rfl) rfl ?_ ?_
         ·go_simp
          (try simp only [i64_w])
          try rfl
         refine hK.out _ _ ⟨v280,v286,v290,m23_,m24_,m25_,m27_,(by rw [ha.out];exact putSel_upk 5 hb_ rfl rfl rfl),Q_HO_5,Q_BK267,Q_HB,Q_HO281,fun h0_=>absurd ((hoff 22 (by kernel_rfl)).symm.trans h0_) (by decide),fun h0_=>absurd ((hoff 23 (by kernel_rfl)).symm.trans h0_) (by decide),fun h0_=>absurd ((hoff 23 (by kernel_rfl)).symm.trans h0_) (by decide),fun h0_=>absurd ((hoff 24 (by kernel_rfl)).symm.trans h0_) (by decide),fun h0_=>absurd ((hoff 25 (by kernel_rfl)).symm.trans h0_) (by decide),fun h0_=>absurd ((hoff 27 (by kernel_rfl)).symm.trans h0_) (by decide)⟩
        refine steps_cons ?_ ?_
        ·rintro b a w' ⟨v280,v286,v290,m23_,m24_,m25_,m27_,ha,Q_HO_5,Q_BK267,Q_HB,Q_HO281,Q_HO287,Q_HO291,Q_X23_,Q_X24_,Q_X25_,Q_X27_⟩ hb_ hon hoff
         refine ⟨_,rfl,fun K hK=>?_⟩
         have e59:a.tmps[59]?=some (.pointer (some ⟨gb267,6,none⟩)):=by rw [ha];exact (putSel_off rfl).trans rfl
         replace ha:=zm ha
         have HO_5:=zm Q_HO_5
         have BK267:=zm Q_BK267
         have HB:=zm Q_HB
         have hc0_:w'.cell? ⟨gb267,0,none⟩=some (.int .i64 a0_0):=(blk_cell BK267.out 0).trans rfl
         have hc1_:w'.cell? ⟨gb267,1,none⟩=some (.int .i64 a0_1):=(blk_cell BK267.out 1).trans rfl
         have hc2_:w'.cell? ⟨gb267,2,none⟩=some (.int .i64 a0_2):=(blk_cell BK267.out 2).trans rfl
         have hc3_:w'.cell? ⟨gb267,3,none⟩=some (.int .i64 a0_3):=(blk_cell BK267.out 3).trans rfl
         have hc4_:w'.cell? ⟨gb267,4,none⟩=some (.int .i64 a0_4):=(blk_cell BK267.out 4).trans rfl
         have hc5_:w'.cell? ⟨gb267,5,none⟩=some (.int .i64 a0_5):=(blk_cell BK267.out 5).trans rfl
         have hc6_:w'.cell? ⟨gb267,6,none⟩=some (.slice (some ad282) l0_6.length c0_6):=(blk_cell BK267.out 6).trans rfl
         refine value_ (w1:=w') (v:=.slice (some ad282) l0_6.length c0_6) (by rfl) rfl ?_ ?_
         ·go_simp
          (try simp only [i64_w])
          try rfl
         refine hK.out _ _ ⟨v280,v286,v290,m23_,m24_,m25_,m27_,(by rw [ha.out];exact putSel_upk 6 hb_ rfl rfl rfl),Q_HO_5,Q_BK267,Q_HB,Q_HO281,fun h0_=>absurd ((hoff 22 (by kernel_rfl)).symm.trans h0_) (by decide),fun h0_=>absurd ((hoff 23 (by kernel_rfl)).symm.trans h0_) (by decide),fun h0_=>absurd ((hoff 23 (by kernel_rfl)).symm.trans h0_) (by decide),fun h0_=>absurd ((hoff 24 (by kernel_rfl)).symm.trans h0_) (by decide),fun h0_=>absurd ((hoff 25 (by kernel_rfl)).symm.trans h0_) (by decide),fun h0_=>absurd ((hoff 27 (by kernel_rfl)).symm.trans h0_) (by decide)⟩
        refine steps_cons ?_ ?_
        ·rintro b a w' ⟨v280,v286,v290,m23_,m24_,m25_,m27_,ha,Q_HO_5,Q_BK267,Q_HB,Q_HO281,Q_HO287,Q_HO291,Q_X23_,Q_X24_,Q_X25_,Q_X27_⟩ hb_ hon hoff
         refine ⟨_,rfl,fun K hK=>?_⟩
         have e60:a.tmps[60]?=some (.slice (some ad282) l0_6.length c0_6):=by rw [ha];exact putSel_on (e:=(9,60,.slice (some ad282) l0_6.length c0_6)) 6 rfl rfl (hon 9 (by kernel_rfl)) rfl
         have e61:a.tmps[61]?=some (.int .i64 x7_1):=by rw [ha];exact (putSel_off rfl).trans rfl
         replace ha:=zm ha
         have HO_5:=zm Q_HO_5
         have BK267:=zm Q_BK267
         have HB:=zm Q_HB
         have hs3_:w'.cell? (ad282.add ((x7_1).toNat * 3))=some (.int .i64 ((rd_T51 l0_6 x7_1).f0)):=(zhx HB hw283_0)
         have hs4_:w'.cell? ⟨(ad282.add ((x7_1).toNat * 3)).block,(ad282.add ((x7_1).toNat * 3)).off + 1,none⟩=some (.int .i64 ((rd_T51 l0_6 x7_1).f1)):=(zhx HB hw283_1)
         have hs5_:w'.cell? ⟨(ad282.add ((x7_1).toNat * 3)).block,(ad282.add ((x7_1).toNat * 3)).off + 2,none⟩=some (.int .i64 ((rd_T51 l0_6 x7_1).f2)):=(zhx HB hw283_2)
         refine value_ (w1:=w') (v:=.pointer (some (ad282.add ((x7_1).toNat * 3)))) (by rfl) rfl ?_ ?_
         ·go_simp
          (try simp only [i64_w])
          try rfl
         refine hK.out _ _ ⟨v280,v286,v290,m23_,m24_,m25_,m27_,(by rw [ha.out];exact putSel_upk 7 hb_ rfl rfl rfl),Q_HO_5,Q_BK267,Q_HB,Q_HO281,fun h0_=>absurd ((hoff 22 (by kernel_rfl)).symm.trans h0_) (by decide),fun h0_=>absurd ((hoff 23 (by kernel_rfl)).symm.trans h0_) (by decide),fun h0_=>absurd ((hoff 23 (by kernel_rfl)).symm.trans h0_) (by decide),fun h0_=>absurd ((hoff 24 (by kernel_rfl)).symm.trans h0_) (by decide),fun h0_=>absurd ((hoff 25 (by kernel_rfl)).symm.trans h0_) (by decide),fun h0_=>absurd ((hoff 27 (by kernel_rfl)).symm.trans h0_) (by decide)⟩
        refine steps_cons ?_ ?_
        ·rintro b a w' ⟨v280,v286,v290,m23_,m24_,m25_,m27_,ha,Q_HO_5,Q_BK267,Q_HB,Q_HO281,Q_HO287,Q_HO291,Q_X23_,Q_X24_,Q_X25_,Q_X27_⟩ hb_ hon hoff
         refine ⟨_,rfl,fun K hK=>?_⟩
         have e62:a.tmps[62]?=some (.pointer (some (ad282.add ((x7_1).toNat * 3)))):=by rw [ha];exact putSel_on (e:=(11,62,.pointer (some (ad282.add ((x7_1).toNat * 3))))) 7 rfl rfl (hon 11 (by kernel_rfl)) rfl
         replace ha:=zm ha
         have HO_5:=zm Q_HO_5
         have BK267:=zm Q_BK267
         have HB:=zm Q_HB
         refine value_ (w1:=w') (v:=.pointer (some ⟨(ad282.add ((x7_1).toNat * 3)).block,(ad282.add ((x7_1).toNat * 3)).off + 1,none⟩)) (by rfl) rfl ?_ ?_
         ·go_simp
          (try simp only [i64_w])
          try rfl
         refine hK.out _ _ ⟨v280,v286,v290,m23_,m24_,m25_,m27_,(by rw [ha.out];exact putSel_upk 8 hb_ rfl rfl rfl),Q_HO_5,Q_BK267,Q_HB,Q_HO281,fun h0_=>absurd ((hoff 22 (by kernel_rfl)).symm.trans h0_) (by decide),fun h0_=>absurd ((hoff 23 (by kernel_rfl)).symm.trans h0_) (by decide),fun h0_=>absurd ((hoff 23 (by kernel_rfl)).symm.trans h0_) (by decide),fun h0_=>absurd ((hoff 24 (by kernel_rfl)).symm.trans h0_) (by decide),fun h0_=>absurd ((hoff 25 (by kernel_rfl)).symm.trans h0_) (by decide),fun h0_=>absurd ((hoff 27 (by kernel_rfl)).symm.trans h0_) (by decide)⟩
        refine steps_cons ?_ ?_
        ·rintro b a w' ⟨v280,v286,v290,m23_,m24_,m25_,m27_,ha,Q_HO_5,Q_BK267,Q_HB,Q_HO281,Q_HO287,Q_HO291,Q_X23_,Q_X24_,Q_X25_,Q_X27_⟩ hb_ hon hoff
         refine ⟨_,rfl,fun K hK=>?_⟩
         have e63:a.tmps[63]?=some (.pointer (some ⟨(ad282.add ((x7_1).toNat * 3)).block,(ad282.add ((x7_1).toNat * 3)).off + 1,none⟩)):=by rw [ha];exact putSel_on (e:=(12,63,.pointer (some ⟨(ad282.add ((x7_1).toNat * 3)).block,(ad282.add ((x7_1).toNat * 3)).off + 1,none⟩))) 8 rfl rfl (hon 12 (by kernel_rfl)) rfl
         replace ha:=zm ha
         have HO_5:=zm Q_HO_5
         have BK267:=zm Q_BK267
         have HB:=zm Q_HB
         have hs3_:w'.cell? (ad282.add ((x7_1).toNat * 3))=some (.int .i64 ((rd_T51 l0_6 x7_1).f0)):=(zhx HB hw283_0)
         have hs4_:w'.cell? ⟨(ad282.add ((x7_1).toNat * 3)).block,(ad282.add ((x7_1).toNat * 3)).off + 1,none⟩=some (.int .i64 ((rd_T51 l0_6 x7_1).f1)):=(zhx HB hw283_1)
         have hs5_:w'.cell? ⟨(ad282.add ((x7_1).toNat * 3)).block,(ad282.add ((x7_1).toNat * 3)).off + 2,none⟩=some (.int .i64 ((rd_T51 l0_6 x7_1).f2)):=(zhx HB hw283_2)
         refine value_ (w1:=w') (v:=.int .i64 ((rd_T51 l0_6 x7_1).f1)) (by rfl) rfl ?_ ?_
         ·go_simp
          (try simp only [i64_w])
          try rfl
         refine hK.out _ _ ⟨v280,v286,v290,m23_,m24_,m25_,m27_,(by rw [ha.out];exact putSel_upk 9 hb_ rfl rfl rfl),Q_HO_5,Q_BK267,Q_HB,Q_HO281,fun h0_=>absurd ((hoff 22 (by kernel_rfl)).symm.trans h0_) (by decide),fun h0_=>absurd ((hoff 23 (by kernel_rfl)).symm.trans h0_) (by decide),fun h0_=>absurd ((hoff 23 (by kernel_rfl)).symm.trans h0_) (by decide),fun h0_=>absurd ((hoff 24 (by kernel_rfl)).symm.trans h0_) (by decide),fun h0_=>absurd ((hoff 25 (by kernel_rfl)).symm.trans h0_) (by decide),fun h0_=>absurd ((hoff 27 (by kernel_rfl)).symm.trans h0_) (by decide)⟩
        refine steps_cons ?_ ?_
        ·rintro b a w' ⟨v280,v286,v290,m23_,m24_,m25_,m27_,ha,Q_HO_5,Q_BK267,Q_HB,Q_HO281,Q_HO287,Q_HO291,Q_X23_,Q_X24_,Q_X25_,Q_X27_⟩ hb_ hon hoff
         refine ⟨_,rfl,fun K hK=>?_⟩
         have e64:a.tmps[64]?=some (.int .i64 ((rd_T51 l0_6 x7_1).f1)):=by rw [ha];exact putSel_on (e:=(13,64,.int .i64 ((rd_T51 l0_6 x7_1).f1))) 9 rfl rfl (hon 13 (by kernel_rfl)) rfl
         replace ha:=zm ha
         have HO_5:=zm Q_HO_5
         have BK267:=zm Q_BK267
         have HB:=zm Q_HB
         refine value_ (w1:=w') (v:=.int .u64 (IntKind.u64.wrap ((rd_T51 l0_6 x7_1).f1))) (by rfl) rfl ?_ ?_
         ·go_simp
          (try simp only [i64_w])
          try rfl
         refine hK.out _ _ ⟨v280,v286,v290,m23_,m24_,m25_,m27_,(by rw [ha.out];exact putSel_upk 10 hb_ rfl rfl rfl),Q_HO_5,Q_BK267,Q_HB,Q_HO281,fun h0_=>absurd ((hoff 22 (by kernel_rfl)).symm.trans h0_) (by decide),fun h0_=>absurd ((hoff 23 (by kernel_rfl)).symm.trans h0_) (by decide),fun h0_=>absurd ((hoff 23 (by kernel_rfl)).symm.trans h0_) (by decide),fun h0_=>absurd ((hoff 24 (by kernel_rfl)).symm.trans h0_) (by decide),fun h0_=>absurd ((hoff 25 (by kernel_rfl)).symm.trans h0_) (by decide),fun h0_=>absurd ((hoff 27 (by kernel_rfl)).symm.trans h0_) (by decide)⟩
        refine steps_cons ?_ ?_
        ·rintro b a w' ⟨v280,v286,v290,m23_,m24_,m25_,m27_,ha,Q_HO_5,Q_BK267,Q_HB,Q_HO281,Q_HO287,Q_HO291,Q_X23_,Q_X24_,Q_X25_,Q_X27_⟩ hb_ hon hoff
         refine ⟨_,rfl,fun K hK=>?_⟩
         have e66:a.tmps[66]?=some (.pointer (some ⟨gb267,6,none⟩)):=by rw [ha];exact (putSel_off rfl).trans rfl
         replace ha:=zm ha
         have HO_5:=zm Q_HO_5
         have BK267:=zm Q_BK267
         have HB:=zm Q_HB
         have hc0_:w'.cell? ⟨gb267,0,none⟩=some (.int .i64 a0_0):=(blk_cell BK267.out 0).trans rfl
         have hc1_:w'.cell? ⟨gb267,1,none⟩=some (.int .i64 a0_1):=(blk_cell BK267.out 1).trans rfl
         have hc2_:w'.cell? ⟨gb267,2,none⟩=some (.int .i64 a0_2):=(blk_cell BK267.out 2).trans rfl
         have hc3_:w'.cell? ⟨gb267,3,none⟩=some (.int .i64 a0_3):=(blk_cell BK267.out 3).trans rfl
         have hc4_:w'.cell? ⟨gb267,4,none⟩=some (.int .i64 a0_4):=(blk_cell BK267.out 4).trans rfl
         have hc5_:w'.cell? ⟨gb267,5,none⟩=some (.int .i64 a0_5):=(blk_cell BK267.out 5).trans rfl
         have hc6_:w'.cell? ⟨gb267,6,none⟩=some (.slice (some ad282) l0_6.length c0_6):=(blk_cell BK267.out 6).trans rfl
         refine value_ (w1:=w') (v:=.slice (some ad282) l0_6.length c0_6) (by rfl) rfl ?_ ?_
         ·go_simp
          (try simp only [i64_w])
          try rfl
         refine hK.out _ _ ⟨v280,v286,v290,m23_,m24_,m25_,m27_,(by rw [ha.out];exact putSel_upk 11 hb_ rfl rfl rfl),Q_HO_5,Q_BK267,Q_HB,Q_HO281,fun h0_=>absurd ((hoff 22 (by kernel_rfl)).symm.trans h0_) (by decide),fun h0_=>absurd ((hoff 23 (by kernel_rfl)).symm.trans h0_) (by decide),fun h0_=>absurd ((hoff 23 (by kernel_rfl)).symm.trans h0_) (by decide),fun h0_=>absurd ((hoff 24 (by kernel_rfl)).symm.trans h0_) (by decide),fun h0_=>absurd ((hoff 25 (by kernel_rfl)).symm.trans h0_) (by decide),fun h0_=>absurd ((hoff 27 (by kernel_rfl)).symm.trans h0_) (by decide)⟩
        refine steps_cons ?_ ?_
        ·rintro b a w' ⟨v280,v286,v290,m23_,m24_,m25_,m27_,ha,Q_HO_5,Q_BK267,Q_HB,Q_HO281,Q_HO287,Q_HO291,Q_X23_,Q_X24_,Q_X25_,Q_X27_⟩ hb_ hon hoff
         refine ⟨_,rfl,fun K hK=>?_⟩
         have e67:a.tmps[67]?=some (.slice (some ad282) l0_6.length c0_6):=by rw [ha];exact putSel_on (e:=(16,67,.slice (some ad282) l0_6.length c0_6)) 11 rfl rfl (hon 16 (by kernel_rfl)) rfl
         have e68:a.tmps[68]?=some (.int .i64 x7_1):=by rw [ha];exact (putSel_off rfl).trans rfl
         replace ha:=zm ha
         have HO_5:=zm Q_HO_5
         have BK267:=zm Q_BK267
         have HB:=zm Q_HB
         have hs6_:w'.cell? (ad282.add ((x7_1).toNat * 3))=some (.int .i64 ((rd_T51 l0_6 x7_1).f0)):=(zhx HB hw284_0)
         have hs7_:w'.cell? ⟨(ad282.add ((x7_1).toNat * 3)).block,(ad282.add ((x7_1).toNat * 3)).off + 1,none⟩=some (.int .i64 ((rd_T51 l0_6 x7_1).f1)):=(zhx HB hw284_1)
         have hs8_:w'.cell? ⟨(ad282.add ((x7_1).toNat * 3)).block,(ad282.add ((x7_1).toNat * 3)).off + 2,none⟩=some (.int .i64 ((rd_T51 l0_6 x7_1).f2)):=(zhx HB hw284_2)
         refine value_ (w1:=w') (v:=.pointer (some (ad282.add ((x7_1).toNat * 3)))) (by rfl) rfl ?_ ?_
         ·go_simp
          (try simp only [i64_w])
          try rfl
         refine hK.out _ _ ⟨v280,v286,v290,m23_,m24_,m25_,m27_,(by rw [ha.out];exact putSel_upk 12 hb_ rfl rfl rfl),Q_HO_5,Q_BK267,Q_HB,Q_HO281,fun h0_=>absurd ((hoff 22 (by kernel_rfl)).symm.trans h0_) (by decide),fun h0_=>absurd ((hoff 23 (by kernel_rfl)).symm.trans h0_) (by decide),fun h0_=>absurd ((hoff 23 (by kernel_rfl)).symm.trans h0_) (by decide),fun h0_=>absurd ((hoff 24 (by kernel_rfl)).symm.trans h0_) (by decide),fun h0_=>absurd ((hoff 25 (by kernel_rfl)).symm.trans h0_) (by decide),fun h0_=>absurd ((hoff 27 (by kernel_rfl)).symm.trans h0_) (by decide)⟩
        refine steps_cons ?_ ?_
        ·rintro b a w' ⟨v280,v286,v290,m23_,m24_,m25_,m27_,ha,Q_HO_5,Q_BK267,Q_HB,Q_HO281,Q_HO287,Q_HO291,Q_X23_,Q_X24_,Q_X25_,Q_X27_⟩ hb_ hon hoff
         refine ⟨_,rfl,fun K hK=>?_⟩
         have e69:a.tmps[69]?=some (.pointer (some (ad282.add ((x7_1).toNat * 3)))):=by rw [ha];exact putSel_on (e:=(18,69,.pointer (some (ad282.add ((x7_1).toNat * 3))))) 12 rfl rfl (hon 18 (by kernel_rfl)) rfl
         replace ha:=zm ha
         have HO_5:=zm Q_HO_5
         have BK267:=zm Q_BK267
         have HB:=zm Q_HB
         refine value_ (w1:=w') (v:=.pointer (some ⟨(ad282.add ((x7_1).toNat * 3)).block,(ad282.add ((x7_1).toNat * 3)).off + 2,none⟩)) (by rfl) rfl ?_ ?_
         ·go_simp
          (try simp only [i64_w])
          try rfl
         refine hK.out _ _ ⟨v280,v286,v290,m23_,m24_,m25_,m27_,(by rw [ha.out];exact putSel_upk 13 hb_ rfl rfl rfl),Q_HO_5,Q_BK267,Q_HB,Q_HO281,fun h0_=>absurd ((hoff 22 (by kernel_rfl)).symm.trans h0_) (by decide),fun h0_=>absurd ((hoff 23 (by kernel_rfl)).symm.trans h0_) (by decide),fun h0_=>absurd ((hoff 23 (by kernel_rfl)).symm.trans h0_) (by decide),fun h0_=>absurd ((hoff 24 (by kernel_rfl)).symm.trans h0_) (by decide),fun h0_=>absurd ((hoff 25 (by kernel_rfl)).symm.trans h0_) (by decide),fun h0_=>absurd ((hoff 27 (by kernel_rfl)).symm.trans h0_) (by decide)⟩
        refine steps_cons ?_ ?_
        ·rintro b a w' ⟨v280,v286,v290,m23_,m24_,m25_,m27_,ha,Q_HO_5,Q_BK267,Q_HB,Q_HO281,Q_HO287,Q_HO291,Q_X23_,Q_X24_,Q_X25_,Q_X27_⟩ hb_ hon hoff
         refine ⟨_,rfl,fun K hK=>?_⟩
         have e70:a.tmps[70]?=some (.pointer (some ⟨(ad282.add ((x7_1).toNat * 3)).block,(ad282.add ((x7_1).toNat * 3)).off + 2,none⟩)):=by rw [ha];exact putSel_on (e:=(19,70,.pointer (some ⟨(ad282.add ((x7_1).toNat * 3)).block,(ad282.add ((x7_1).toNat * 3)).off + 2,none⟩))) 13 rfl rfl (hon 19 (by kernel_rfl)) rfl
         replace ha:=zm ha
         have HO_5:=zm Q_HO_5
         have BK267:=zm Q_BK267
         have HB:=zm Q_HB
         have hs6_:w'.cell? (ad282.add ((x7_1).toNat * 3))=some (.int .i64 ((rd_T51 l0_6 x7_1).f0)):=(zhx HB hw284_0)
         have hs7_:w'.cell? ⟨(ad282.add ((x7_1).toNat * 3)).block,(ad282.add ((x7_1).toNat * 3)).off + 1,none⟩=some (.int .i64 ((rd_T51 l0_6 x7_1).f1)):=(zhx HB hw284_1)
         have hs8_:w'.cell? ⟨(ad282.add ((x7_1).toNat * 3)).block,(ad282.add ((x7_1).toNat * 3)).off + 2,none⟩=some (.int .i64 ((rd_T51 l0_6 x7_1).f2)):=(zhx HB hw284_2)
         refine value_ (w1:=w') (v:=.int .i64 ((rd_T51 l0_6 x7_1).f2)) (by rfl) rfl ?_ ?_
         ·go_simp
          (try simp only [i64_w])
          try rfl
         refine hK.out _ _ ⟨v280,v286,v290,m23_,m24_,m25_,m27_,(by rw [ha.out];exact putSel_upk 14 hb_ rfl rfl rfl),Q_HO_5,Q_BK267,Q_HB,Q_HO281,fun h0_=>absurd ((hoff 22 (by kernel_rfl)).symm.trans h0_) (by decide),fun h0_=>absurd ((hoff 23 (by kernel_rfl)).symm.trans h0_) (by decide),fun h0_=>absurd ((hoff 23 (by kernel_rfl)).symm.trans h0_) (by decide),fun h0_=>absurd ((hoff 24 (by kernel_rfl)).symm.trans h0_) (by decide),fun h0_=>absurd ((hoff 25 (by kernel_rfl)).symm.trans h0_) (by decide),fun h0_=>absurd ((hoff 27 (by kernel_rfl)).symm.trans h0_) (by decide)⟩
        refine steps_cons ?_ ?_
        ·rintro b a w' ⟨v280,v286,v290,m23_,m24_,m25_,m27_,ha,Q_HO_5,Q_BK267,Q_HB,Q_HO281,Q_HO287,Q_HO291,Q_X23_,Q_X24_,Q_X25_,Q_X27_⟩ hb_ hon hoff
         refine ⟨_,rfl,fun K hK=>?_⟩
         have e71:a.tmps[71]?=some (.int .i64 ((rd_T51 l0_6 x7_1).f2)):=by rw [ha];exact putSel_on (e:=(20,71,.int .i64 ((rd_T51 l0_6 x7_1).f2))) 14 rfl rfl (hon 20 (by kernel_rfl)) rfl
         replace ha:=zm ha
         have HO_5:=zm Q_HO_5
         have BK267:=zm Q_BK267
         have HB:=zm Q_HB
         refine value_ (w1:=w') (v:=.int .u64 (IntKind.u64.wrap ((rd_T51 l0_6 x7_1).f2))) (by rfl) rfl ?_ ?_
         ·go_simp
          (try simp only [i64_w])
          try rfl
         refine hK.out _ _ ⟨v280,v286,v290,m23_,m24_,m25_,m27_,(by rw [ha.out];exact putSel_upk 15 hb_ rfl rfl rfl),Q_HO_5,Q_BK267,Q_HB,Q_HO281,fun h0_=>absurd ((hoff 22 (by kernel_rfl)).symm.trans h0_) (by decide),fun h0_=>absurd ((hoff 23 (by kernel_rfl)).symm.trans h0_) (by decide),fun h0_=>absurd ((hoff 23 (by kernel_rfl)).symm.trans h0_) (by decide),fun h0_=>absurd ((hoff 24 (by kernel_rfl)).symm.trans h0_) (by decide),fun h0_=>absurd ((hoff 25 (by kernel_rfl)).symm.trans h0_) (by decide),fun h0_=>absurd ((hoff 27 (by kernel_rfl)).symm.trans h0_) (by decide)⟩
        refine steps_cons ?_ ?_
        ·rintro b a w' ⟨v280,v286,v290,m23_,m24_,m25_,m27_,ha,Q_HO_5,Q_BK267,Q_HB,Q_HO281,Q_HO287,Q_HO291,Q_X23_,Q_X24_,Q_X25_,Q_X27_⟩ hb_ hon hoff
         refine ⟨_,rfl,fun K hK=>?_⟩
         have e58:a.tmps[58]?=some (.int .u64 (IntKind.u64.wrap ((rd_T51 l0_6 x7_1).f0))):=by rw [ha];exact putSel_on (e:=(7,58,.int .u64 (IntKind.u64.wrap ((rd_T51 l0_6 x7_1).f0)))) 5 rfl rfl (hon 7 (by kernel_rfl)) rfl
         have e65:a.tmps[65]?=some (.int .u64 (IntKind.u64.wrap ((rd_T51 l0_6 x7_1).f1))):=by rw [ha];exact putSel_on (e:=(14,65,.int .u64 (IntKind.u64.wrap ((rd_T51 l0_6 x7_1).f1)))) 10 rfl rfl (hon 14 (by kernel_rfl)) rfl
         have e72:a.tmps[72]?=some (.int .u64 (IntKind.u64.wrap ((rd_T51 l0_6 x7_1).f2))):=by rw [ha];exact putSel_on (e:=(21,72,.int .u64 (IntKind.u64.wrap ((rd_T51 l0_6 x7_1).f2)))) 15 rfl rfl (hon 21 (by kernel_rfl)) rfl
         replace ha:=zm ha
         have HO_5:=zm Q_HO_5
         have BK267:=zm Q_BK267
         have HB:=zm Q_HB
         refine Kd.R_lit_step (Kd.int .u64) _ 58 ?hg (N:=73) ?hd (xs:=([IntKind.u64.wrap ((rd_T51 l0_6 x7_1).f0),IntKind.u64.wrap ((rd_T51 l0_6 x7_1).f1),IntKind.u64.wrap ((rd_T51 l0_6 x7_1).f2)]:List Int)) (inner:=[.int .u64 (IntKind.u64.wrap ((rd_T51 l0_6 x7_1).f0)),.int .u64 (IntKind.u64.wrap ((rd_T51 l0_6 x7_1).f1)),.int .u64 (IntKind.u64.wrap ((rd_T51 l0_6 x7_1).f2))]) (ok:=fun _=>True) (okp:=fun _=>True) ?hr ?hp (fun _ hk=>hk) trivial (Below.refl _ _) (Nat.le_refl _) (by simp) ?_;(case hd=>rfl);(case hg=>rfl);(case hr=>first|(go_simp;done)|(go_simp;rfl));(case hp=>exact (Reps.one (show Kd.M (Kd.int .u64) _ _ _ (IntKind.u64.wrap ((rd_T51 l0_6 x7_1).f0)) [.int .u64 (IntKind.u64.wrap ((rd_T51 l0_6 x7_1).f0))] from rfl) (Reps.one (show Kd.M (Kd.int .u64) _ _ _ (IntKind.u64.wrap ((rd_T51 l0_6 x7_1).f1)) [.int .u64 (IntKind.u64.wrap ((rd_T51 l0_6 x7_1).f1))] from rfl) (Reps.one (show Kd.M (Kd.int .u64) _ _ _ (IntKind.u64.wrap ((rd_T51 l0_6 x7_1).f2)) [.int .u64 (IntKind.u64.wrap ((rd_T51 l0_6 x7_1).f2))] from rfl) (Reps.none _ _)))))
         intro v286 w24 ho25 hb hg_ hnew_
         clear hg_ hnew_
         (first|rw [← Ny285.out] at ho25|(simp only [Int.reduceToNat] at ho25;rw [← Ny285.out] at ho25))
         have n0_:=zm (Kd.R_below (by (with_reducible repeat (first|apply zrA|apply zrN|apply zrD));exact HO_5.out) hb)
         have n1_:=zm (Kd.R_lower ho25 (below_size (zb_)))
         have n2_:=zkB BK267 hb
         have n3_:=zkH HB hb
         have z_HO281:=fun (h0_:b 0=true)=>(show Kd.R (Kd.int .i64) 3 w24 w.heap.size (fun _=>True) v280 t279 from by first|exact (Kd.R_below (by (with_reducible repeat (first|apply zrA|apply zrN|apply zrD));exact (Q_HO281 h0_)) hb)|exact Kd.R_mono (Kd.R_below (by (with_reducible repeat (first|apply zrA|apply zrN|apply zrD));exact (Q_HO281 h0_)) hb) (fun _ h_=>by first|trivial|exact h_|exact h_.1))
         clear HO_5 BK267 HB
         have HO_5:=n0_
         have HO287:=n1_
         have BK267:=n2_
         have HB:=n3_
         clear n0_ n1_ n2_ n3_ hb ho25
         refine hK.out _ _ ⟨v280,v286,v290,m23_,m24_,m25_,m27_,(by rw [ha.out];exact putSel_upk 16 hb_ rfl rfl rfl),(by (with_reducible repeat (first|apply zrA|apply zrN|apply zrD));exact HO_5.out),zx_,(zb_),z_HO281,fun _=>(by (with_reducible repeat (first|apply zrA|apply zrN|apply zrD));exact HO287.out),fun h0_=>absurd ((hoff 23 (by kernel_rfl)).symm.trans h0_) (by decide),fun h0_=>absurd ((hoff 23 (by kernel_rfl)).symm.trans h0_) (by decide),fun h0_=>absurd ((hoff 24 (by kernel_rfl)).symm.trans h0_) (by decide),fun h0_=>absurd ((hoff 25 (by kernel_rfl)).symm.trans h0_) (by decide),fun h0_=>absurd ((hoff 27 (by kernel_rfl)).symm.trans h0_) (by decide)⟩
        refine steps_cons ?_ ?_
        ·rintro b a w' ⟨v280,v286,v290,m23_,m24_,m25_,m27_,ha,Q_HO_5,Q_BK267,Q_HB,Q_HO281,Q_HO287,Q_HO291,Q_X23_,Q_X24_,Q_X25_,Q_X27_⟩ hb_ hon hoff
         refine ⟨_,rfl,fun K hK=>?_⟩
         have e51:a.tmps[51]?=some (v280):=by rw [ha];exact putSel_on (e:=(0,51,v280)) 0 rfl rfl (hon 0 (by kernel_rfl)) rfl
         have e73:a.tmps[73]?=some (v286):=by rw [ha];exact putSel_on (e:=(22,73,v286)) 16 rfl rfl (hon 22 (by kernel_rfl)) rfl
         replace ha:=zm ha
         have HO_5:=zm Q_HO_5
         have BK267:=zm Q_BK267
         have HB:=zm Q_HB
         have HO281:=zm (Q_HO281 (hon 0 (by kernel_rfl)))
         have HO287:=zm (Q_HO287 (hon 22 (by kernel_rfl)))
         obtain ⟨Ao28,co28,eo28⟩:=Kd.R_slice HO281.out
         (first|subst eo28|(injection eo28 with f1_ f2_ f3_;have f4_:=f1_.symm;have f5_:=f3_.symm;clear f1_ f2_ f3_;subst f4_;subst f5_))
         obtain ⟨Ao29,co29,eo29⟩:=Kd.R_slice HO287.out
         (first|subst eo29|(injection eo29 with f1_ f2_ f3_;have f4_:=f1_.symm;have f5_:=f3_.symm;clear f1_ f2_ f3_;subst f4_;subst f5_))
         refine goes_ Try.func35 (by kernel_rfl) rfl #[.slice Ao28 t279.length co28,.slice Ao29 y285.length co29] (by rfl) rfl rfl (by first|(simp only [List.map_toArray,List.map_cons,List.map_nil,Act.eval,Array.getD_eq_getD_getElem?,Option.getD_some,e51,e73];done)|(simp only [List.map_toArray,List.map_cons,List.map_nil,Act.eval,Array.getD_eq_getD_getElem?,Option.getD_some,e51,e73];rfl)) ?_
         with_reducible refine (slipwayref01_Pack.calls k1 _ _ t279 _ _ y285 t288 t289 _ ?side1 ?side2 ?side3 ?side4 A20.out).mono ?_
         (case side1=>repeat (first|exact (Kd.R_reads' HO281.out).2.2|(with_reducible refine Kd.C_alloc ?_ _)|(with_reducible refine Kd.C_drewN ?_ _)|(with_reducible refine Kd.C_drew ?_)))
         (case side2=>exact (Kd.R_reads' HO281.out).2.1)
         (case side3=>repeat (first|exact (Kd.R_reads' HO287.out).2.2|(with_reducible refine Kd.C_alloc ?_ _)|(with_reducible refine Kd.C_drewN ?_ _)|(with_reducible refine Kd.C_drew ?_)))
         (case side4=>exact (Kd.R_reads' HO287.out).2.1)
         rintro e w30 ⟨v290,rfl,ho0,hb⟩
         refine ⟨_,rfl,?_⟩
         have n0_:=zm (Kd.R_elder' (by (with_reducible repeat (first|apply zrA|apply zrN|apply zrD));exact HO_5.out) (Kd.R_base ho0) hb)
         have n1_:=zm (Kd.R_below (by (with_reducible repeat (first|apply zrA|apply zrN|apply zrD));exact HO281.out) hb)
         have n2_:=zm (Kd.R_below (by (with_reducible repeat (first|apply zrA|apply zrN|apply zrD));exact HO287.out) hb)
         have n3_:=zm (Kd.R_lower (Kd.R_new' ho0 (Kd.R_lt (by (with_reducible repeat (first|apply zrA|apply zrN|apply zrD));exact HO_5.out))) (below_size (zb_)))
         have n4_:=zkB BK267 hb
         have n5_:=zkH HB hb
         clear HO_5 HO281 HO287 BK267 HB
         have HO_5:=n0_
         have HO281:=n1_
         have HO287:=n2_
         have HO291:=n3_
         have BK267:=n4_
         have HB:=n5_
         clear n0_ n1_ n2_ n3_ n4_ n5_
         (try clear hb)
         (try clear hb2)
         (try clear hk)
         (try clear hi)
         (try clear ho0)
         refine hK.out _ _ ⟨.slice Ao28 t279.length co28,.slice Ao29 y285.length co29,v290,(.tuple #[v290,.int .i64 t289]),m24_,m25_,m27_,(by rw [ha.out];exact putSel_upk 17 hb_ rfl rfl rfl),(by (with_reducible repeat (first|apply zrA|apply zrN|apply zrD));exact Kd.R_mono HO_5.out (fun _ hk=>hk.2)),zx_,(zb_),fun _=>(by (with_reducible repeat (first|apply zrA|apply zrN|apply zrD));exact HO281.out),fun _=>(by (with_reducible repeat (first|apply zrA|apply zrN|apply zrD));exact HO287.out),fun _=>(by (with_reducible repeat (first|apply zrA|apply zrN|apply zrD));exact Kd.R_mono HO291.out (fun _ hk=>hk.2)),fun _=>rfl,fun h0_=>absurd ((hoff 24 (by kernel_rfl)).symm.trans h0_) (by decide),fun h0_=>absurd ((hoff 25 (by kernel_rfl)).symm.trans h0_) (by decide),fun h0_=>absurd ((hoff 27 (by kernel_rfl)).symm.trans h0_) (by decide)⟩
        refine steps_cons ?_ ?_
        ·rintro b a w' ⟨v280,v286,v290,m23_,m24_,m25_,m27_,ha,Q_HO_5,Q_BK267,Q_HB,Q_HO281,Q_HO287,Q_HO291,Q_X23_,Q_X24_,Q_X25_,Q_X27_⟩ hb_ hon hoff
         refine ⟨_,rfl,fun K hK=>?_⟩
         have e74:a.tmps[74]?=some (m23_):=by rw [ha];exact putSel_on (e:=(23,74,m23_)) 17 rfl rfl (hon 23 (by kernel_rfl)) rfl
         rw [Q_X23_ (hon 23 (by kernel_rfl))] at e74
         replace ha:=zm ha
         have HO_5:=zm Q_HO_5
         have BK267:=zm Q_BK267
         have HB:=zm Q_HB
         have HO281:=zm (Q_HO281 (hon 0 (by kernel_rfl)))
         have HO287:=zm (Q_HO287 (hon 22 (by kernel_rfl)))
         have HO291:=zm (Q_HO291 (hon 23 (by kernel_rfl)))
         refine value_ (w1:=w') (v:=.tuple #[v290,.int .i64 t289]) (by rfl) rfl ?_ ?_
         ·go_simp
          (try simp only [i64_w])
          try rfl
         refine hK.out _ _ ⟨v280,v286,v290,m23_,(.tuple #[v290,.int .i64 t289]),m25_,m27_,(by rw [ha.out];exact putSel_upk 18 hb_ rfl rfl rfl),Q_HO_5,Q_BK267,Q_HB,Q_HO281,Q_HO287,Q_HO291,Q_X23_,fun _=>rfl,fun h0_=>absurd ((hoff 25 (by kernel_rfl)).symm.trans h0_) (by decide),fun h0_=>absurd ((hoff 27 (by kernel_rfl)).symm.trans h0_) (by decide)⟩
        refine steps_cons ?_ ?_
        ·rintro b a w' ⟨v280,v286,v290,m23_,m24_,m25_,m27_,ha,Q_HO_5,Q_BK267,Q_HB,Q_HO281,Q_HO287,Q_HO291,Q_X23_,Q_X24_,Q_X25_,Q_X27_⟩ hb_ hon hoff
         refine ⟨_,rfl,fun K hK=>?_⟩
         have e50:a.tmps[50]?=some (m24_):=by rw [ha];exact putSel_on (e:=(24,50,m24_)) 18 rfl rfl (hon 24 (by kernel_rfl)) rfl
         rw [Q_X24_ (hon 24 (by kernel_rfl))] at e50
         replace ha:=zm ha
         have HO_5:=zm Q_HO_5
         have BK267:=zm Q_BK267
         have HB:=zm Q_HB
         have HO281:=zm (Q_HO281 (hon 0 (by kernel_rfl)))
         have HO287:=zm (Q_HO287 (hon 22 (by kernel_rfl)))
         have HO291:=zm (Q_HO291 (hon 23 (by kernel_rfl)))
         obtain ⟨Ao25_0,co25_0,eo_⟩:=Kd.R_slice HO291.out
         subst eo_
         refine value_ (w1:=w') (v:=.slice Ao25_0 t288.length co25_0) (by rfl) rfl ?_ ?_
         ·go_simp
          (try simp only [i64_w])
          try rfl
         refine hK.out _ _ ⟨v280,v286,.slice Ao25_0 t288.length co25_0,m23_,m24_,(.slice Ao25_0 t288.length co25_0),m27_,(by rw [ha.out];exact putSel_upk 19 hb_ rfl rfl rfl),Q_HO_5,Q_BK267,Q_HB,Q_HO281,Q_HO287,Q_HO291,Q_X23_,Q_X24_,fun _=>rfl,fun h0_=>absurd ((hoff 27 (by kernel_rfl)).symm.trans h0_) (by decide)⟩
        refine steps_cons ?_ ?_
        ·rintro b a w' ⟨v280,v286,v290,m23_,m24_,m25_,m27_,ha,Q_HO_5,Q_BK267,Q_HB,Q_HO281,Q_HO287,Q_HO291,Q_X23_,Q_X24_,Q_X25_,Q_X27_⟩ hb_ hon hoff
         refine ⟨_,rfl,fun K hK=>?_⟩
         have e50:a.tmps[50]?=some (m24_):=by rw [ha];exact putSel_on (e:=(24,50,m24_)) 18 rfl rfl (hon 24 (by kernel_rfl)) rfl
         rw [Q_X24_ (hon 24 (by kernel_rfl))] at e50
         replace ha:=zm ha
         have HO_5:=zm Q_HO_5
         have BK267:=zm Q_BK267
         have HB:=zm Q_HB
         have HO281:=zm (Q_HO281 (hon 0 (by kernel_rfl)))
         have HO287:=zm (Q_HO287 (hon 22 (by kernel_rfl)))
         have HO291:=zm (Q_HO291 (hon 23 (by kernel_rfl)))
         obtain ⟨Ao26_0,co26_0,eo_⟩:=Kd.R_slice HO291.out
         subst eo_
         refine value_ (w1:=w') (v:=.int .i64 t289) (by rfl) rfl ?_ ?_
         ·go_simp
          (try simp only [i64_w])
          try rfl
         refine hK.out _ _ ⟨v280,v286,.slice Ao26_0 t288.length co26_0,m23_,m24_,m25_,m27_,(by rw [ha.out];exact putSel_upk 20 hb_ rfl rfl rfl),Q_HO_5,Q_BK267,Q_HB,Q_HO281,Q_HO287,Q_HO291,Q_X23_,Q_X24_,Q_X25_,Q_X27_⟩
        refine steps_cons ?_ ?_
        ·rintro b a w' ⟨v280,v286,v290,m23_,m24_,m25_,m27_,ha,Q_HO_5,Q_BK267,Q_HB,Q_HO281,Q_HO287,Q_HO291,Q_X23_,Q_X24_,Q_X25_,Q_X27_⟩ hb_ hon hoff
         refine ⟨_,rfl,fun K hK=>?_⟩
         have e75:a.tmps[75]?=some (m25_):=by rw [ha];exact putSel_on (e:=(25,75,m25_)) 19 rfl rfl (hon 25 (by kernel_rfl)) rfl
         rw [Q_X25_ (hon 25 (by kernel_rfl))] at e75
         replace ha:=zm ha
         have HO_5:=zm Q_HO_5
         have BK267:=zm Q_BK267
         have HB:=zm Q_HB
         have HO281:=zm (Q_HO281 (hon 0 (by kernel_rfl)))
         have HO287:=zm (Q_HO287 (hon 22 (by kernel_rfl)))
         have HO291:=zm (Q_HO291 (hon 23 (by kernel_rfl)))
         refine value_ (w1:=w') (v:=v290) (by rfl) rfl ?_ ?_
         ·go_simp
          (try simp only [i64_w])
          try rfl
         refine hK.out _ _ ⟨v280,v286,v290,m23_,m24_,m25_,(v290),(by rw [ha.out];exact putSel_upk 21 hb_ rfl rfl rfl),Q_HO_5,Q_BK267,Q_HB,Q_HO281,Q_HO287,Q_HO291,Q_X23_,Q_X24_,Q_X25_,fun _=>rfl⟩
        refine steps_cons ?_ ?_
        ·rintro b a w' ⟨v280,v286,v290,m23_,m24_,m25_,m27_,ha,Q_HO_5,Q_BK267,Q_HB,Q_HO281,Q_HO287,Q_HO291,Q_X23_,Q_X24_,Q_X25_,Q_X27_⟩ hb_ hon hoff
         refine ⟨_,rfl,fun K hK=>?_⟩
         have e76:a.tmps[76]?=some (.int .i64 t289):=by rw [ha];exact putSel_on (e:=(26,76,.int .i64 t289)) 20 rfl rfl (hon 26 (by kernel_rfl)) rfl
         replace ha:=zm ha
         have HO_5:=zm Q_HO_5
         have BK267:=zm Q_BK267
         have HB:=zm Q_HB
         have HO281:=zm (Q_HO281 (hon 0 (by kernel_rfl)))
         have HO287:=zm (Q_HO287 (hon 22 (by kernel_rfl)))
         have HO291:=zm (Q_HO291 (hon 23 (by kernel_rfl)))
         refine value_ (w1:=w') (v:=.int .i64 t289) (by rfl) rfl ?_ ?_
         ·go_simp
          (try simp only [i64_w])
          try rfl
         refine hK.out _ _ ⟨v280,v286,v290,m23_,m24_,m25_,m27_,(by rw [ha.out];exact putSel_upk 22 hb_ rfl rfl rfl),Q_HO_5,Q_BK267,Q_HB,Q_HO281,Q_HO287,Q_HO291,Q_X23_,Q_X24_,Q_X25_,Q_X27_⟩
        exact steps_nil
       rintro b a w30 hall ⟨v280,v286,v290,m23_,m24_,m25_,m27_,ha,Q_HO_5,Q_BK267,Q_HB,Q_HO281,Q_HO287,Q_HO291,Q_X23_,Q_X24_,Q_X25_,Q_X27_⟩
       clear BK267 HB HO_5
       have hb0_:=hall 0 (by kernel_rfl)
       have hb2_:=hall 2 (by kernel_rfl)
       have hb4_:=hall 4 (by kernel_rfl)
       have hb5_:=hall 5 (by kernel_rfl)
       have hb6_:=hall 6 (by kernel_rfl)
       have hb7_:=hall 7 (by kernel_rfl)
       have hb9_:=hall 9 (by kernel_rfl)
       have hb11_:=hall 11 (by kernel_rfl)
       have hb12_:=hall 12 (by kernel_rfl)
       have hb13_:=hall 13 (by kernel_rfl)
       have hb14_:=hall 14 (by kernel_rfl)
       have hb16_:=hall 16 (by kernel_rfl)
       have hb18_:=hall 18 (by kernel_rfl)
       have hb19_:=hall 19 (by kernel_rfl)
       have hb20_:=hall 20 (by kernel_rfl)
       have hb21_:=hall 21 (by kernel_rfl)
       have hb22_:=hall 22 (by kernel_rfl)
       have hb23_:=hall 23 (by kernel_rfl)
       have hb24_:=hall 24 (by kernel_rfl)
       have hb25_:=hall 25 (by kernel_rfl)
       have hb26_:=hall 26 (by kernel_rfl)
       have hb27_:=hall 27 (by kernel_rfl)
       have hb28_:=hall 28 (by kernel_rfl)
       subst ha
       obtain rfl:=Q_X23_ hb23_
       obtain rfl:=Q_X24_ hb24_
       obtain rfl:=Q_X25_ hb25_
       obtain rfl:=Q_X27_ hb27_
       simp only [putSel,hb0_,hb2_,hb4_,hb5_,hb6_,hb7_,hb9_,hb11_,hb12_,hb13_,hb14_,hb16_,hb18_,hb19_,hb20_,hb21_,hb22_,hb23_,hb24_,hb25_,hb26_,hb27_,hb28_,if_true,Act.put,List.setIfInBounds_toArray,List.set_cons_zero,List.set_cons_succ]
       have HO_5:=zm Q_HO_5
       clear Q_HO_5
       have BK267:=zm Q_BK267
       clear Q_BK267
       have HB:=zm Q_HB
       clear Q_HB
       have HO281:=zm (Q_HO281 hb0_)
       clear Q_HO281
       have HO287:=zm (Q_HO287 hb22_)
       clear Q_HO287
       have HO291:=zm (Q_HO291 hb23_)
       clear Q_HO291 hall hb0_ hb2_ hb4_ hb5_ hb6_ hb7_ hb9_ hb11_ hb12_ hb13_ hb14_ hb16_ hb18_ hb19_ hb20_ hb21_ hb22_ hb23_ hb24_ hb25_ hb26_ hb27_ hb28_
       obtain ⟨Ao32,co32,eo32⟩:=Kd.R_slice HO291.out
       subst eo32
       try go_wp2_with (first|((with_reducible refine gate_builtin (b:=.append) (xs:=#[.tmp 77,.tmp 78]) rfl ?_);at_builtin;refine Kd.R_append_rows (Kd.int .u8) (w0:=w) w.heap.size rfl (.tmp 77) (.tmp 78) 25 5 (.int .u8 0) 1 rfl Try.underlying25 info5 rfl (by decide) (by omega) u5 x5_1 t288 _ _ _ (fun k_=>some k_≠(.slice Ao32 t288.length co32:Value).ownBlock) (fun _=>False) rfl rfl ?aO ?aR (fun _ _ h=>h) (fun _ h=>h.elim) ?aF ?aB ?aS ?aL ?_;(case aR=>repeat (first|exact (Kd.R_reads' HO291.out).2.2|(with_reducible refine Kd.C_alloc ?_ _)|(with_reducible refine Kd.C_drewN ?_ _)|(with_reducible refine Kd.C_drew ?_)));(case aB=>exact (zb_));(case aF=>exact (fun k_ hk=>Kd.fresh' (Kd.R_lt (by (with_reducible repeat (first|apply zrA|apply zrN|apply zrD));exact HO291.out)) k_ hk));(case aO=>exact (by (with_reducible repeat (first|apply zrA|apply zrN|apply zrD));exact HO_5.out));(case aS=>exact (below_size (zb_)));(case aL=>have:=LMc21.out;omega);intro v293 w31 ho hb hg hat;rw [← Ny292.out] at ho;have n0_:=zm (blk_grown (g:=gb267) (o:=.cells #[.int .i64 a0_0,.int .i64 a0_1,.int .i64 a0_2,.int .i64 a0_3,.int .i64 a0_4,.int .i64 a0_5,.slice (some ad282) l0_6.length c0_6] 24 (0,0)) zx_ hg (Kd.R_ne HO_5.out BK267.out (by decide)));have n1_:=zm (Kd.R_over' (by (with_reducible repeat (first|apply zrA|apply zrN|apply zrD));exact HO281.out) (Kd.R_typed (by (with_reducible repeat (first|apply zrA|apply zrN|apply zrD));exact HO_5.out)) (by decide) hg);have n2_:=zm (Kd.R_over' (by (with_reducible repeat (first|apply zrA|apply zrN|apply zrD));exact HO287.out) (Kd.R_typed (by (with_reducible repeat (first|apply zrA|apply zrN|apply zrD));exact HO_5.out)) (by decide) hg);have n3_:=zm (Kd.R_after (ok:=(fun _=>True)) (by (with_reducible repeat (first|apply zrA|apply zrN|apply zrD));exact Kd.R_mono HO291.out (fun _ hk=>⟨trivial,hk⟩)) hg hat);have n4_:=zm (hb);have n5_:=zm (ho);clear BK267 HO281 HO287 HO291 HB HO_5;have BK267:=n0_;have HO281:=n1_;have HO287:=n2_;have HO291:=n3_;have HB:=n4_;have HO294:=n5_;clear n0_ n1_ n2_ n3_ n4_ n5_;clear ho hb hg hat))
       go_roundg k1
       case measure=>have:=HK1.out;omega
       case rel=>exact ⟨(y292),(wrap64 (x7_1 + 1)),zs_,H',⟨by have:=HK1.out;omega⟩,⟨by (with_reducible repeat (first|apply zrA|apply zrN|apply zrD));exact Kd.R_mono HO294.out (fun _ hk=>trivial)⟩,⟨zx_⟩,⟨zb_⟩⟩
      ·rw [if_neg c21] at H
       exact absurd H (by simp)
     ·rw [if_neg c19] at H
      exact absurd H (by simp)
    ·rw [if_neg c17] at H
     have c17b0:decide (x7_1 < (l0_6.length:Int))=false:=decide_eq_false c17
     clear c17
     have H':=zm H
     clear H
     obtain ⟨hcz33_0,hcz33_1,hcz33_2,hcz33_3,hcz33_4,hcz33_5,hcz33_6,hfz33_0,hfz33_1,hfz33_2,hfz33_3,hfz33_4,hfz33_5,hfz33_6⟩:=zc7 BK267.out
     go_wp2
     go_loopg [5] k1 (fun kq v5 w'=>∃ (x5_2:List Int),Aside0 (slipwayref14_Encode.l1 kq x5_2=some (r1,r2))∧Aside0 (kq≤k1)∧Aside0 (Kd.R (Kd.int .u8) 5 w' w.heap.size (fun _=>True) v5 x5_2)∧Aside0 (w'.heap[gb267]?=some (.cells #[.int .i64 a0_0,.int .i64 a0_1,.int .i64 a0_2,.int .i64 a0_3,.int .i64 a0_4,.int .i64 a0_5,(.slice A0_6 l0_6.length c0_6)] 24 (0,0)))∧Aside0 (Below w.heap.size w w'))
     case atStart=>exact ⟨(x5_1),H',⟨Nat.le_refl _⟩,⟨by (with_reducible repeat (first|apply zrA|apply zrN|apply zrD));exact HO_5.out⟩,⟨zx_⟩,⟨zb_⟩⟩
     case round =>
      clear H'
      try clear c1
      try clear c2
      try clear p2
      try clear q2
      try clear hx2
      try clear c3
      try clear c4
      try clear c5
      try clear c6
      try clear p6
      try clear c17
      try clear c17b0
      try clear c19
      try clear c21
      try clear p28
      try clear q28
      try clear hx28
      try clear hcz33_0
      try clear hcz33_1
      try clear hcz33_2
      try clear hcz33_3
      try clear hcz33_4
      try clear hcz33_5
      try clear hcz33_6
      try clear hfz33_0
      try clear hfz33_1
      try clear hfz33_2
      try clear hfz33_3
      try clear hfz33_4
      try clear hfz33_5
      try clear hfz33_6
      try clear hx282_0
      try clear hx282_1
      try clear hx282_2
      try clear hx283_0
      try clear hx283_1
      try clear hx283_2
      try clear hx284_0
      try clear hx284_1
      try clear hx284_2
      try clear p282
      try clear p283
      try clear p284
      try clear q282
      try clear q283
      try clear q284
      obtain ⟨x5_2,HA,HK2,HO_5,BK267,HB⟩:=hrel
      cases gk with
      | zero=>exact absurd HA.out (by simp [slipwayref14_Encode.l1])
      | succ k2 =>
       have H:=HA.out
       clear HA
       simp only [slipwayref14_Encode.l1] at H
       by_cases c34:(x5_2.length:Int) < 64
       ·rw [if_pos c34] at H
        have c34b0:decide ((x5_2.length:Int) < 64)=true:=decide_eq_true c34
        have c34b1:decide (x5_2.length < 64)=true:=decide_eq_true (by omega)
        clear c34
        by_cases c35:x5_2.length < 140737488355328
        ·rw [if_pos c35] at H
         have LMc35:=zm c35
         clear c35
         obtain ⟨y295,hy295⟩:∃ y_:List Int,y_=(x5_2 ++ [0]):=⟨_,rfl⟩
         replace H:(slipwayref14_Encode.l1 k2 y295)=some (r1,r2):=by first|(rw [hy295];with_reducible exact H)|(have H2_:=(Option.bind_some _ _).symm.trans H;rw [hy295];with_reducible exact H2_)|(have H2_:=(Option.bind_some _ _).symm.trans H;with_reducible exact H2_)|with_reducible exact H|(rw [hy295];exact H)|exact H
         have Ny295:=zm hy295
         clear hy295
         have H':=zm H
         clear H
         obtain ⟨Ao36,co36,eo36⟩:=Kd.R_slice HO_5.out
         subst eo36
         go_wp2_with (first|((with_reducible refine gate_builtin (b:=.append) (xs:=#[.tmp 83,.tmp 84]) rfl ?_);at_builtin;refine Kd.R_append (Kd.int .u8) (w0:=w) w.heap.size rfl (.tmp 83) (.tmp 84) 25 5 (.int .u8 0) 1 rfl Try.underlying25 info5 rfl (by decide) (by omega) (.slice Ao36 x5_2.length co36) x5_2 0 [.int .u8 0] (fun _=>True) (fun _=>False) rfl rfl ?aP (fun _ hk=>hk.elim) ?aF ?aO ?aB ?aS ?aL ?_;(case aP=>exact rfl);(case aB=>exact (zb_));(case aF=>exact (fun _ _=>trivial));(case aO=>exact (by (with_reducible repeat (first|apply zrA|apply zrN|apply zrD));exact HO_5.out));(case aS=>exact (below_size (zb_)));(case aL=>have:=LMc35.out;omega);intro v296 w37 ho hb hg hat;rw [← Ny295.out] at ho;have n0_:=zm (blk_grown (g:=gb267) (o:=.cells #[.int .i64 a0_0,.int .i64 a0_1,.int .i64 a0_2,.int .i64 a0_3,.int .i64 a0_4,.int .i64 a0_5,.slice A0_6 l0_6.length c0_6] 24 (0,0)) zx_ hg (Kd.R_ne HO_5.out BK267.out (by decide)));have n1_:=zm (hb);have n2_:=zm (ho);clear BK267 HB HO_5;have BK267:=n0_;have HB:=n1_;have HO297:=n2_;clear n0_ n1_ n2_;clear ho hb hg hat))
         go_roundg k2
         case measure=>have:=HK1.out;have:=HK2.out;omega
         case rel=>exact ⟨(y295),H',⟨by have:=HK1.out;have:=HK2.out;omega⟩,⟨by (with_reducible repeat (first|apply zrA|apply zrN|apply zrD));exact HO297.out⟩,⟨zx_⟩,⟨zb_⟩⟩
        ·rw [if_neg c35] at H
         exact absurd H (by simp)
       ·rw [if_neg c34] at H
        have c34b0:decide ((x5_2.length:Int) < 64)=false:=decide_eq_false c34
        have c34b1:decide (x5_2.length < 64)=false:=decide_eq_false (by omega)
        clear c34
        simp only [Option.some.injEq,Prod.mk.injEq] at H
        obtain ⟨rfl,rfl⟩:=H
        obtain ⟨Ao38,co38,eo38⟩:=Kd.R_slice HO_5.out
        subst eo38
        go_wp2
        go_ret2
        exact ⟨_,ze_,by (with_reducible repeat (first|apply zrA|apply zrN|apply zrD));exact HO_5.out,zb_⟩
 ·rw [if_neg c3] at H
  have c3b0:(t268 == 0)=false:=beq_eq_false_iff_ne.mpr c3
  have c3b1:(t268 != 0)=true:=bne_iff_ne.mpr c3
  simp only [Option.some.injEq,Prod.mk.injEq] at H
  obtain ⟨rfl,rfl⟩:=H
  go_enter Try.func12,Try.ntmps12
  go_wp2_with (first|((with_reducible refine gate_dst (N:=1) rfl ?_);refine zbx 1 #[.int .i64 a0_0,.int .i64 a0_1,.int .i64 a0_2,.int .i64 a0_3,.int .i64 a0_4,.int .i64 a0_5,.slice A0_6 l0_6.length c0_6] 24 ?_;intro gb267 hg w39 hbox hb;have n0_:=zkH HB hb;have n1_:=zm (hbox);have n2_:=zkG HB hg;have n3_:=zkG HB hg;clear HB;have HB:=n0_;have BK267:=n1_;have GW267:=n2_;have GE267:=n3_;clear n0_ n1_ n2_ n3_;clear hb hbox hg;obtain ⟨hcz40_0,hcz40_1,hcz40_2,hcz40_3,hcz40_4,hcz40_5,hcz40_6,hfz40_0,hfz40_1,hfz40_2,hfz40_3,hfz40_4,hfz40_5,hfz40_6⟩:=zc7 BK267.out)|((with_reducible refine gate_callee (f:=15) rfl ?_);refine goesL_ (some 11) rfl rfl Try.func15 (by kernel_rfl) rfl #[.agg #[.int .i64 a0_0,.int .i64 a0_1,.int .i64 a0_2,.int .i64 a0_3,.int .i64 a0_4,.int .i64 a0_5,.slice A0_6 l0_6.length c0_6]] rfl (by (try simp only [List.map_toArray,List.map_cons,List.map_nil]);first|done|rfl|(simp only [List.length_drop,List.length_take];rfl)) ?_;(with_reducible refine (slipwayref14_Check.calls k a0_0 a0_1 a0_2 a0_3 a0_4 a0_5 _ _ l0_6 t268 _ ?side1 ?side2 A2.out).mono ?_);(case side1=>exact zC HR0_6);(case side2=>exact HC0_6.out);rintro e w41 ⟨rfl,hb⟩;refine ⟨_,rfl,?_⟩;have n0_:=zkB BK267 hb;have n1_:=zkH HB hb;clear BK267 HB;have BK267:=n0_;have HB:=n1_;clear n0_ n1_;(try clear hb);(try clear hb2);(try clear hk);(try clear hi)))
  go_ret2
  exact ⟨_,ze_,zr_,zb_⟩
end Go.Proofs.Ytjoojmodghpimaa.Print
end
section
namespace Go.Proofs.Ytjoojmodghpimaa.Print
open Go.RowKit Go.Proofs.YtjoojmodghpimaaW.PrintWords Go.Proofs.YtjoojmodghpimaaW.PrintLast Go.Proofs.YtjoojmodghpimaaW.PrintMore
attribute [local go_sem] max2_int min2_int max_two min_two max_three min_three max_four min_four   -- for this text's walks alone
attribute [local go_sem ↓] Go.Proofs.Ytjoojmodghpimaa.Sem.isSome_setCell
attribute [local go_sem] Go.Instr.field Go.asAgg
set_option linter.unusedVariables false
set_option linter.unusedSimpArgs false
mutual
def slipwayref01_Unpack.l0:Nat → List Int → List Int → Int → List Int → Int → Int → Option (List Int × Int)
 | 0,_,_,_,_,_,_=>none
 | k + 1,x0,x1,x6,x8,x9,x10=>if x10 < (x0.length:Int) then (slipwayref01_Unpack.l1 k x0 x1 x6 x8 x9 x10 0 0) else (slipwayref01_Unpack.l2 k x1 x6 x8 x9)
def slipwayref01_Unpack.l1:Nat → List Int → List Int → Int → List Int → Int → Int → Int → Int → Option (List Int × Int)
 | 0,_,_,_,_,_,_,_,_=>none
 | k + 1,x0,x1,x6,x8,x9,x10,x11,x12=>if 0≤x10 then (if x10 < (x0.length:Int) then (if x12 < (rd x0 x10) then (if 0≤(wrap64 (Int.tdiv x9 8)) then (if (wrap64 (Int.tdiv x9 8)) < (x1.length:Int) then (if 0≤(IntKind.u64.wrap (wrap64 (7 - (Int.tmod x9 8)))) then (slipwayref01_Unpack.l1 k x0 x1 x6 x8 (wrap64 (x9 + 1)) x10 (Go.bits .or .u64 (IntKind.u64.wrap (x11 * 2)) (IntKind.u64.wrap (Go.bits .and .u8 (shr .u8 (rd x1 (wrap64 (Int.tdiv x9 8))) (IntKind.u64.wrap (wrap64 (7 - (Int.tmod x9 8))))) 1))) (wrap64 (x12 + 1))) else (none)) else (none)) else (none)) else (if x8.length < 17592186044416 then (slipwayref01_Unpack.l0 k x0 x1 x6 (x8 ++ [x11]) x9 (wrap64 (x10 + 1))) else (none))) else (none)) else (none)
def slipwayref01_Unpack.l2:Nat → List Int → Int → List Int → Int → Option (List Int × Int)
 | 0,_,_,_,_=>none
 | k + 1,x1,x6,x8,x9=>if x9 < (wrap64 (8 * x6)) then (if 0≤(wrap64 (Int.tdiv x9 8)) then (if (wrap64 (Int.tdiv x9 8)) < (x1.length:Int) then (if 0≤(IntKind.u64.wrap (wrap64 (7 - (Int.tmod x9 8)))) then (if (Go.bits .and .u8 (shr .u8 (rd x1 (wrap64 (Int.tdiv x9 8))) (IntKind.u64.wrap (wrap64 (7 - (Int.tmod x9 8))))) 1)=0 then (slipwayref01_Unpack.l2 k x1 x6 x8 (wrap64 (x9 + 1))) else (some (([]:List Int),1))) else (none)) else (none)) else (none)) else (some (x8,0))
end
def slipwayref01_Unpack.f (k:Nat) (l0:List Int) (l1:List Int):Option (List Int × Int):=(slipwayref01_Width.f k l0).bind fun bt298=>(if bt298.2=0 then (if (l1.length:Int)=bt298.1 then (slipwayref01_Unpack.l0 k l0 l1 bt298.1 ([]:List Int) 0 0) else (some (([]:List Int),3))) else (some (([]:List Int),bt298.2)))
set_option maxHeartbeats 8000000 in
set_option maxRecDepth 100000 in
theorem slipwayref01_Unpack.calls (k:Nat) (A0:Option Addr) (c0:Nat) (l0:List Int) (A1:Option Addr) (c1:Nat) (l1:List Int) (r1:List Int) (r2:Int) (w:World) (hr0:Kd.C (Kd.int .i64) w A0 l0.length l0) (hc0:l0.length≤c0) (hr1:Kd.C (Kd.int .u8) w A1 l1.length l1) (hc1:l1.length≤c1) (h:slipwayref01_Unpack.f k l0 l1=some (r1,r2)) :
  Calls Try.prog 38 #[.slice A0 l0.length c0,.slice A1 l1.length c1] w fun e w'=>∃ v0_:Value,e=.returned (.tuple #[v0_,.int .i64 r2])∧Kd.R (Kd.int .u64) 58 w' w.heap.size (fun _=>True) v0_ r1∧Below w.heap.size w w':=by
 have HR0:=zm hr0
 have HC0:=zm hc0
 clear hr0 hc0
 have HR1:=zm hr1
 have HC1:=zm hc1
 clear hr1 hc1
 have HB:=zm (Below.refl w.heap.size w)
 have H:((slipwayref01_Width.f k l0).bind fun bt298=>(if bt298.2=0 then (if (l1.length:Int)=bt298.1 then (slipwayref01_Unpack.l0 k l0 l1 bt298.1 ([]:List Int) 0 0) else (some (([]:List Int),3))) else (some (([]:List Int),bt298.2))))=some (r1,r2):=h
 clear h
 replace H:=Option.bind_eq_some_iff.mp H
 obtain ⟨⟨t298,t299⟩,A30,H⟩:=H
 replace H:(if t299=0 then (if (l1.length:Int)=t298 then (slipwayref01_Unpack.l0 k l0 l1 t298 ([]:List Int) 0 0) else (some (([]:List Int),3))) else (some (([]:List Int),t299)))=some (r1,r2):=H
 have A3:=zm A30
 clear A30
 by_cases c4:t299=0
 ·rw [if_pos c4] at H
  have c4b0:(t299 == 0)=true:=beq_iff_eq.mpr c4
  have c4b1:(t299 != 0)=false:=bne_eq_false_iff_eq.mpr c4
  clear c4
  by_cases c5:(l1.length:Int)=t298
  ·rw [if_pos c5] at H
   have c5b0:((l1.length:Int) == t298)=true:=beq_iff_eq.mpr c5
   have c5b1:((l1.length:Int) != t298)=false:=bne_eq_false_iff_eq.mpr c5
   clear c5
   have H':=zm H
   clear H
   go_enter Try.func38,Try.ntmps38
   go_wp2_with (first|((with_reducible refine gate_callee (f:=51) rfl ?_);refine goesL_ (some 15) rfl rfl Try.func51 (by kernel_rfl) rfl #[.slice A0 l0.length c0] rfl (by (try simp only [List.map_toArray,List.map_cons,List.map_nil]);first|done|rfl|(simp only [List.length_drop,List.length_take];rfl)) ?_;(with_reducible refine (slipwayref01_Width.calls k _ _ l0 t298 t299 _ ?side1 ?side2 A3.out).mono ?_);(case side1=>repeat (first|exact HR0.out|(with_reducible refine Kd.C_alloc ?_ _)|(with_reducible refine Kd.C_drewN ?_ _)|(with_reducible refine Kd.C_drew ?_)));(case side2=>exact HC0.out);rintro e w' ⟨rfl,⟨nd,rfl⟩⟩;refine ⟨_,rfl,?_⟩))
   go_loopg [8,9,10] k (fun kq v8 v9 v10 w'=>∃ (x8_1:List Int) (x9_1:Int) (x10_1:Int),v9=.int .i64 x9_1∧v10=.int .i64 x10_1∧Aside0 (slipwayref01_Unpack.l0 kq l0 l1 t298 x8_1 x9_1 x10_1=some (r1,r2))∧Aside0 (kq≤k)∧Aside0 (Kd.R (Kd.int .u64) 58 w' w.heap.size (fun _=>True) v8 x8_1)∧Aside0 (Below w.heap.size w w'))
   case atStart=>exact ⟨(([]:List Int)),(0),(0),zs_,zs_,H',⟨Nat.le_refl _⟩,⟨zr_⟩,⟨zb_⟩⟩
   case round =>
    clear H'
    try clear c1
    try clear p2
    try clear c3
    try clear c4
    try clear c4b0
    try clear c4b1
    try clear c5
    try clear c5b0
    try clear c5b1
    obtain ⟨x8_1,x9_1,x10_1,rfl,rfl,HA,HK1,HO_8,HB⟩:=hrel
    cases gk with
    | zero=>exact absurd HA.out (by simp [slipwayref01_Unpack.l0])
    | succ k1 =>
     have H:=HA.out
     clear HA
     simp only [slipwayref01_Unpack.l0] at H
     by_cases c6:x10_1 < (l0.length:Int)
     ·rw [if_pos c6] at H
      have c6b0:decide (x10_1 < (l0.length:Int))=true:=decide_eq_true c6
      clear c6
      have H':=zm H
      clear H
      go_wp2
      go_loopg [9,11,12] k1 (fun kq v9 v11 v12 w'=>∃ (x9_2:Int) (x11_2:Int) (x12_2:Int),v9=.int .i64 x9_2∧v11=.int .u64 x11_2∧v12=.int .i64 x12_2∧Aside0 (slipwayref01_Unpack.l1 kq l0 l1 t298 x8_1 x9_2 x10_1 x11_2 x12_2=some (r1,r2))∧Aside0 (kq≤k1)∧Aside0 (Kd.R (Kd.int .u64) 58 w' w.heap.size (fun _=>True) u8 x8_1)∧Aside0 (Below w.heap.size w w'))
      case atStart=>exact ⟨(x9_1),(0),(0),zs_,zs_,zs_,H',⟨Nat.le_refl _⟩,⟨by (with_reducible repeat (first|apply zrA|apply zrN|apply zrD));exact HO_8.out⟩,⟨zb_⟩⟩
      case round =>
       clear H'
       try clear c1
       try clear p2
       try clear c3
       try clear c4
       try clear c4b0
       try clear c4b1
       try clear c5
       try clear c5b0
       try clear c5b1
       try clear c6
       try clear c6b0
       try clear p2
       obtain ⟨x9_2,x11_2,x12_2,rfl,rfl,rfl,HA,HK2,HO_8,HB⟩:=hrel
       cases gk with
       | zero=>exact absurd HA.out (by simp [slipwayref01_Unpack.l1])
       | succ k2 =>
        have H:=HA.out
        clear HA
        simp only [slipwayref01_Unpack.l1] at H
        by_cases c7:0≤x10_1
        ·rw [if_pos c7] at H
         have c7b0:decide (0≤x10_1)=true:=decide_eq_true c7
         clear c7
         by_cases c8:x10_1 < (l0.length:Int)
         ·rw [if_pos c8] at H
          have c8b0:decide (x10_1 < (l0.length:Int))=true:=decide_eq_true c8
          clear c8
          by_cases c9:x12_2 < (rd l0 x10_1)
          ·rw [if_pos c9] at H
           have c9b0:decide (x12_2 < (rd l0 x10_1))=true:=decide_eq_true c9
           clear c9
           obtain ⟨ji10,hji10⟩:∃ j_:Int,(wrap64 (Int.tdiv x9_2 8))=j_:=⟨_,rfl⟩
           replace H:(if 0≤(ji10) then (if (ji10) < (l1.length:Int) then (if 0≤(IntKind.u64.wrap (wrap64 (7 - (Int.tmod x9_2 8)))) then (slipwayref01_Unpack.l1 k2 l0 l1 t298 x8_1 (wrap64 (x9_2 + 1)) x10_1 (Go.bits .or .u64 (IntKind.u64.wrap (x11_2 * 2)) (IntKind.u64.wrap (Go.bits .and .u8 (shr .u8 (rd l1 (ji10)) (IntKind.u64.wrap (wrap64 (7 - (Int.tmod x9_2 8))))) 1))) (wrap64 (x12_2 + 1))) else (none)) else (none)) else (none))=some (r1,r2):=by first|(rw [hji10] at H;exact H)|(simp only [hji10] at H ⊢;exact H)
           have hji10w:(IntKind.i64.wrap (Int.tdiv x9_2 8))=ji10:=(i64_w _).trans hji10
           by_cases c11:0≤(ji10)
           ·rw [if_pos c11] at H
            have c11b0:decide (0≤(ji10))=true:=decide_eq_true c11
            clear c11
            by_cases c12:(ji10) < (l1.length:Int)
            ·rw [if_pos c12] at H
             have c12b0:decide ((ji10) < (l1.length:Int))=true:=decide_eq_true c12
             clear c12
             obtain ⟨ji13,hji13⟩:∃ j_:Int,(IntKind.u64.wrap (wrap64 (7 - (Int.tmod x9_2 8))))=j_:=⟨_,rfl⟩
             replace H:(if 0≤(ji13) then (slipwayref01_Unpack.l1 k2 l0 l1 t298 x8_1 (wrap64 (x9_2 + 1)) x10_1 (Go.bits .or .u64 (IntKind.u64.wrap (x11_2 * 2)) (IntKind.u64.wrap (Go.bits .and .u8 (shr .u8 (rd l1 (ji10)) (ji13)) 1))) (wrap64 (x12_2 + 1))) else (none))=some (r1,r2):=by first|(rw [hji13] at H;exact H)|(simp only [hji13] at H ⊢;exact H)
             by_cases c14:0≤(ji13)
             ·rw [if_pos c14] at H
              have c14b0:=eq_true c14
              have c14b1:decide (0≤(ji13))=true:=decide_eq_true c14
              clear c14
              obtain ⟨ji15,hji15⟩:∃ j_:Int,(shr .u8 (rd l1 (ji10)) (ji13))=j_:=⟨_,rfl⟩
              replace H:(slipwayref01_Unpack.l1 k2 l0 l1 t298 x8_1 (wrap64 (x9_2 + 1)) x10_1 (Go.bits .or .u64 (IntKind.u64.wrap (x11_2 * 2)) (IntKind.u64.wrap (Go.bits .and .u8 (ji15) 1))) (wrap64 (x12_2 + 1)))=some (r1,r2):=by first|(rw [hji15] at H;exact H)|(simp only [hji15] at H ⊢;exact H)
              have hji15_:((rd l1 (ji10)) / 2 ^ min (ji13).toNat 8)=ji15:=hji15
              have hji15z:(ji13)≤8 → ((rd l1 (ji10)) / 2 ^ (ji13).toNat)=ji15:=shr_small hji15
              have H':=zm H
              clear H
              have p300:0≤(x10_1:Int):=za_
              have q300:x10_1 < (l0.length:Int):=za_
              obtain ⟨ad300,e300,hx300_0⟩:=Kd.at_int HR0.out x10_1 p300 q300
              cases e300
              replace hx300_0:=zhx HB hx300_0
              replace p300:=eq_true p300
              replace q300:=eq_true q300
              have p301:0≤((ji10):Int):=za_
              have q301:(ji10) < (l1.length:Int):=za_
              obtain ⟨ad301,e301,hx301_0⟩:=Kd.at_int HR1.out (ji10) p301 q301
              cases e301
              replace hx301_0:=zhx HB hx301_0
              replace p301:=eq_true p301
              replace q301:=eq_true q301
              go_wp2
              go_roundg k2
              case measure=>have:=HK1.out;have:=HK2.out;omega
              case rel=>exact ⟨(wrap64 (x9_2 + 1)),(Go.bits .or .u64 (IntKind.u64.wrap (x11_2 * 2)) (IntKind.u64.wrap (Go.bits .and .u8 (ji15) 1))),(wrap64 (x12_2 + 1)),zs_,(by first|rfl|(simp;done)|(simp only [← hji15] <;> (first|rfl|simp))|(simp [*];done)),zs_,H',⟨by have:=HK1.out;have:=HK2.out;omega⟩,⟨by (with_reducible repeat (first|apply zrA|apply zrN|apply zrD));exact HO_8.out⟩,⟨zb_⟩⟩
             ·rw [if_neg c14] at H
              exact absurd H (by simp)
            ·rw [if_neg c12] at H
             exact absurd H (by simp)
           ·rw [if_neg c11] at H
            exact absurd H (by simp)
          ·rw [if_neg c9] at H
           have c9b0:decide (x12_2 < (rd l0 x10_1))=false:=decide_eq_false c9
           clear c9
           by_cases c16:x8_1.length < 17592186044416
           ·rw [if_pos c16] at H
            have LMc16:=zm c16
            clear c16
            obtain ⟨y302,hy302⟩:∃ y_:List Int,y_=(x8_1 ++ [x11_2]):=⟨_,rfl⟩
            replace H:(slipwayref01_Unpack.l0 k2 l0 l1 t298 y302 x9_2 (wrap64 (x10_1 + 1)))=some (r1,r2):=by first|(rw [hy302];with_reducible exact H)|(have H2_:=(Option.bind_some _ _).symm.trans H;rw [hy302];with_reducible exact H2_)|(have H2_:=(Option.bind_some _ _).symm.trans H;with_reducible exact H2_)|with_reducible exact H|(rw [hy302];exact H)|exact H
            have Ny302:=zm hy302
            clear hy302
            have H':=zm H
            clear H
            have p300:0≤(x10_1:Int):=za_
            have q300:x10_1 < (l0.length:Int):=za_
            obtain ⟨ad300,e300,hx300_0⟩:=Kd.at_int HR0.out x10_1 p300 q300
            cases e300
            replace hx300_0:=zhx HB hx300_0
            replace p300:=eq_true p300
            replace q300:=eq_true q300
            go_wp2_with (first|((with_reducible refine gate_builtin (b:=.append) (xs:=#[.tmp 56,.tmp 58]) rfl ?_);at_builtin;refine Kd.R_append (Kd.int .u64) (w0:=w) w.heap.size rfl (.tmp 56) (.tmp 58) 61 58 (.int .u64 0) 8 rfl Try.underlying61 info58 rfl (by decide) (by omega) u8 x8_1 x11_2 [.int .u64 x11_2] (fun _=>True) (fun _=>False) rfl rfl ?aP (fun _ hk=>hk.elim) ?aF ?aO ?aB ?aS ?aL ?_;(case aP=>exact rfl);(case aB=>exact (zb_));(case aF=>exact (fun _ _=>trivial));(case aO=>exact (by (with_reducible repeat (first|apply zrA|apply zrN|apply zrD));exact HO_8.out));(case aS=>exact (below_size (zb_)));(case aL=>have:=LMc16.out;omega);intro v303 w17 ho hb hg hat;rw [← Ny302.out] at ho;have n0_:=zm (hb);have n1_:=zm (ho);clear HB HO_8;have HB:=n0_;have HO304:=n1_;clear n0_ n1_;clear ho hb hg hat))
            go_roundg k2
            case measure=>have:=HK1.out;have:=HK2.out;omega
            case rel=>exact ⟨(y302),(x9_2),(wrap64 (x10_1 + 1)),zs_,zs_,H',⟨by have:=HK1.out;have:=HK2.out;omega⟩,⟨by (with_reducible repeat (first|apply zrA|apply zrN|apply zrD));exact HO304.out⟩,⟨zb_⟩⟩
           ·rw [if_neg c16] at H
            exact absurd H (by simp)
         ·rw [if_neg c8] at H
          exact absurd H (by simp)
        ·rw [if_neg c7] at H
         exact absurd H (by simp)
     ·rw [if_neg c6] at H
      have c6b0:decide (x10_1 < (l0.length:Int))=false:=decide_eq_false c6
      clear c6
      have H':=zm H
      clear H
      go_wp2
      go_loopg [9] k1 (fun kq v9 w'=>∃ (x9_2:Int),v9=.int .i64 x9_2∧Aside0 (slipwayref01_Unpack.l2 kq l1 t298 x8_1 x9_2=some (r1,r2))∧Aside0 (kq≤k1)∧Aside0 (Kd.R (Kd.int .u64) 58 w' w.heap.size (fun _=>True) u8 x8_1)∧Aside0 (Below w.heap.size w w'))
      case atStart=>exact ⟨(x9_1),zs_,H',⟨Nat.le_refl _⟩,⟨by (with_reducible repeat (first|apply zrA|apply zrN|apply zrD));exact HO_8.out⟩,⟨zb_⟩⟩
      case round =>
       clear H'
       try clear c1
       try clear p2
       try clear c3
       try clear p3
       try clear q3
       try clear hx3
       try clear c4
       try clear c4b0
       try clear c4b1
       try clear c5
       try clear c5b0
       try clear c5b1
       try clear c6
       try clear c6b0
       try clear p6
       try clear c7
       try clear c7b0
       try clear c8
       try clear c8b0
       try clear c9
       try clear c9b0
       try clear c11
       try clear c11b0
       try clear c12
       try clear c12b0
       try clear c14
       try clear c14b0
       try clear c14b1
       try clear c16
       try clear hx300_0
       try clear hx301_0
       try clear p2
       try clear p300
       try clear p301
       try clear q300
       try clear q301
       obtain ⟨x9_2,rfl,HA,HK2,HO_8,HB⟩:=hrel
       cases gk with
       | zero=>exact absurd HA.out (by simp [slipwayref01_Unpack.l2])
       | succ k2 =>
        have H:=HA.out
        clear HA
        simp only [slipwayref01_Unpack.l2] at H
        by_cases c18:x9_2 < (wrap64 (8 * t298))
        ·rw [if_pos c18] at H
         have c18b0:decide (x9_2 < (wrap64 (8 * t298)))=true:=decide_eq_true c18
         clear c18
         obtain ⟨ji19,hji19⟩:∃ j_:Int,(wrap64 (Int.tdiv x9_2 8))=j_:=⟨_,rfl⟩
         replace H:(if 0≤(ji19) then (if (ji19) < (l1.length:Int) then (if 0≤(IntKind.u64.wrap (wrap64 (7 - (Int.tmod x9_2 8)))) then (if (Go.bits .and .u8 (shr .u8 (rd l1 (ji19)) (IntKind.u64.wrap (wrap64 (7 - (Int.tmod x9_2 8))))) 1)=0 then (slipwayref01_Unpack.l2 k2 l1 t298 x8_1 (wrap64 (x9_2 + 1))) else (some (([]:List Int),1))) else (none)) else (none)) else (none))=some (r1,r2):=by first|(rw [hji19] at H;exact H)|(simp only [hji19] at H ⊢;exact H)
         have hji19w:(IntKind.i64.wrap (Int.tdiv x9_2 8))=ji19:=(i64_w _).trans hji19
         by_cases c20:0≤(ji19)
         ·rw [if_pos c20] at H
          have c20b0:decide (0≤(ji19))=true:=decide_eq_true c20
          clear c20
          by_cases c21:(ji19) < (l1.length:Int)
          ·rw [if_pos c21] at H
           have c21b0:decide ((ji19) < (l1.length:Int))=true:=decide_eq_true c21
           clear c21
           obtain ⟨ji22,hji22⟩:∃ j_:Int,(IntKind.u64.wrap (wrap64 (7 - (Int.tmod x9_2 8))))=j_:=⟨_,rfl⟩
           replace H:(if 0≤(ji22) then (if (Go.bits .and .u8 (shr .u8 (rd l1 (ji19)) (ji22)) 1)=0 then (slipwayref01_Unpack.l2 k2 l1 t298 x8_1 (wrap64 (x9_2 + 1))) else (some (([]:List Int),1))) else (none))=some (r1,r2):=by first|(rw [hji22] at H;exact H)|(simp only [hji22] at H ⊢;exact H)
           by_cases c23:0≤(ji22)
           ·rw [if_pos c23] at H
            have c23b0:=eq_true c23
            have c23b1:decide (0≤(ji22))=true:=decide_eq_true c23
            clear c23
            obtain ⟨ji24,hji24⟩:∃ j_:Int,(shr .u8 (rd l1 (ji19)) (ji22))=j_:=⟨_,rfl⟩
            replace H:(if (Go.bits .and .u8 (ji24) 1)=0 then (slipwayref01_Unpack.l2 k2 l1 t298 x8_1 (wrap64 (x9_2 + 1))) else (some (([]:List Int),1)))=some (r1,r2):=by first|(rw [hji24] at H;exact H)|(simp only [hji24] at H ⊢;exact H)
            have hji24_:((rd l1 (ji19)) / 2 ^ min (ji22).toNat 8)=ji24:=hji24
            have hji24z:(ji22)≤8 → ((rd l1 (ji19)) / 2 ^ (ji22).toNat)=ji24:=shr_small hji24
            by_cases c25:(Go.bits .and .u8 (ji24) 1)=0
            ·rw [if_pos c25] at H
             have c25b0:((Go.bits .and .u8 (ji24) 1) == 0)=true:=beq_iff_eq.mpr c25
             have c25b1:((Go.bits .and .u8 (ji24) 1) != 0)=false:=bne_eq_false_iff_eq.mpr c25
             clear c25
             have H':=zm H
             clear H
             have p305:0≤((ji19):Int):=za_
             have q305:(ji19) < (l1.length:Int):=za_
             obtain ⟨ad305,e305,hx305_0⟩:=Kd.at_int HR1.out (ji19) p305 q305
             cases e305
             replace hx305_0:=zhx HB hx305_0
             replace p305:=eq_true p305
             replace q305:=eq_true q305
             go_wp2
             go_roundg k2
             case measure=>have:=HK1.out;have:=HK2.out;omega
             case rel=>exact ⟨(wrap64 (x9_2 + 1)),zs_,H',⟨by have:=HK1.out;have:=HK2.out;omega⟩,⟨by (with_reducible repeat (first|apply zrA|apply zrN|apply zrD));exact HO_8.out⟩,⟨zb_⟩⟩
            ·rw [if_neg c25] at H
             have c25b0:((Go.bits .and .u8 (ji24) 1) == 0)=false:=beq_eq_false_iff_ne.mpr c25
             have c25b1:((Go.bits .and .u8 (ji24) 1) != 0)=true:=bne_iff_ne.mpr c25
             simp only [Option.some.injEq,Prod.mk.injEq] at H
             obtain ⟨rfl,rfl⟩:=H
             have p305:0≤((ji19):Int):=za_
             have q305:(ji19) < (l1.length:Int):=za_
             obtain ⟨ad305,e305,hx305_0⟩:=Kd.at_int HR1.out (ji19) p305 q305
             cases e305
             replace hx305_0:=zhx HB hx305_0
             replace p305:=eq_true p305
             replace q305:=eq_true q305
             go_wp2
             go_ret2
             exact ⟨_,by first|rfl|(simp [errW_none,errW_some] <;> rfl)|(simp only [← hji19,← hji22,← hji24];first|rfl|(simp [errW_none,errW_some] <;> rfl))|(simp [*,errW_none,errW_some] <;> rfl),zr_,zb_⟩
           ·rw [if_neg c23] at H
            exact absurd H (by simp)
          ·rw [if_neg c21] at H
           exact absurd H (by simp)
         ·rw [if_neg c20] at H
          exact absurd H (by simp)
        ·rw [if_neg c18] at H
         have c18b0:decide (x9_2 < (wrap64 (8 * t298)))=false:=decide_eq_false c18
         clear c18
         simp only [Option.some.injEq,Prod.mk.injEq] at H
         obtain ⟨rfl,rfl⟩:=H
         go_wp2
         go_ret2
         exact ⟨_,ze_,by (with_reducible repeat (first|apply zrA|apply zrN|apply zrD));exact HO_8.out,zb_⟩
  ·rw [if_neg c5] at H
   have c5b0:((l1.length:Int) == t298)=false:=beq_eq_false_iff_ne.mpr c5
   have c5b1:((l1.length:Int) != t298)=true:=bne_iff_ne.mpr c5
   simp only [Option.some.injEq,Prod.mk.injEq] at H
   obtain ⟨rfl,rfl⟩:=H
   go_enter Try.func38,Try.ntmps38
   go_wp2_with (first|((with_reducible refine gate_callee (f:=51) rfl ?_);refine goesL_ (some 15) rfl rfl Try.func51 (by kernel_rfl) rfl #[.slice A0 l0.length c0] rfl (by (try simp only [List.map_toArray,List.map_cons,List.map_nil]);first|done|rfl|(simp only [List.length_drop,List.length_take];rfl)) ?_;(with_reducible refine (slipwayref01_Width.calls k _ _ l0 t298 t299 _ ?side1 ?side2 A3.out).mono ?_);(case side1=>repeat (first|exact HR0.out|(with_reducible refine Kd.C_alloc ?_ _)|(with_reducible refine Kd.C_drewN ?_ _)|(with_reducible refine Kd.C_drew ?_)));(case side2=>exact HC0.out);rintro e w' ⟨rfl,⟨nd,rfl⟩⟩;refine ⟨_,rfl,?_⟩))
   go_ret2
   exact ⟨_,ze_,zr_,zb_⟩
 ·rw [if_neg c4] at H
  have c4b0:(t299 == 0)=false:=beq_eq_false_iff_ne.mpr c4
  have c4b1:(t299 != 0)=true:=bne_iff_ne.mpr c4
  simp only [Option.some.injEq,Prod.mk.injEq] at H
  obtain ⟨rfl,rfl⟩:=H
  go_enter Try.func38,Try.ntmps38
  go_wp2_with (first|((with_reducible refine gate_callee (f:=51) rfl ?_);refine goesL_ (some 15) rfl rfl Try.func51 (by kernel_rfl) rfl #[.slice A0 l0.length c0] rfl (by (try simp only [List.map_toArray,List.map_cons,List.map_nil]);first|done|rfl|(simp only [List.length_drop,List.length_take];rfl)) ?_;(with_reducible refine (slipwayref01_Width.calls k _ _ l0 t298 t299 _ ?side1 ?side2 A3.out).mono ?_);(case side1=>repeat (first|exact HR0.out|(with_reducible refine Kd.C_alloc ?_ _)|(with_reducible refine Kd.C_drewN ?_ _)|(with_reducible refine Kd.C_drew ?_)));(case side2=>exact HC0.out);rintro e w' ⟨rfl,⟨nd,rfl⟩⟩;refine ⟨_,rfl,?_⟩))
  go_ret2
  exact ⟨_,ze_,zr_,zb_⟩
end Go.Proofs.Ytjoojmodghpimaa.Print
end
section
namespace Go.Proofs.Ytjoojmodghpimaa.Print
open Go.RowKit Go.Proofs.YtjoojmodghpimaaW.PrintWords Go.Proofs.YtjoojmodghpimaaW.PrintLast Go.Proofs.YtjoojmodghpimaaW.PrintMore
attribute [local go_sem] max2_int min2_int max_two min_two max_three min_three max_four min_four   -- for this text's walks alone
attribute [local go_sem ↓] Go.Proofs.Ytjoojmodghpimaa.Sem.isSome_setCell
attribute [local go_sem] Go.Instr.field Go.asAgg
set_option linter.unusedVariables false
set_option linter.unusedSimpArgs false
mutual
def slipwayref14_Decode.j0:Nat → List Int → List Int → Bool → Option (Int × Int × Int × Int × Int × Int × (List (S51)) × Int)
 | 0,_,_,_=>none
 | k + 1,x0,x4,x32=>if x32=true then (some (0,0,0,0,0,0,([]:List (S51)),140)) else (if 0 < (x4.length:Int) then (if 1 < (x4.length:Int) then (if 4 < (x4.length:Int) then (if 5 < (x4.length:Int) then (if 6 < (x4.length:Int) then (if 7 < (x4.length:Int) then (slipwayref14_Decode.l0 k x0 x4 0 (wrap64 (rd x4 0)) (wrap64 (rd x4 4)) (wrap64 (rd x4 5)) (wrap64 (rd x4 6)) (wrap64 (rd x4 7)) (wrap64 (rd x4 1)) ([]:List (S51))) else (none)) else (none)) else (none)) else (none)) else (none)) else (none))
def slipwayref14_Decode.l0:Nat → List Int → List Int → Int → Int → Int → Int → Int → Int → Int → List (S51) → Option (Int × Int × Int × Int × Int × Int × (List (S51)) × Int)
 | 0,_,_,_,_,_,_,_,_,_,_=>none
 | k + 1,x0,x4,x7,x324000,x324001,x324002,x324003,x324004,x324005,x324006=>if 2 < (x4.length:Int) then (if x7 < (wrap64 (rd x4 2)) then ((slipwayref14_rootWidths.f).bind fun t325=>(if 0≤(wrap64 (24 + (wrap64 (9 * x7)))) then (if (wrap64 (24 + (wrap64 (9 * x7))))≤(wrap64 (33 + (wrap64 (9 * x7)))) then (if (wrap64 (33 + (wrap64 (9 * x7))))≤(x0.length:Int) then ((slipwayref01_Unpack.f k t325 ((x0.take ((wrap64 (33 + (wrap64 (9 * x7)))):Int).toNat).drop ((wrap64 (24 + (wrap64 (9 * x7)))):Int).toNat)).bind fun bt329=>(if 0 < (bt329.1.length:Int) then (if 1 < (bt329.1.length:Int) then (if 2 < (bt329.1.length:Int) then (if x324006.length < 5864062014805 then (slipwayref14_Decode.l0 k x0 x4 (wrap64 (x7 + 1)) x324000 x324001 x324002 x324003 x324004 x324005 (x324006 ++ [(⟨wrap64 (rd bt329.1 0),wrap64 (rd bt329.1 1),wrap64 (rd bt329.1 2)⟩:S51)])) else (none)) else (none)) else (none)) else (none))) else (none)) else (none)) else (none))) else ((slipwayref14_Encode.f k x324000 x324001 x324002 x324003 x324004 x324005 x324006).bind fun bt339=>(if bt339.2=0 then (if (strOfNums bt339.1).toList=(strOfNums x0).toList then (some (x324000,x324001,x324002,x324003,x324004,x324005,x324006,0)) else (some (0,0,0,0,0,0,([]:List (S51)),140))) else (some (0,0,0,0,0,0,([]:List (S51)),140))))) else (none)
end
def slipwayref14_Decode.f (k:Nat) (l0:List Int):Option (Int × Int × Int × Int × Int × Int × (List (S51)) × Int):=if (l0.length:Int)=64 then ((slipwayref14_headWidths.f).bind fun t307=>(if 24≤(l0.length:Int) then ((slipwayref01_Unpack.f k t307 (l0.take 24)).bind fun bt311=>(if 2 < (bt311.1.length:Int) then (if (rd bt311.1 2) > 4 then (slipwayref14_Decode.j0 k l0 bt311.1 true) else (if 5 < (bt311.1.length:Int) then (slipwayref14_Decode.j0 k l0 bt311.1 (decide ((rd bt311.1 5) > 16777216))) else (none))) else (none))) else (none))) else (some (0,0,0,0,0,0,([]:List (S51)),140))
def slipwayref14_Decode.T3:Bool × List (List Nat × List Nat):=(true,[([],[]),([],[]),([1],[1]),([0,2,0],[0,2]),([3],[3]),([4],[4]),([4],[4]),([5,3,0,1,2,3,4,5],[5]),([6,7,0,1,2,3,4,5,6,7],[6])])
def slipwayref14_Decode.B3:List Nat:=[0,0,2,7,15,31,31,63,255]
theorem slipwayref14_Decode.tab3:rtab .any (opsOf Try.f13 3)=slipwayref14_Decode.T3:=by kernel_rfl
theorem slipwayref14_Decode.bits3:waitsOk slipwayref14_Decode.T3.2 slipwayref14_Decode.B3=true:=by kernel_rfl
def slipwayref14_Decode.T6:Bool × List (List Nat × List Nat):=(true,[([],[]),([0],[0]),([1],[1]),([2],[2]),([],[]),([4],[4]),([5],[5]),([6],[6]),([],[]),([8],[8]),([9],[9]),([10],[10]),([],[]),([12],[12]),([13],[13]),([14],[14]),([],[]),([16],[16]),([17],[17]),([18],[18]),([],[]),([20],[20]),([21],[21]),([22],[22]),([3,7,11,15,19,23],[3,7,11,15,19,23]),([],[]),([25,24,0,1,2,3,4,5,6,7,8,9,10,11,12,13,14,15,16,17,18,19,20,21,22,23,24,25],[24,25])])
def slipwayref14_Decode.B6:List Nat:=[0,1,3,7,0,16,48,112,0,256,768,1792,0,4096,12288,28672,0,65536,196608,458752,0,1048576,3145728,7340032,16777215,0,67108863]
theorem slipwayref14_Decode.tab6:rtab .any (opsOf Try.f13 6)=slipwayref14_Decode.T6:=by kernel_rfl
theorem slipwayref14_Decode.bits6:waitsOk slipwayref14_Decode.T6.2 slipwayref14_Decode.B6=true:=by kernel_rfl
def slipwayref14_Decode.T10:Bool × List (List Nat × List Nat):=(true,[([],[]),([],[]),([],[]),([2],[2]),([3],[3]),([],[]),([5],[5]),([6],[6]),([1,4,7],[1,4,7]),([0,8,0],[0,8]),([9],[9]),([10],[10]),([10],[10]),([11,9,0,1,2,3,4,5,6,7,8,9,10,11],[11]),([12,13,0,1,2,3,4,5,6,7,8,9,10,11,12,13],[12])])
def slipwayref14_Decode.B10:List Nat:=[0,0,0,4,12,0,32,96,254,511,1023,2047,2047,4095,16383]
theorem slipwayref14_Decode.tab10:rtab .any (opsOf Try.f13 10)=slipwayref14_Decode.T10:=by kernel_rfl
theorem slipwayref14_Decode.bits10:waitsOk slipwayref14_Decode.T10.2 slipwayref14_Decode.B10=true:=by kernel_rfl
def slipwayref14_Decode.T11:Bool × List (List Nat × List Nat):=(true,[([],[]),([0],[0]),([],[]),([2],[2]),([3],[3]),([4],[4]),([],[]),([6],[6]),([7],[7]),([8],[8]),([],[]),([10],[10]),([11],[11]),([12],[12]),([5,9,13],[5,9,13]),([14],[14]),([1,15],[1,15]),([0,1,2,3,4,5,6,7,8,9,10,11,12,13,14,15,16],[]),([17,16,16,0,1,2,3,4,5,6,7,8,9,10,11,12,13,14,15,16],[16,17])])
def slipwayref14_Decode.B11:List Nat:=[0,1,0,4,12,28,0,64,192,448,0,1024,3072,7168,16380,32764,65535,131071,262143]
theorem slipwayref14_Decode.tab11:rtab .any (opsOf Try.f13 11)=slipwayref14_Decode.T11:=by kernel_rfl
theorem slipwayref14_Decode.bits11:waitsOk slipwayref14_Decode.T11.2 slipwayref14_Decode.B11=true:=by kernel_rfl
set_option maxHeartbeats 8000000 in
set_option maxRecDepth 100000 in
theorem slipwayref14_Decode.calls (k:Nat) (A0:Option Addr) (c0:Nat) (l0:List Int) (r1:Int) (r2:Int) (r3:Int) (r4:Int) (r5:Int) (r6:Int) (r7:List (S51)) (r8:Int) (w:World) (hr0:Kd.C (Kd.int .u8) w A0 l0.length l0) (hc0:l0.length≤c0) (h:slipwayref14_Decode.f k l0=some (r1,r2,r3,r4,r5,r6,r7,r8)) :
  Calls Try.prog 13 #[.slice A0 l0.length c0] w fun e w'=>∃ v6_:Value,e=.returned (.tuple #[.agg #[.int .i64 r1,.int .i64 r2,.int .i64 r3,.int .i64 r4,.int .i64 r5,.int .i64 r6,v6_],.int .i64 r8])∧Kd.R k51 51 w' w.heap.size (fun _=>True) v6_ r7∧Below w.heap.size w w':=by
 have hu24:=Try.underlying24
 have hu51:=Try.underlying51
 have HR0:=zm hr0
 have HC0:=zm hc0
 clear hr0 hc0
 have HB:=zm (Below.refl w.heap.size w)
 have H:(if (l0.length:Int)=64 then ((slipwayref14_headWidths.f).bind fun t307=>(if 24≤(l0.length:Int) then ((slipwayref01_Unpack.f k t307 (l0.take 24)).bind fun bt311=>(if 2 < (bt311.1.length:Int) then (if (rd bt311.1 2) > 4 then (slipwayref14_Decode.j0 k l0 bt311.1 true) else (if 5 < (bt311.1.length:Int) then (slipwayref14_Decode.j0 k l0 bt311.1 (decide ((rd bt311.1 5) > 16777216))) else (none))) else (none))) else (none))) else (some (0,0,0,0,0,0,([]:List (S51)),140)))=some (r1,r2,r3,r4,r5,r6,r7,r8):=h
 clear h
 by_cases c2:(l0.length:Int)=64
 ·rw [if_pos c2] at H
  have c2b0:((l0.length:Int) == 64)=true:=beq_iff_eq.mpr c2
  have c2b1:((l0.length:Int) != 64)=false:=bne_eq_false_iff_eq.mpr c2
  clear c2
  replace H:=Option.bind_eq_some_iff.mp H
  obtain ⟨t307,A30,H⟩:=H
  replace H:(if 24≤(l0.length:Int) then ((slipwayref01_Unpack.f k t307 (l0.take 24)).bind fun bt311=>(if 2 < (bt311.1.length:Int) then (if (rd bt311.1 2) > 4 then (slipwayref14_Decode.j0 k l0 bt311.1 true) else (if 5 < (bt311.1.length:Int) then (slipwayref14_Decode.j0 k l0 bt311.1 (decide ((rd bt311.1 5) > 16777216))) else (none))) else (none))) else (none))=some (r1,r2,r3,r4,r5,r6,r7,r8):=H
  have A3:=zm A30
  clear A30
  by_cases c4:24≤(l0.length:Int)
  ·rw [if_pos c4] at H
   have c4b0:=eq_true c4
   have c4b1:decide (24≤(l0.length:Int))=true:=decide_eq_true c4
   clear c4
   replace H:=Option.bind_eq_some_iff.mp H
   obtain ⟨⟨t311,t312⟩,A50,H⟩:=H
   replace H:(if 2 < (t311.length:Int) then (if (rd t311 2) > 4 then (slipwayref14_Decode.j0 k l0 t311 true) else (if 5 < (t311.length:Int) then (slipwayref14_Decode.j0 k l0 t311 (decide ((rd t311 5) > 16777216))) else (none))) else (none))=some (r1,r2,r3,r4,r5,r6,r7,r8):=H
   have A5:=zm A50
   clear A50
   have HC6:=zm H
   clear H
   go_enter Try.func13,Try.ntmps13
   try go_wp2_with (first|((with_reducible refine gate_dst (N:=2) rfl ?_);refine zbx 2 #[.int .i64 0,.int .i64 0,.int .i64 0,.int .i64 0,.int .i64 0,.int .i64 0,.slice none 0 0] 24 ?_;intro gb306 hg w7 hbox hb;have n0_:=zkH HB hb;have n1_:=zm (hbox);have n2_:=zkG HB hg;have n3_:=zkG HB hg;clear HB;have HB:=n0_;have BK306:=n1_;have GW306:=n2_;have GE306:=n3_;clear n0_ n1_ n2_ n3_;clear hb hbox hg))
   have n0_:=zm (zbD BK306.out)
   have n1_:=zm (zlD HB.out)
   clear BK306 HB
   have BK306:=n0_
   have HB:=n1_
   clear n0_ n1_
   obtain ⟨i09,hi09,_,hsz9,_⟩:=info_parts info5
   obtain ⟨hcut9,hA9,hC9⟩:=print_take_of (P:=Try.prog) (Value.int .u8) 0 25 5 .i64 Try.underlying25 hi09 hsz9 A0 c0 l0 24 (by omega) (za_) HC0.out
   have HR310:=zm (Kd.C_of_reads (h1:=fun _=>rfl) (hA9 _ (Kd.reads_of_C HR0.out)))
   have HC310:=zm hC9
   clear hA9 hC9 hi09 hsz9
   refine start_ (n:=9) (S:=fun w'=>True) (ds:=[]) (Array.replicate 9 false) (by kernel_rfl) rfl rfl trivial (fun hHeld=>?_);refine with_tabW slipwayref14_Decode.tab3 slipwayref14_Decode.bits3 (fun HT_ HW_=>?_)
   generalize w7.drew=w8 at BK306 HB HR310 hHeld ⊢
   refine zpu 1 ?_
   refine zpu 2 ?_
   refine zon 0 (some 17) (fun K hK=>?_)
   refine zgo Try.func36 #[] ?_
   with_reducible refine (slipwayref14_headWidths.calls  t307 _ A3.out).mono ?_
   rintro e w10 ⟨v308,rfl,ho0,hb⟩
   refine ⟨_,rfl,?_⟩
   have n0_:=zm (Kd.R_lower ho0 (below_size (zb_)))
   have n1_:=zkB BK306 hb
   have n2_:=zkH HB hb
   clear BK306 HB
   have HO309:=n0_
   have BK306:=n1_
   have HB:=n2_
   clear n0_ n1_ n2_
   (try clear hb)
   (try clear hb2)
   (try clear hk)
   (try clear hi)
   (try clear ho0)
   obtain ⟨Ao11,co11,eo11⟩:=Kd.R_slice HO309.out
   (first|subst eo11|(injection eo11 with f1_ f2_ f3_;have f4_:=f1_.symm;have f5_:=f3_.symm;clear f1_ f2_ f3_;subst f4_;subst f5_))
   refine hK.out _ _ trivial (fun hHeld=>?_)
   clear hK K
   refine znm (some 17) ?_
   refine zon 3 (some 20) (fun K hK=>?_)
   refine goes_ Try.func38 (by kernel_rfl) rfl #[.slice Ao11 t307.length co11,.slice A0 (l0.take 24).length c0] (by rfl) rfl rfl (by (try simp only [List.map_toArray,List.map_cons,List.map_nil]);first|done|(rw [show (l0.take 24).length=24 from (by rw [List.length_take];have h_:(24:Int)≤(l0.length:Int):=za_;omega)] <;> rfl)|rfl|(simp only [List.length_drop,List.length_take];rfl)) ?_
   with_reducible refine (slipwayref01_Unpack.calls k _ _ t307 _ _ (l0.take 24) t311 t312 _ ?side1 ?side2 ?side3 ?side4 A5.out).mono ?_
   (case side1=>repeat (first|exact (Kd.R_reads' HO309.out).2.2|(with_reducible refine Kd.C_alloc ?_ _)|(with_reducible refine Kd.C_drewN ?_ _)|(with_reducible refine Kd.C_drew ?_)))
   (case side2=>exact (Kd.R_reads' HO309.out).2.1)
   (case side3=>exact zC HR310)
   (case side4=>exact HC310.out)
   rintro e w12 ⟨v313,rfl,ho0,hb⟩
   refine ⟨_,rfl,?_⟩
   have n0_:=zm (Kd.R_below (by (with_reducible repeat (first|apply zrA|apply zrN|apply zrD));exact HO309.out) hb)
   have n1_:=zm (Kd.R_lower ho0 (below_size (zb_)))
   have n2_:=zkB BK306 hb
   have n3_:=zkH HB hb
   clear HO309 BK306 HB
   have HO309:=n0_
   have HO314:=n1_
   have BK306:=n2_
   have HB:=n3_
   clear n0_ n1_ n2_ n3_
   (try clear hb)
   (try clear hb2)
   (try clear hk)
   (try clear hi)
   (try clear ho0)
   refine hK.out _ _ trivial (fun hHeld=>?_)
   clear hK K
   refine znm (some 20) ?_
   refine zpu 4 ?_
   refine zpu 5 ?_
   refine zpu 6 ?_
   refine zpu 7 ?_
   refine zpu 8 ?_
   refine zdo ?_
   go_upto_region 4 with (fail)
   go_cut [32] (fun v32 wc=>∃ (kq:Nat) (x32_5:Bool),v32=.bool x32_5∧Aside0 (slipwayref14_Decode.j0 kq l0 t311 x32_5=some (r1,r2,r3,r4,r5,r6,r7,r8))∧Aside0 (kq≤k)∧Aside0 (Kd.R (Kd.int .u64) 58 wc w.heap.size (fun _=>True) v313 t311)∧Aside0 (wc.heap[gb306]?=some (.cells #[.int .i64 0,.int .i64 0,.int .i64 0,.int .i64 0,.int .i64 0,.int .i64 0,(.slice none 0 0)] 24 (0,0)))∧Aside0 (Below w.heap.size w wc))
   case first =>
    have H:=HC6.out
    clear HC6
    by_cases c13:2 < (t311.length:Int)
    ·rw [if_pos c13] at H
     have c13b0:decide (2 < (t311.length:Int))=true:=decide_eq_true c13
     have c13b1:decide (2 < t311.length)=true:=decide_eq_true (by omega)
     clear c13
     (first|rw [c13b0]|(simp only [i64_w,i32_w];rw [c13b0])|skip)
     by_cases c14:(rd t311 2) > 4
     ·rw [if_pos c14] at H
      have c14b0:decide (4 < (rd t311 2))=true:=decide_eq_true c14
      clear c14
      have H':=zm H
      clear H
      obtain ⟨Ao15,co15,eo15⟩:=Kd.R_slice HO314.out
      subst eo15
      have p315:0≤(2:Int):=(by omega)
      have q315:2 < (t311.length:Int):=za_
      obtain ⟨ad315,e315,hx315_0⟩:=Kd.at_int (Kd.R_reads' HO314.out).2.2 2 p315 q315
      cases e315
      (try simp only [show (2:Int).toNat=2 from rfl,Nat.reduceMul,Nat.reduceEqDiff,Go.Addr.add,↓reduceIte] at hx315_0)
      have qi315:(2 < t311.length)=True:=eq_true (by omega)
      (try rw [show ((2:Int)).toNat=2 from rfl] at hx315_0)
      replace p315:=eq_true p315
      replace q315:=eq_true q315
      go_wp2
      go_meet
      case rel=>exact ⟨_,(true),zs_,H',⟨by first|omega|exact Nat.le_refl _⟩,⟨by (with_reducible repeat (first|apply zrA|apply zrN|apply zrD));exact HO314.out⟩,⟨zx_⟩,⟨zb_⟩⟩
     ·rw [if_neg c14] at H
      have c14b0:decide (4 < (rd t311 2))=false:=decide_eq_false c14
      clear c14
      by_cases c16:5 < (t311.length:Int)
      ·rw [if_pos c16] at H
       have c16b0:decide (5 < (t311.length:Int))=true:=decide_eq_true c16
       have c16b1:decide (5 < t311.length)=true:=decide_eq_true (by omega)
       clear c16
       have H':=zm H
       clear H
       obtain ⟨Ao17,co17,eo17⟩:=Kd.R_slice HO314.out
       subst eo17
       have p315:0≤(2:Int):=(by omega)
       have q315:2 < (t311.length:Int):=za_
       obtain ⟨ad315,e315,hx315_0⟩:=Kd.at_int (Kd.R_reads' HO314.out).2.2 2 p315 q315
       cases e315
       (try simp only [show (2:Int).toNat=2 from rfl,Nat.reduceMul,Nat.reduceEqDiff,Go.Addr.add,↓reduceIte] at hx315_0)
       have qi315:(2 < t311.length)=True:=eq_true (by omega)
       (try rw [show ((2:Int)).toNat=2 from rfl] at hx315_0)
       replace p315:=eq_true p315
       replace q315:=eq_true q315
       have p316:0≤(5:Int):=(by omega)
       have q316:5 < (t311.length:Int):=za_
       obtain ⟨ad316,e316,hx316_0⟩:=Kd.at_int (Kd.R_reads' HO314.out).2.2 5 p316 q316
       obtain rfl:ad315=ad316:=(by injection e316)
       (try simp only [show (5:Int).toNat=5 from rfl,Nat.reduceMul,Nat.reduceEqDiff,Go.Addr.add,↓reduceIte] at hx316_0)
       have qi316:(5 < t311.length)=True:=eq_true (by omega)
       (try rw [show ((5:Int)).toNat=5 from rfl] at hx316_0)
       replace p316:=eq_true p316
       replace q316:=eq_true q316
       go_wp2
       go_meet
       case rel=>exact ⟨_,(decide ((rd t311 5) > 16777216)),zs_,H',⟨by first|omega|exact Nat.le_refl _⟩,⟨by (with_reducible repeat (first|apply zrA|apply zrN|apply zrD));exact HO314.out⟩,⟨zx_⟩,⟨zb_⟩⟩
      ·rw [if_neg c16] at H
       exact absurd H (by simp)
    ·rw [if_neg c13] at H
     exact absurd H (by simp)
   case rest =>
    clear HC6
    try clear c1
    try clear c2
    try clear c2b0
    try clear c2b1
    try clear p2
    try clear c3
    try clear p3
    try clear q3
    try clear hx3
    try clear qi3
    try clear c4
    try clear c4b0
    try clear c4b1
    try clear c13
    try clear c13b0
    try clear c13b1
    try clear c14
    try clear c14b0
    try clear c16
    try clear c16b0
    try clear c16b1
    try clear hx315_0
    try clear hx316_0
    try clear p315
    try clear p316
    try clear q315
    try clear q316
    obtain ⟨kq,x32_5,rfl,HA,HJ5,HO_4,BK306,HB⟩:=hcut
    cases kq with
    | zero=>exact absurd HA.out (by simp [slipwayref14_Decode.j0])
    | succ kj5 =>
     have H:=HA.out
     clear HA
     simp only [slipwayref14_Decode.j0] at H
     by_cases c18:x32_5=true
     ·subst c18
      have H1:(some (0,0,0,0,0,0,([]:List (S51)),140))=some (r1,r2,r3,r4,r5,r6,r7,r8):=by rw [if_pos rfl] at H;exact H
      clear H
      have H:=H1
      clear H1
      simp only [Option.some.injEq,Prod.mk.injEq] at H
      obtain ⟨rfl,rfl,rfl,rfl,rfl,rfl,rfl,rfl⟩:=H
      obtain ⟨hcz19_0,hcz19_1,hcz19_2,hcz19_3,hcz19_4,hcz19_5,hcz19_6,hfz19_0,hfz19_1,hfz19_2,hfz19_3,hfz19_4,hfz19_5,hfz19_6⟩:=zc7 BK306.out
      go_wp2
      refine bodyPost_ret (results_ct rfl _ _ gb306 24 #[.int .i64 0,.int .i64 0,.int .i64 0,.int .i64 0,.int .i64 0,.int .i64 0,.slice none 0 0] (0,0) _ rfl (by (with_reducible repeat (first|refine zbN ?_ _|refine zbD ?_|refine zbA ?_ _));refine blk_put (cs:=#[.int .i64 0,.int .i64 0,.int .i64 0,.int .i64 0,.int .i64 0,.int .i64 0,.slice none 0 0]) ?_ 6 _ rfl;(with_reducible repeat (first|refine zbN ?_ _|refine zbD ?_|refine zbA ?_ _));refine blk_put (cs:=#[.int .i64 0,.int .i64 0,.int .i64 0,.int .i64 0,.int .i64 0,.int .i64 0,.slice none 0 0]) ?_ 5 _ rfl;(with_reducible repeat (first|refine zbN ?_ _|refine zbD ?_|refine zbA ?_ _));refine blk_put (cs:=#[.int .i64 0,.int .i64 0,.int .i64 0,.int .i64 0,.int .i64 0,.int .i64 0,.slice none 0 0]) ?_ 4 _ rfl;(with_reducible repeat (first|refine zbN ?_ _|refine zbD ?_|refine zbA ?_ _));refine blk_put (cs:=#[.int .i64 0,.int .i64 0,.int .i64 0,.int .i64 0,.int .i64 0,.int .i64 0,.slice none 0 0]) ?_ 3 _ rfl;(with_reducible repeat (first|refine zbN ?_ _|refine zbD ?_|refine zbA ?_ _));refine blk_put (cs:=#[.int .i64 0,.int .i64 0,.int .i64 0,.int .i64 0,.int .i64 0,.int .i64 0,.slice none 0 0]) ?_ 2 _ rfl;(with_reducible repeat (first|refine zbN ?_ _|refine zbD ?_|refine zbA ?_ _));refine blk_put (cs:=#[.int .i64 0,.int .i64 0,.int .i64 0,.int .i64 0,.int .i64 0,.int .i64 0,.slice none 0 0]) ?_ 1 _ rfl;(with_reducible repeat (first|refine zbN ?_ _|refine zbD ?_|refine zbA ?_ _));refine blk_put (cs:=#[.int .i64 0,.int .i64 0,.int .i64 0,.int .i64 0,.int .i64 0,.int .i64 0,.slice none 0 0]) ?_ 0 _ rfl;(with_reducible repeat (first|refine zbN ?_ _|refine zbD ?_|refine zbA ?_ _));exact BK306.out) Try.underlying24 rfl (by kernel_rfl)) rfl ?_
      exact ⟨_,ze_,zr_,zb_⟩
     ·replace c18:=Bool.eq_false_iff.mpr c18
      subst c18
      have H1:(if 0 < (t311.length:Int) then (if 1 < (t311.length:Int) then (if 4 < (t311.length:Int) then (if 5 < (t311.length:Int) then (if 6 < (t311.length:Int) then (if 7 < (t311.length:Int) then (slipwayref14_Decode.l0 kj5 l0 t311 0 (wrap64 (rd t311 0)) (wrap64 (rd t311 4)) (wrap64 (rd t311 5)) (wrap64 (rd t311 6)) (wrap64 (rd t311 7)) (wrap64 (rd t311 1)) ([]:List (S51))) else (none)) else (none)) else (none)) else (none)) else (none)) else (none))=some (r1,r2,r3,r4,r5,r6,r7,r8):=by rw [if_neg (show ¬ (false=true) by decide)] at H;exact H
      clear H
      have H:=H1
      clear H1
      by_cases c20:0 < (t311.length:Int)
      ·rw [if_pos c20] at H
       have c20b0:decide (0 < (t311.length:Int))=true:=decide_eq_true c20
       have c20b1:decide (0 < t311.length)=true:=decide_eq_true (by omega)
       clear c20
       by_cases c21:1 < (t311.length:Int)
       ·rw [if_pos c21] at H
        have c21b0:decide (1 < (t311.length:Int))=true:=decide_eq_true c21
        have c21b1:decide (1 < t311.length)=true:=decide_eq_true (by omega)
        clear c21
        by_cases c22:4 < (t311.length:Int)
        ·rw [if_pos c22] at H
         have c22b0:decide (4 < (t311.length:Int))=true:=decide_eq_true c22
         have c22b1:decide (4 < t311.length)=true:=decide_eq_true (by omega)
         clear c22
         by_cases c23:5 < (t311.length:Int)
         ·rw [if_pos c23] at H
          have c23b0:decide (5 < (t311.length:Int))=true:=decide_eq_true c23
          have c23b1:decide (5 < t311.length)=true:=decide_eq_true (by omega)
          clear c23
          by_cases c24:6 < (t311.length:Int)
          ·rw [if_pos c24] at H
           have c24b0:decide (6 < (t311.length:Int))=true:=decide_eq_true c24
           have c24b1:decide (6 < t311.length)=true:=decide_eq_true (by omega)
           clear c24
           by_cases c25:7 < (t311.length:Int)
           ·rw [if_pos c25] at H
            have c25b0:decide (7 < (t311.length:Int))=true:=decide_eq_true c25
            have c25b1:decide (7 < t311.length)=true:=decide_eq_true (by omega)
            clear c25
            have H':=zm H
            clear H
            try go_wp2
            have n0_:=zm (zrD HO_4.out)
            have n1_:=zm (zbD BK306.out)
            have n2_:=zm (zlD HB.out)
            clear HO_4 BK306 HB
            have HO_4:=n0_
            have BK306:=n1_
            have HB:=n2_
            clear n0_ n1_ n2_
            obtain ⟨Ao27,co27,eo27⟩:=Kd.R_slice HO_4.out
            (first|subst eo27|(injection eo27 with f1_ f2_ f3_;have f4_:=f1_.symm;have f5_:=f3_.symm;clear f1_ f2_ f3_;subst f4_;subst f5_))
            have p317:0≤(0:Int):=(by omega)
            have q317:0 < (t311.length:Int):=za_
            obtain ⟨ad317,e317,hx317_0⟩:=Kd.at_int (Kd.R_reads' HO_4.out).2.2 0 p317 q317
            cases e317
            have qi317:(0 < t311.length)=True:=eq_true (by omega)
            (try rw [show ((0:Int)).toNat=0 from rfl] at hx317_0)
            (try rw [Addr.add_zero'] at hx317_0)
            replace p317:=eq_true p317
            replace q317:=eq_true q317
            have p318:0≤(1:Int):=(by omega)
            have q318:1 < (t311.length:Int):=za_
            obtain ⟨ad318,e318,hx318_0⟩:=Kd.at_int (Kd.R_reads' HO_4.out).2.2 1 p318 q318
            obtain rfl:ad317=ad318:=(by injection e318)
            (try simp only [show (1:Int).toNat=1 from rfl,Nat.reduceMul,Nat.reduceEqDiff,Go.Addr.add,↓reduceIte] at hx318_0)
            have qi318:(1 < t311.length)=True:=eq_true (by omega)
            (try rw [show ((1:Int)).toNat=1 from rfl] at hx318_0)
            replace p318:=eq_true p318
            replace q318:=eq_true q318
            have p319:0≤(4:Int):=(by omega)
            have q319:4 < (t311.length:Int):=za_
            obtain ⟨ad319,e319,hx319_0⟩:=Kd.at_int (Kd.R_reads' HO_4.out).2.2 4 p319 q319
            obtain rfl:ad317=ad319:=(by injection e319)
            (try simp only [show (4:Int).toNat=4 from rfl,Nat.reduceMul,Nat.reduceEqDiff,Go.Addr.add,↓reduceIte] at hx319_0)
            have qi319:(4 < t311.length)=True:=eq_true (by omega)
            (try rw [show ((4:Int)).toNat=4 from rfl] at hx319_0)
            replace p319:=eq_true p319
            replace q319:=eq_true q319
            have p320:0≤(5:Int):=(by omega)
            have q320:5 < (t311.length:Int):=za_
            obtain ⟨ad320,e320,hx320_0⟩:=Kd.at_int (Kd.R_reads' HO_4.out).2.2 5 p320 q320
            obtain rfl:ad317=ad320:=(by injection e320)
            (try simp only [show (5:Int).toNat=5 from rfl,Nat.reduceMul,Nat.reduceEqDiff,Go.Addr.add,↓reduceIte] at hx320_0)
            have qi320:(5 < t311.length)=True:=eq_true (by omega)
            (try rw [show ((5:Int)).toNat=5 from rfl] at hx320_0)
            replace p320:=eq_true p320
            replace q320:=eq_true q320
            have p321:0≤(6:Int):=(by omega)
            have q321:6 < (t311.length:Int):=za_
            obtain ⟨ad321,e321,hx321_0⟩:=Kd.at_int (Kd.R_reads' HO_4.out).2.2 6 p321 q321
            obtain rfl:ad317=ad321:=(by injection e321)
            (try simp only [show (6:Int).toNat=6 from rfl,Nat.reduceMul,Nat.reduceEqDiff,Go.Addr.add,↓reduceIte] at hx321_0)
            have qi321:(6 < t311.length)=True:=eq_true (by omega)
            (try rw [show ((6:Int)).toNat=6 from rfl] at hx321_0)
            replace p321:=eq_true p321
            replace q321:=eq_true q321
            have p322:0≤(7:Int):=(by omega)
            have q322:7 < (t311.length:Int):=za_
            obtain ⟨ad322,e322,hx322_0⟩:=Kd.at_int (Kd.R_reads' HO_4.out).2.2 7 p322 q322
            obtain rfl:ad317=ad322:=(by injection e322)
            (try simp only [show (7:Int).toNat=7 from rfl,Nat.reduceMul,Nat.reduceEqDiff,Go.Addr.add,↓reduceIte] at hx322_0)
            have qi322:(7 < t311.length)=True:=eq_true (by omega)
            (try rw [show ((7:Int)).toNat=7 from rfl] at hx322_0)
            replace p322:=eq_true p322
            replace q322:=eq_true q322
            refine start_ (n:=27) (S:=fun w'=>w'.cell? ad317=some (.int .u64 (rd t311 0))∧w'.cell? ⟨ad317.block,ad317.off + 1,none⟩=some (.int .u64 (rd t311 1))∧w'.cell? ⟨ad317.block,ad317.off + 4,none⟩=some (.int .u64 (rd t311 4))∧w'.cell? ⟨ad317.block,ad317.off + 5,none⟩=some (.int .u64 (rd t311 5))∧w'.cell? ⟨ad317.block,ad317.off + 6,none⟩=some (.int .u64 (rd t311 6))∧w'.cell? ⟨ad317.block,ad317.off + 7,none⟩=some (.int .u64 (rd t311 7))) (ds:=[]) (Array.replicate 27 false) (by kernel_rfl) rfl rfl ⟨hx317_0,hx318_0,hx319_0,hx320_0,hx321_0,hx322_0⟩ (fun hHeld=>?_);refine with_tabW slipwayref14_Decode.tab6 slipwayref14_Decode.bits6 (fun HT_ HW_=>?_)
            generalize wc.drew=w26 at HO_4 BK306 HB hx317_0 hx318_0 hx319_0 hx320_0 hx321_0 hx322_0 hHeld ⊢
            refine zpu 0 ?_
            refine zpu 1 ?_
            refine zpu 4 ?_
            refine zpu 5 ?_
            refine zpu 8 ?_
            refine zpu 9 ?_
            refine zpu 12 ?_
            refine zpu 13 ?_
            refine zpu 16 ?_
            refine zpu 17 ?_
            refine zpu 20 ?_
            refine zpu 21 ?_
            refine zta 2 hHeld ?_
            refine zpu 3 ?_
            refine zta 6 hHeld ?_
            refine zpu 7 ?_
            refine zta 10 hHeld ?_
            refine zpu 11 ?_
            refine zta 14 hHeld ?_
            refine zpu 15 ?_
            refine zta 18 hHeld ?_
            refine zpu 19 ?_
            refine zta 22 hHeld ?_
            refine zpu 23 ?_
            refine zpu 24 ?_
            refine zon 25 (some 6) (fun K hK=>?_)
            refine box_step ?hg (N:=6) ?hd (cs:=#[.int .i64 0,.int .i64 0,.int .i64 0,.int .i64 0,.int .i64 0,.int .i64 0,.slice none 0 0]) (t:=24) ?hr ?_;(case hd=>rfl);(case hg=>rfl);(case hr=>first|(go_simp;done)|(go_simp;rfl))
            intro gb323 hg w28 hbox hb
            have HS0_:=(hb.cell (World.block_lt_of_cell? _ _ (hHeld.1))).trans (hHeld.1)
            have HS1_:=(hb.cell (World.block_lt_of_cell? _ _ (hHeld.2.1))).trans (hHeld.2.1)
            have HS2_:=(hb.cell (World.block_lt_of_cell? _ _ (hHeld.2.2.1))).trans (hHeld.2.2.1)
            have HS3_:=(hb.cell (World.block_lt_of_cell? _ _ (hHeld.2.2.2.1))).trans (hHeld.2.2.2.1)
            have HS4_:=(hb.cell (World.block_lt_of_cell? _ _ (hHeld.2.2.2.2.1))).trans (hHeld.2.2.2.2.1)
            have HS5_:=(hb.cell (World.block_lt_of_cell? _ _ (hHeld.2.2.2.2.2))).trans (hHeld.2.2.2.2.2)
            have n0_:=zm (Kd.R_below (by (with_reducible repeat (first|apply zrA|apply zrN|apply zrD));exact HO_4.out) hb)
            have n1_:=zkB BK306 hb
            have n2_:=zkH HB hb
            have n3_:=zm (hbox)
            have n4_:=zkG HB hg
            have n5_:=zkG HB hg
            have n6_:=zkN BK306 hg
            have n7_:=zkM BK306 hg
            clear HO_4 BK306 HB
            have HO_4:=n0_
            have BK306:=n1_
            have HB:=n2_
            have BK323:=n3_
            have GW323:=n4_
            have GE323:=n5_
            have NB306_323:=n6_
            have NB323_306:=n7_
            clear n0_ n1_ n2_ n3_ n4_ n5_ n6_ n7_ hb hbox hg
            refine hK.out _ _ ⟨HS0_,HS1_,HS2_,HS3_,HS4_,HS5_⟩ (fun hHeld=>?_)
            clear hK K
            refine znm (some 6) ?_
            refine zon 26 none (fun K hK=>?_)
            have hs29:w28.cell? ⟨gb323,0,none⟩=some (.int .i64 0):=(blk_cell BK323.out 0).trans rfl
            have hfs29:=blk_frozen BK323.out 0
            have hns29_0:=NB306_323.out
            have hms29_0:=NB323_306.out
            have hs30:w28.cell? ⟨gb323,1,none⟩=some (.int .i64 0):=(blk_cell BK323.out 1).trans rfl
            have hfs30:=blk_frozen BK323.out 1
            have hns30_0:=NB306_323.out
            have hms30_0:=NB323_306.out
            have hs31:w28.cell? ⟨gb323,2,none⟩=some (.int .i64 0):=(blk_cell BK323.out 2).trans rfl
            have hfs31:=blk_frozen BK323.out 2
            have hns31_0:=NB306_323.out
            have hms31_0:=NB323_306.out
            have hs32:w28.cell? ⟨gb323,3,none⟩=some (.int .i64 0):=(blk_cell BK323.out 3).trans rfl
            have hfs32:=blk_frozen BK323.out 3
            have hns32_0:=NB306_323.out
            have hms32_0:=NB323_306.out
            have hs33:w28.cell? ⟨gb323,4,none⟩=some (.int .i64 0):=(blk_cell BK323.out 4).trans rfl
            have hfs33:=blk_frozen BK323.out 4
            have hns33_0:=NB306_323.out
            have hms33_0:=NB323_306.out
            have hs34:w28.cell? ⟨gb323,5,none⟩=some (.int .i64 0):=(blk_cell BK323.out 5).trans rfl
            have hfs34:=blk_frozen BK323.out 5
            have hns34_0:=NB306_323.out
            have hms34_0:=NB323_306.out
            have hs35:w28.cell? ⟨gb323,6,none⟩=some (.slice none 0 0):=(blk_cell BK323.out 6).trans rfl
            have hfs35:=blk_frozen BK323.out 6
            have hns35_0:=NB306_323.out
            have hms35_0:=NB323_306.out
            refine skip_ (w1:=?_) (by rfl) rfl ?_ ?_
            rotate_left
            ·go_simp
             rfl
            have NEF0_:=Kd.own_blk (Kd.R_ne HO_4.out BK323.out (by decide))
            refine hK.out _ _ ⟨?_,?_,?_,?_,?_,?_⟩ ?_
            ·exact ((Go.Proofs.Ytjoojmodghpimaa.Sem.far7 (g:=gb323) (by first|exact NEF0_|(rw [add_block];exact NEF0_))).trans (hHeld.1))
            ·exact ((Go.Proofs.Ytjoojmodghpimaa.Sem.far7 (g:=gb323) (by first|exact NEF0_|(rw [add_block];exact NEF0_))).trans (hHeld.2.1))
            ·exact ((Go.Proofs.Ytjoojmodghpimaa.Sem.far7 (g:=gb323) (by first|exact NEF0_|(rw [add_block];exact NEF0_))).trans (hHeld.2.2.1))
            ·exact ((Go.Proofs.Ytjoojmodghpimaa.Sem.far7 (g:=gb323) (by first|exact NEF0_|(rw [add_block];exact NEF0_))).trans (hHeld.2.2.2.1))
            ·exact ((Go.Proofs.Ytjoojmodghpimaa.Sem.far7 (g:=gb323) (by first|exact NEF0_|(rw [add_block];exact NEF0_))).trans (hHeld.2.2.2.2.1))
            ·exact ((Go.Proofs.Ytjoojmodghpimaa.Sem.far7 (g:=gb323) (by first|exact NEF0_|(rw [add_block];exact NEF0_))).trans (hHeld.2.2.2.2.2))
            intro hHeld
            clear hK K
            refine zdo ?_
            try go_wp2
            go_loopg [7] kj5 (fun kq v7 w'=>∃ (x7_2:Int) (x324006_2:List (S51)) (u324006:Value),v7=.int .i64 x7_2∧Aside0 (slipwayref14_Decode.l0 kq l0 t311 x7_2 (wrap64 (rd t311 0)) (wrap64 (rd t311 4)) (wrap64 (rd t311 5)) (wrap64 (rd t311 6)) (wrap64 (rd t311 7)) (wrap64 (rd t311 1)) x324006_2=some (r1,r2,r3,r4,r5,r6,r7,r8))∧Aside0 (kq≤kj5)∧Aside0 (Kd.R (Kd.int .u64) 58 w' w.heap.size (fun _=>True) (.slice (some ad317) t311.length co27) t311)∧Aside0 (Kd.R k51 51 w' w.heap.size (fun _=>True) u324006 x324006_2)∧Aside0 (w'.heap[gb306]?=some (.cells #[.int .i64 0,.int .i64 0,.int .i64 0,.int .i64 0,.int .i64 0,.int .i64 0,(.slice none 0 0)] 24 (0,0)))∧Aside0 (w'.heap[gb323]?=some (.cells #[.int .i64 (wrap64 (rd t311 0)),.int .i64 (wrap64 (rd t311 4)),.int .i64 (wrap64 (rd t311 5)),.int .i64 (wrap64 (rd t311 6)),.int .i64 (wrap64 (rd t311 7)),.int .i64 (wrap64 (rd t311 1)),u324006] 24 (0,0)))∧Aside0 (Below w.heap.size w w'))
            case atStart=>exact ⟨(0),(([]:List (S51))),(.slice none 0 0),zs_,H',⟨Nat.le_refl _⟩,⟨by (with_reducible repeat (first|apply zrA|apply zrN|apply zrD));exact Kd.R_mono (Kd.R_far (p:=⟨gb323,6,none⟩) (Kd.R_far (p:=⟨gb323,5,none⟩) (Kd.R_far (p:=⟨gb323,4,none⟩) (Kd.R_far (p:=⟨gb323,3,none⟩) (Kd.R_far (p:=⟨gb323,2,none⟩) (Kd.R_far (p:=⟨gb323,1,none⟩) (Kd.R_far (p:=⟨gb323,0,none⟩) (Kd.R_types HO_4.out BK323.out (by decide)) (fun _ hk=>hk.2) (.int .i64 (wrap64 (rd t311 0)))) (fun _ hk=>hk.2) (.int .i64 (wrap64 (rd t311 4)))) (fun _ hk=>hk.2) (.int .i64 (wrap64 (rd t311 5)))) (fun _ hk=>hk.2) (.int .i64 (wrap64 (rd t311 6)))) (fun _ hk=>hk.2) (.int .i64 (wrap64 (rd t311 7)))) (fun _ hk=>hk.2) (.int .i64 (wrap64 (rd t311 1)))) (fun _ hk=>hk.2) (.slice none 0 0)) (fun _ hk=>trivial)⟩,⟨zr_⟩,⟨by (with_reducible repeat (first|refine zbN ?_ _|refine zbD ?_|refine zbA ?_ _));refine blk_far ?_ NB306_323.out _;(with_reducible repeat (first|refine zbN ?_ _|refine zbD ?_|refine zbA ?_ _));refine blk_far ?_ NB306_323.out _;(with_reducible repeat (first|refine zbN ?_ _|refine zbD ?_|refine zbA ?_ _));refine blk_far ?_ NB306_323.out _;(with_reducible repeat (first|refine zbN ?_ _|refine zbD ?_|refine zbA ?_ _));refine blk_far ?_ NB306_323.out _;(with_reducible repeat (first|refine zbN ?_ _|refine zbD ?_|refine zbA ?_ _));refine blk_far ?_ NB306_323.out _;(with_reducible repeat (first|refine zbN ?_ _|refine zbD ?_|refine zbA ?_ _));refine blk_far ?_ NB306_323.out _;(with_reducible repeat (first|refine zbN ?_ _|refine zbD ?_|refine zbA ?_ _));refine blk_far ?_ NB306_323.out _;(with_reducible repeat (first|refine zbN ?_ _|refine zbD ?_|refine zbA ?_ _));exact BK306.out⟩,⟨by (with_reducible repeat (first|refine zbN ?_ _|refine zbD ?_|refine zbA ?_ _));refine blk_put (cs:=#[.int .i64 (wrap64 (rd t311 0)),.int .i64 (wrap64 (rd t311 4)),.int .i64 (wrap64 (rd t311 5)),.int .i64 (wrap64 (rd t311 6)),.int .i64 (wrap64 (rd t311 7)),.int .i64 (wrap64 (rd t311 1)),.slice none 0 0]) ?_ 6 _ rfl;(with_reducible repeat (first|refine zbN ?_ _|refine zbD ?_|refine zbA ?_ _));refine blk_put (cs:=#[.int .i64 (wrap64 (rd t311 0)),.int .i64 (wrap64 (rd t311 4)),.int .i64 (wrap64 (rd t311 5)),.int .i64 (wrap64 (rd t311 6)),.int .i64 (wrap64 (rd t311 7)),.int .i64 0,.slice none 0 0]) ?_ 5 _ rfl;(with_reducible repeat (first|refine zbN ?_ _|refine zbD ?_|refine zbA ?_ _));refine blk_put (cs:=#[.int .i64 (wrap64 (rd t311 0)),.int .i64 (wrap64 (rd t311 4)),.int .i64 (wrap64 (rd t311 5)),.int .i64 (wrap64 (rd t311 6)),.int .i64 0,.int .i64 0,.slice none 0 0]) ?_ 4 _ rfl;(with_reducible repeat (first|refine zbN ?_ _|refine zbD ?_|refine zbA ?_ _));refine blk_put (cs:=#[.int .i64 (wrap64 (rd t311 0)),.int .i64 (wrap64 (rd t311 4)),.int .i64 (wrap64 (rd t311 5)),.int .i64 0,.int .i64 0,.int .i64 0,.slice none 0 0]) ?_ 3 _ rfl;(with_reducible repeat (first|refine zbN ?_ _|refine zbD ?_|refine zbA ?_ _));refine blk_put (cs:=#[.int .i64 (wrap64 (rd t311 0)),.int .i64 (wrap64 (rd t311 4)),.int .i64 0,.int .i64 0,.int .i64 0,.int .i64 0,.slice none 0 0]) ?_ 2 _ rfl;(with_reducible repeat (first|refine zbN ?_ _|refine zbD ?_|refine zbA ?_ _));refine blk_put (cs:=#[.int .i64 (wrap64 (rd t311 0)),.int .i64 0,.int .i64 0,.int .i64 0,.int .i64 0,.int .i64 0,.slice none 0 0]) ?_ 1 _ rfl;(with_reducible repeat (first|refine zbN ?_ _|refine zbD ?_|refine zbA ?_ _));refine blk_put (cs:=#[.int .i64 0,.int .i64 0,.int .i64 0,.int .i64 0,.int .i64 0,.int .i64 0,.slice none 0 0]) ?_ 0 _ rfl;(with_reducible repeat (first|refine zbN ?_ _|refine zbD ?_|refine zbA ?_ _));exact BK323.out⟩,⟨zb_⟩⟩
            case round =>
             clear H'
             try clear c1
             try clear c2
             try clear c2b0
             try clear c2b1
             try clear p2
             try clear c3
             try clear p3
             try clear q3
             try clear hx3
             try clear qi3
             try clear c4
             try clear c4b0
             try clear c4b1
             try clear p6
             try clear c13
             try clear c13b0
             try clear c13b1
             try clear c14
             try clear c14b0
             try clear c16
             try clear c16b0
             try clear c16b1
             try clear c18
             try clear c20
             try clear c20b0
             try clear c20b1
             try clear c21
             try clear c21b0
             try clear c21b1
             try clear c22
             try clear c22b0
             try clear c22b1
             try clear c23
             try clear c23b0
             try clear c23b1
             try clear c24
             try clear c24b0
             try clear c24b1
             try clear c25
             try clear c25b0
             try clear c25b1
             try clear p31
             try clear q31
             try clear hx31
             try clear qi31
             try clear p32
             try clear q32
             try clear hx32
             try clear qi32
             try clear hcz19_0
             try clear hcz19_1
             try clear hcz19_2
             try clear hcz19_3
             try clear hcz19_4
             try clear hcz19_5
             try clear hcz19_6
             try clear hfz19_0
             try clear hfz19_1
             try clear hfz19_2
             try clear hfz19_3
             try clear hfz19_4
             try clear hfz19_5
             try clear hfz19_6
             try clear hx315_0
             try clear hx316_0
             try clear hx317_0
             try clear hx318_0
             try clear hx319_0
             try clear hx320_0
             try clear hx321_0
             try clear hx322_0
             try clear p2
             try clear p3
             try clear p315
             try clear p316
             try clear p317
             try clear p318
             try clear p319
             try clear p320
             try clear p321
             try clear p322
             try clear q3
             try clear q315
             try clear q316
             try clear q317
             try clear q318
             try clear q319
             try clear q320
             try clear q321
             try clear q322
             obtain ⟨x7_2,x324006_2,u324006,rfl,HA,HK2,HO_4,HO_324006,BK306,BK323,HB⟩:=hrel
             cases gk with
             | zero=>exact absurd HA.out (by simp [slipwayref14_Decode.l0])
             | succ k2 =>
              have H:=HA.out
              clear HA
              simp only [slipwayref14_Decode.l0] at H
              by_cases c36:2 < (t311.length:Int)
              ·rw [if_pos c36] at H
               have c36b0:decide (2 < (t311.length:Int))=true:=decide_eq_true c36
               have c36b1:decide (2 < t311.length)=true:=decide_eq_true (by omega)
               clear c36
               by_cases c37:x7_2 < (wrap64 (rd t311 2))
               ·rw [if_pos c37] at H
                have c37b0:decide (x7_2 < (wrap64 (rd t311 2)))=true:=decide_eq_true c37
                clear c37
                replace H:=Option.bind_eq_some_iff.mp H
                obtain ⟨t325,A380,H⟩:=H
                replace H:(if 0≤(wrap64 (24 + (wrap64 (9 * x7_2)))) then (if (wrap64 (24 + (wrap64 (9 * x7_2))))≤(wrap64 (33 + (wrap64 (9 * x7_2)))) then (if (wrap64 (33 + (wrap64 (9 * x7_2))))≤(l0.length:Int) then ((slipwayref01_Unpack.f k2 t325 ((l0.take ((wrap64 (33 + (wrap64 (9 * x7_2)))):Int).toNat).drop ((wrap64 (24 + (wrap64 (9 * x7_2)))):Int).toNat)).bind fun bt329=>(if 0 < (bt329.1.length:Int) then (if 1 < (bt329.1.length:Int) then (if 2 < (bt329.1.length:Int) then (if x324006_2.length < 5864062014805 then (slipwayref14_Decode.l0 k2 l0 t311 (wrap64 (x7_2 + 1)) (wrap64 (rd t311 0)) (wrap64 (rd t311 4)) (wrap64 (rd t311 5)) (wrap64 (rd t311 6)) (wrap64 (rd t311 7)) (wrap64 (rd t311 1)) (x324006_2 ++ [(⟨wrap64 (rd bt329.1 0),wrap64 (rd bt329.1 1),wrap64 (rd bt329.1 2)⟩:S51)])) else (none)) else (none)) else (none)) else (none))) else (none)) else (none)) else (none))=some (r1,r2,r3,r4,r5,r6,r7,r8):=H
                have A38:=zm A380
                clear A380
                obtain ⟨ji39,hji39⟩:∃ j_:Int,(wrap64 (24 + (wrap64 (9 * x7_2))))=j_:=⟨_,rfl⟩
                replace H:(if 0≤(ji39) then (if (ji39)≤(wrap64 (33 + (wrap64 (9 * x7_2)))) then (if (wrap64 (33 + (wrap64 (9 * x7_2))))≤(l0.length:Int) then ((slipwayref01_Unpack.f k2 t325 ((l0.take ((wrap64 (33 + (wrap64 (9 * x7_2)))):Int).toNat).drop ((ji39):Int).toNat)).bind fun bt329=>(if 0 < (bt329.1.length:Int) then (if 1 < (bt329.1.length:Int) then (if 2 < (bt329.1.length:Int) then (if x324006_2.length < 5864062014805 then (slipwayref14_Decode.l0 k2 l0 t311 (wrap64 (x7_2 + 1)) (wrap64 (rd t311 0)) (wrap64 (rd t311 4)) (wrap64 (rd t311 5)) (wrap64 (rd t311 6)) (wrap64 (rd t311 7)) (wrap64 (rd t311 1)) (x324006_2 ++ [(⟨wrap64 (rd bt329.1 0),wrap64 (rd bt329.1 1),wrap64 (rd bt329.1 2)⟩:S51)])) else (none)) else (none)) else (none)) else (none))) else (none)) else (none)) else (none))=some (r1,r2,r3,r4,r5,r6,r7,r8):=by first|(rw [hji39] at H;exact H)|(simp only [hji39] at H ⊢;exact H)
                (try rw [hji39] at A38)
                have hji39w:(IntKind.i64.wrap (24 + (wrap64 (9 * x7_2))))=ji39:=(i64_w _).trans hji39
                by_cases c40:0≤(ji39)
                ·rw [if_pos c40] at H
                 have c40b0:=eq_true c40
                 have c40b1:decide (0≤(ji39))=true:=decide_eq_true c40
                 clear c40
                 by_cases c41:(ji39)≤(wrap64 (33 + (wrap64 (9 * x7_2))))
                 ·rw [if_pos c41] at H
                  have c41b0:=eq_true c41
                  have c41b1:decide ((ji39)≤(wrap64 (33 + (wrap64 (9 * x7_2)))))=true:=decide_eq_true c41
                  by_cases c42:(wrap64 (33 + (wrap64 (9 * x7_2))))≤(l0.length:Int)
                  ·rw [if_pos c42] at H
                   have c42b0:=eq_true c42
                   have c42b1:decide ((wrap64 (33 + (wrap64 (9 * x7_2))))≤(l0.length:Int))=true:=decide_eq_true c42
                   replace H:=Option.bind_eq_some_iff.mp H
                   obtain ⟨⟨t329,t330⟩,A430,H⟩:=H
                   replace H:(if 0 < (t329.length:Int) then (if 1 < (t329.length:Int) then (if 2 < (t329.length:Int) then (if x324006_2.length < 5864062014805 then (slipwayref14_Decode.l0 k2 l0 t311 (wrap64 (x7_2 + 1)) (wrap64 (rd t311 0)) (wrap64 (rd t311 4)) (wrap64 (rd t311 5)) (wrap64 (rd t311 6)) (wrap64 (rd t311 7)) (wrap64 (rd t311 1)) (x324006_2 ++ [(⟨wrap64 (rd t329 0),wrap64 (rd t329 1),wrap64 (rd t329 2)⟩:S51)])) else (none)) else (none)) else (none)) else (none))=some (r1,r2,r3,r4,r5,r6,r7,r8):=H
                   have A43:=zm A430
                   clear A430
                   by_cases c44:0 < (t329.length:Int)
                   ·rw [if_pos c44] at H
                    have c44b0:decide (0 < (t329.length:Int))=true:=decide_eq_true c44
                    have c44b1:decide (0 < t329.length)=true:=decide_eq_true (by omega)
                    clear c44
                    by_cases c45:1 < (t329.length:Int)
                    ·rw [if_pos c45] at H
                     have c45b0:decide (1 < (t329.length:Int))=true:=decide_eq_true c45
                     have c45b1:decide (1 < t329.length)=true:=decide_eq_true (by omega)
                     clear c45
                     by_cases c46:2 < (t329.length:Int)
                     ·rw [if_pos c46] at H
                      have c46b0:decide (2 < (t329.length:Int))=true:=decide_eq_true c46
                      have c46b1:decide (2 < t329.length)=true:=decide_eq_true (by omega)
                      clear c46
                      by_cases c47:x324006_2.length < 5864062014805
                      ·rw [if_pos c47] at H
                       have LMc47:=zm c47
                       clear c47
                       obtain ⟨y336,hy336⟩:∃ y_:List (S51),y_=(x324006_2 ++ [(⟨wrap64 (rd t329 0),wrap64 (rd t329 1),wrap64 (rd t329 2)⟩:S51)]):=⟨_,rfl⟩
                       replace H:(slipwayref14_Decode.l0 k2 l0 t311 (wrap64 (x7_2 + 1)) (wrap64 (rd t311 0)) (wrap64 (rd t311 4)) (wrap64 (rd t311 5)) (wrap64 (rd t311 6)) (wrap64 (rd t311 7)) (wrap64 (rd t311 1)) y336)=some (r1,r2,r3,r4,r5,r6,r7,r8):=by first|(rw [hy336];with_reducible exact H)|(have H2_:=(Option.bind_some _ _).symm.trans H;rw [hy336];with_reducible exact H2_)|(have H2_:=(Option.bind_some _ _).symm.trans H;with_reducible exact H2_)|with_reducible exact H|(rw [hy336];exact H)|exact H
                       have Ny336:=zm hy336
                       clear hy336
                       have H':=zm H
                       clear H
                       have p324:0≤(2:Int):=(by omega)
                       have q324:2 < (t311.length:Int):=za_
                       obtain ⟨ad324,e324,hx324_0⟩:=Kd.at_int (Kd.R_reads' HO_4.out).2.2 2 p324 q324
                       obtain rfl:ad317=ad324:=(by injection e324)
                       (try simp only [show (2:Int).toNat=2 from rfl,Nat.reduceMul,Nat.reduceEqDiff,Go.Addr.add,↓reduceIte] at hx324_0)
                       have qi324:(2 < t311.length)=True:=eq_true (by omega)
                       (try rw [show ((2:Int)).toNat=2 from rfl] at hx324_0)
                       replace p324:=eq_true p324
                       replace q324:=eq_true q324
                       try go_wp2
                       have n0_:=zm (zrD HO_4.out)
                       have n1_:=zm (zrD HO_324006.out)
                       have n2_:=zm (zbD BK306.out)
                       have n3_:=zm (zbD BK323.out)
                       have n4_:=zm (zlD HB.out)
                       clear HO_4 HO_324006 BK306 BK323 HB
                       have HO_4:=n0_
                       have HO_324006:=n1_
                       have BK306:=n2_
                       have BK323:=n3_
                       have HB:=n4_
                       clear n0_ n1_ n2_ n3_ n4_
                       obtain ⟨i049,hi049,_,hsz49,_⟩:=info_parts info5
                       obtain ⟨A49,hcut49,hA49,hC49⟩:=print_mid_of (P:=Try.prog) (Value.int .u8) 0 25 5 .i64 .i64 Try.underlying25 hi049 hsz49 A0 c0 l0 (ji39) (wrap64 (33 + (wrap64 (9 * x7_2)))) (za_) (by first|omega|exact za_) (za_) HC0.out
                       have HR328:=zm (Kd.C_of_reads (h1:=fun _=>rfl) (hA49 _ (Kd.reads_of_C HR0.out)))
                       have HC328:=zm hC49
                       clear hA49 hC49 hi049 hsz49
                       refine start_ (n:=15) (S:=fun w'=>True) (ds:=[]) (Array.replicate 15 false) (by kernel_rfl) rfl rfl trivial (fun hHeld=>?_);refine with_tabW slipwayref14_Decode.tab10 slipwayref14_Decode.bits10 (fun HT_ HW_=>?_)
                       generalize wr.drew=w48 at HO_4 HO_324006 BK306 BK323 HB HR328 hHeld ⊢
                       refine zpu 1 ?_
                       refine zpu 2 ?_
                       refine zpu 3 ?_
                       refine zpu 4 ?_
                       refine zpu 5 ?_
                       refine zpu 6 ?_
                       refine zpu 7 ?_
                       refine zpu 8 ?_
                       refine zon 0 (some 68) (fun K hK=>?_)
                       refine zgo Try.func37 #[] ?_
                       with_reducible refine (slipwayref14_rootWidths.calls  t325 _ A38.out).mono ?_
                       rintro e w50 ⟨v326,rfl,ho0,hb⟩
                       refine ⟨_,rfl,?_⟩
                       have n0_:=zm (Kd.R_below (by (with_reducible repeat (first|apply zrA|apply zrN|apply zrD));exact HO_4.out) hb)
                       have n1_:=zm (Kd.R_below (by (with_reducible repeat (first|apply zrA|apply zrN|apply zrD));exact HO_324006.out) hb)
                       have n2_:=zm (Kd.R_lower ho0 (below_size (zb_)))
                       have n3_:=zkB BK306 hb
                       have n4_:=zkB BK323 hb
                       have n5_:=zkH HB hb
                       clear HO_4 HO_324006 BK306 BK323 HB
                       have HO_4:=n0_
                       have HO_324006:=n1_
                       have HO327:=n2_
                       have BK306:=n3_
                       have BK323:=n4_
                       have HB:=n5_
                       clear n0_ n1_ n2_ n3_ n4_ n5_
                       (try clear hb)
                       (try clear hb2)
                       (try clear hk)
                       (try clear hi)
                       (try clear ho0)
                       obtain ⟨Ao51,co51,eo51⟩:=Kd.R_slice HO327.out
                       (first|subst eo51|(injection eo51 with f1_ f2_ f3_;have f4_:=f1_.symm;have f5_:=f3_.symm;clear f1_ f2_ f3_;subst f4_;subst f5_))
                       refine hK.out _ _ trivial (fun hHeld=>?_)
                       clear hK K
                       refine znm (some 68) ?_
                       refine zon 9 (some 77) (fun K hK=>?_)
                       refine goes_ Try.func38 (by kernel_rfl) rfl #[.slice Ao51 t325.length co51,.slice A49 ((l0.take ((wrap64 (33 + (wrap64 (9 * x7_2)))):Int).toNat).drop ((ji39):Int).toNat).length (c0 - (ji39).toNat)] (by rfl) rfl rfl (by (try simp only [List.map_toArray,List.map_cons,List.map_nil]);first|done|(rw [show ((l0.take ((wrap64 (33 + (wrap64 (9 * x7_2)))):Int).toNat).drop ((ji39):Int).toNat).length=((wrap64 (33 + (wrap64 (9 * x7_2)))).toNat - (ji39).toNat) from (by rw [List.length_drop,List.length_take];have h_:((wrap64 (33 + (wrap64 (9 * x7_2)))):Int)≤(l0.length:Int):=za_;omega)] <;> rfl)|(simp only [hji39];rfl)|rfl|(simp only [List.length_drop,List.length_take];rfl)) ?_
                       with_reducible refine (slipwayref01_Unpack.calls k2 _ _ t325 _ _ ((l0.take ((wrap64 (33 + (wrap64 (9 * x7_2)))):Int).toNat).drop ((ji39):Int).toNat) t329 t330 _ ?side1 ?side2 ?side3 ?side4 A43.out).mono ?_
                       (case side1=>repeat (first|exact (Kd.R_reads' HO327.out).2.2|(with_reducible refine Kd.C_alloc ?_ _)|(with_reducible refine Kd.C_drewN ?_ _)|(with_reducible refine Kd.C_drew ?_)))
                       (case side2=>exact (Kd.R_reads' HO327.out).2.1)
                       (case side3=>exact zC HR328)
                       (case side4=>exact HC328.out)
                       rintro e w52 ⟨v331,rfl,ho0,hb⟩
                       refine ⟨_,rfl,?_⟩
                       have n0_:=zm (Kd.R_elder' (by (with_reducible repeat (first|apply zrA|apply zrN|apply zrD));exact HO_4.out) (Kd.R_base ho0) hb)
                       have n1_:=zm (Kd.R_below (by (with_reducible repeat (first|apply zrA|apply zrN|apply zrD));exact HO_324006.out) hb)
                       have n2_:=zm (Kd.R_below (by (with_reducible repeat (first|apply zrA|apply zrN|apply zrD));exact HO327.out) hb)
                       have n3_:=zm (Kd.R_lower (Kd.R_new' ho0 (Kd.R_lt (by (with_reducible repeat (first|apply zrA|apply zrN|apply zrD));exact HO_4.out))) (below_size (zb_)))
                       have n4_:=zkB BK306 hb
                       have n5_:=zkB BK323 hb
                       have n6_:=zkH HB hb
                       clear HO_4 HO_324006 HO327 BK306 BK323 HB
                       have HO_4:=n0_
                       have HO_324006:=n1_
                       have HO327:=n2_
                       have HO332:=n3_
                       have BK306:=n4_
                       have BK323:=n5_
                       have HB:=n6_
                       clear n0_ n1_ n2_ n3_ n4_ n5_ n6_
                       (try clear hb)
                       (try clear hb2)
                       (try clear hk)
                       (try clear hi)
                       (try clear ho0)
                       refine hK.out _ _ trivial (fun hHeld=>?_)
                       clear hK K
                       refine znm (some 77) ?_
                       refine zpu 10 ?_
                       refine zpu 11 ?_
                       refine zpu 12 ?_
                       refine zpu 13 ?_
                       refine zpu 14 ?_
                       refine zdo ?_
                       try go_wp2
                       have n0_:=zm (zrD HO_4.out)
                       have n1_:=zm (zrD HO_324006.out)
                       have n2_:=zm (zrD HO327.out)
                       have n3_:=zm (zrD HO332.out)
                       have n4_:=zm (zbD BK306.out)
                       have n5_:=zm (zbD BK323.out)
                       have n6_:=zm (zlD HB.out)
                       clear HO_4 HO_324006 HO327 HO332 BK306 BK323 HB
                       have HO_4:=n0_
                       have HO_324006:=n1_
                       have HO327:=n2_
                       have HO332:=n3_
                       have BK306:=n4_
                       have BK323:=n5_
                       have HB:=n6_
                       clear n0_ n1_ n2_ n3_ n4_ n5_ n6_
                       obtain ⟨Ao54,co54,eo54⟩:=Kd.R_slice HO332.out
                       (first|subst eo54|(injection eo54 with f1_ f2_ f3_;have f4_:=f1_.symm;have f5_:=f3_.symm;clear f1_ f2_ f3_;subst f4_;subst f5_))
                       have p333:0≤(0:Int):=(by omega)
                       have q333:0 < (t329.length:Int):=za_
                       obtain ⟨ad333,e333,hx333_0⟩:=Kd.at_int (Kd.R_reads' HO332.out).2.2 0 p333 q333
                       cases e333
                       have qi333:(0 < t329.length)=True:=eq_true (by omega)
                       (try rw [show ((0:Int)).toNat=0 from rfl] at hx333_0)
                       (try rw [Addr.add_zero'] at hx333_0)
                       replace p333:=eq_true p333
                       replace q333:=eq_true q333
                       have p334:0≤(1:Int):=(by omega)
                       have q334:1 < (t329.length:Int):=za_
                       obtain ⟨ad334,e334,hx334_0⟩:=Kd.at_int (Kd.R_reads' HO332.out).2.2 1 p334 q334
                       obtain rfl:ad333=ad334:=(by injection e334)
                       (try simp only [show (1:Int).toNat=1 from rfl,Nat.reduceMul,Nat.reduceEqDiff,Go.Addr.add,↓reduceIte] at hx334_0)
                       have qi334:(1 < t329.length)=True:=eq_true (by omega)
                       (try rw [show ((1:Int)).toNat=1 from rfl] at hx334_0)
                       replace p334:=eq_true p334
                       replace q334:=eq_true q334
                       have p335:0≤(2:Int):=(by omega)
                       have q335:2 < (t329.length:Int):=za_
                       obtain ⟨ad335,e335,hx335_0⟩:=Kd.at_int (Kd.R_reads' HO332.out).2.2 2 p335 q335
                       obtain rfl:ad333=ad335:=(by injection e335)
                       (try simp only [show (2:Int).toNat=2 from rfl,Nat.reduceMul,Nat.reduceEqDiff,Go.Addr.add,↓reduceIte] at hx335_0)
                       have qi335:(2 < t329.length)=True:=eq_true (by omega)
                       (try rw [show ((2:Int)).toNat=2 from rfl] at hx335_0)
                       replace p335:=eq_true p335
                       replace q335:=eq_true q335
                       refine start_ (n:=19) (S:=fun w'=>w'.cell? ⟨gb323,0,none⟩=some (.int .i64 (wrap64 (rd t311 0)))∧w'.cell? ⟨gb323,1,none⟩=some (.int .i64 (wrap64 (rd t311 4)))∧w'.cell? ⟨gb323,2,none⟩=some (.int .i64 (wrap64 (rd t311 5)))∧w'.cell? ⟨gb323,3,none⟩=some (.int .i64 (wrap64 (rd t311 6)))∧w'.cell? ⟨gb323,4,none⟩=some (.int .i64 (wrap64 (rd t311 7)))∧w'.cell? ⟨gb323,5,none⟩=some (.int .i64 (wrap64 (rd t311 1)))∧w'.cell? ⟨gb323,6,none⟩=some (u324006)∧w'.cell? ad333=some (.int .u64 (rd t329 0))∧w'.cell? ⟨ad333.block,ad333.off + 1,none⟩=some (.int .u64 (rd t329 1))∧w'.cell? ⟨ad333.block,ad333.off + 2,none⟩=some (.int .u64 (rd t329 2))) (ds:=[16,18]) (Array.replicate 19 false) (by kernel_rfl) rfl rfl ⟨(blk_cell BK323.out 0).trans rfl,(blk_cell BK323.out 1).trans rfl,(blk_cell BK323.out 2).trans rfl,(blk_cell BK323.out 3).trans rfl,(blk_cell BK323.out 4).trans rfl,(blk_cell BK323.out 5).trans rfl,(blk_cell BK323.out 6).trans rfl,hx333_0,hx334_0,hx335_0⟩ (fun hHeld=>?_);refine with_tabW slipwayref14_Decode.tab11 slipwayref14_Decode.bits11 (fun HT_ HW_=>?_)
                       generalize w52.drew=w53 at HO_4 HO_324006 HO327 HO332 BK306 BK323 HB hx333_0 hx334_0 hx335_0 hHeld ⊢
                       refine zpu 0 ?_
                       refine zpu 2 ?_
                       refine zpu 3 ?_
                       refine zpu 6 ?_
                       refine zpu 7 ?_
                       refine zpu 10 ?_
                       refine zpu 11 ?_
                       refine zta 1 hHeld ?_
                       refine zta 4 hHeld ?_
                       refine zpu 5 ?_
                       refine zta 8 hHeld ?_
                       refine zpu 9 ?_
                       refine zta 12 hHeld ?_
                       refine zpu 13 ?_
                       refine zpu 14 ?_
                       refine zon 15 (some 95) (fun K hK=>?_)
                       refine value_ (w1:=?_) (v:=?_) (by rfl) rfl ?_ ?_
                       rotate_left 2
                       ·go_simp
                        constructor
                        ·rfl
                        ·rfl
                       refine hK.out _ _ ⟨(blk_cell (zbA BK323.out _) 0).trans rfl,(blk_cell (zbA BK323.out _) 1).trans rfl,(blk_cell (zbA BK323.out _) 2).trans rfl,(blk_cell (zbA BK323.out _) 3).trans rfl,(blk_cell (zbA BK323.out _) 4).trans rfl,(blk_cell (zbA BK323.out _) 5).trans rfl,(blk_cell (zbA BK323.out _) 6).trans rfl,(World.cell?_alloc_lt _ _ _ (World.block_lt_of_cell? _ _ (hHeld.2.2.2.2.2.2.2.1))).trans (hHeld.2.2.2.2.2.2.2.1),(World.cell?_alloc_lt _ _ _ (World.block_lt_of_cell? _ _ (hHeld.2.2.2.2.2.2.2.2.1))).trans (hHeld.2.2.2.2.2.2.2.2.1),(World.cell?_alloc_lt _ _ _ (World.block_lt_of_cell? _ _ (hHeld.2.2.2.2.2.2.2.2.2))).trans (hHeld.2.2.2.2.2.2.2.2.2)⟩ (fun hHeld=>?_)
                       clear hK K
                       refine znm (some 95) ?_
                       refine zla 16 (some 96) (fun K hK=>?_)
                       refine Kd.R_append_step k51 (w0:=w) w.heap.size (by rfl) (.tmp 81) (.tmp 95) 22 51 (.agg #[(.int .i64 0),(.int .i64 0),(.int .i64 0)]) 24 rfl Try.underlying22 info51 rfl (by decide) (by omega) u324006 x324006_2 (⟨wrap64 (rd t329 0),wrap64 (rd t329 1),wrap64 (rd t329 2)⟩:S51) [.int .i64 (wrap64 (rd t329 0)),.int .i64 (wrap64 (rd t329 1)),.int .i64 (wrap64 (rd t329 2))] (fun _=>True) (fun _=>False) rfl rfl ?aP (fun _ hk=>hk.elim) ?aF ?aO ?aB ?aS ?aL ?_
                       (case aP=>exact k51_mkM _ _ _ (⟨wrap64 (rd t329 0),wrap64 (rd t329 1),wrap64 (rd t329 2)⟩:S51))
                       (case aB=>exact (zb_))
                       (case aF=>exact (fun _ _=>trivial))
                       (case aO=>exact (by (with_reducible repeat (first|apply zrA|apply zrN|apply zrD));exact HO_324006.out))
                       (case aS=>exact (below_size (zb_)))
                       (case aL=>have:=LMc47.out;omega)
                       intro v337 w55 ho hb hg hat
                       rw [← Ny336.out] at ho
                       have n0_:=zm (Kd.R_over' (by (with_reducible repeat (first|apply zrA|apply zrN|apply zrD));exact HO_4.out) (Kd.R_typed (by (with_reducible repeat (first|apply zrA|apply zrN|apply zrD));exact HO_324006.out)) (by decide) hg)
                       have n1_:=zm (blk_grown (g:=gb306) (o:=.cells #[.int .i64 0,.int .i64 0,.int .i64 0,.int .i64 0,.int .i64 0,.int .i64 0,.slice none 0 0] 24 (0,0)) zx_ hg (Kd.R_ne HO_324006.out BK306.out (by decide)))
                       have n2_:=zm (blk_grown (g:=gb323) (o:=.cells #[.int .i64 (wrap64 (rd t311 0)),.int .i64 (wrap64 (rd t311 4)),.int .i64 (wrap64 (rd t311 5)),.int .i64 (wrap64 (rd t311 6)),.int .i64 (wrap64 (rd t311 7)),.int .i64 (wrap64 (rd t311 1)),u324006] 24 (0,0)) zx_ hg (Kd.R_ne HO_324006.out BK323.out (by decide)))
                       have n3_:=zm (Kd.R_over' (by (with_reducible repeat (first|apply zrA|apply zrN|apply zrD));exact HO327.out) (Kd.R_typed (by (with_reducible repeat (first|apply zrA|apply zrN|apply zrD));exact HO_324006.out)) (by decide) hg)
                       have n4_:=zm (Kd.R_over' (by (with_reducible repeat (first|apply zrA|apply zrN|apply zrD));exact HO332.out) (Kd.R_typed (by (with_reducible repeat (first|apply zrA|apply zrN|apply zrD));exact HO_324006.out)) (by decide) hg)
                       have n5_:=zm (hb)
                       have n6_:=zm (ho)
                       clear HO_4 BK306 BK323 HO327 HO332 HB HO_324006
                       have HO_4:=n0_
                       have BK306:=n1_
                       have BK323:=n2_
                       have HO327:=n3_
                       have HO332:=n4_
                       have HB:=n5_
                       have HO338:=n6_
                       clear n0_ n1_ n2_ n3_ n4_ n5_ n6_ ho hb hg hat
                       obtain ⟨Ao56,co56,eo56⟩:=Kd.R_slice HO338.out
                       (first|subst eo56|(injection eo56 with f1_ f2_ f3_;have f4_:=f1_.symm;have f5_:=f3_.symm;clear f1_ f2_ f3_;subst f4_;subst f5_))
                       refine hK.out _ _ ?_
                       clear hK K
                       refine znm (some 96) ?_
                       refine zpu 17 ?_
                       refine zla 18 none (fun K hK=>?_)
                       have hs57:w55.cell? ⟨gb323,6,none⟩=some (u324006):=(blk_cell BK323.out 6).trans rfl
                       have hfs57:=blk_frozen BK323.out 6
                       have hns57_0:=NB306_323.out
                       have hms57_0:=NB323_306.out
                       refine skip_ (w1:=?_) (by rfl) rfl ?_ ?_
                       rotate_left
                       ·go_simp
                        rfl
                       refine hK.out _ _ ?_
                       clear hK K
                       refine zdo ?_
                       try go_wp2
                       go_roundg k2
                       case measure=>have:=HJ5.out;have:=HK2.out;omega
                       case rel=>exact ⟨(wrap64 (x7_2 + 1)),(y336),(.slice Ao56 y336.length co56),zs_,H',⟨by have:=HJ5.out;have:=HK2.out;omega⟩,⟨by (with_reducible repeat (first|apply zrA|apply zrN|apply zrD));exact Kd.R_mono (Kd.R_far (p:=⟨gb323,6,none⟩) (Kd.R_types HO_4.out BK323.out (by decide)) (fun _ hk=>hk.2) (.slice Ao56 y336.length co56)) (fun _ hk=>trivial)⟩,⟨by (with_reducible repeat (first|apply zrA|apply zrN|apply zrD));exact Kd.R_mono (Kd.R_far (p:=⟨gb323,6,none⟩) (Kd.R_types HO338.out BK323.out (by decide)) (fun _ hk=>hk.2) (.slice Ao56 y336.length co56)) (fun _ hk=>trivial)⟩,⟨by (with_reducible repeat (first|refine zbN ?_ _|refine zbD ?_|refine zbA ?_ _));refine blk_far ?_ NB306_323.out _;(with_reducible repeat (first|refine zbN ?_ _|refine zbD ?_|refine zbA ?_ _));exact BK306.out⟩,⟨by (with_reducible repeat (first|refine zbN ?_ _|refine zbD ?_|refine zbA ?_ _));refine blk_put (cs:=#[.int .i64 (wrap64 (rd t311 0)),.int .i64 (wrap64 (rd t311 4)),.int .i64 (wrap64 (rd t311 5)),.int .i64 (wrap64 (rd t311 6)),.int .i64 (wrap64 (rd t311 7)),.int .i64 (wrap64 (rd t311 1)),u324006]) ?_ 6 _ rfl;(with_reducible repeat (first|refine zbN ?_ _|refine zbD ?_|refine zbA ?_ _));exact BK323.out⟩,⟨zb_⟩⟩
                      ·rw [if_neg c47] at H
                       exact absurd H (by simp)
                     ·rw [if_neg c46] at H
                      exact absurd H (by simp)
                    ·rw [if_neg c45] at H
                     exact absurd H (by simp)
                   ·rw [if_neg c44] at H
                    exact absurd H (by simp)
                  ·rw [if_neg c42] at H
                   exact absurd H (by simp)
                 ·rw [if_neg c41] at H
                  exact absurd H (by simp)
                ·rw [if_neg c40] at H
                 exact absurd H (by simp)
               ·rw [if_neg c37] at H
                have c37b0:decide (x7_2 < (wrap64 (rd t311 2)))=false:=decide_eq_false c37
                clear c37
                replace H:=Option.bind_eq_some_iff.mp H
                obtain ⟨⟨t339,t342⟩,A580,H⟩:=H
                replace H:(if t342=0 then (if (strOfNums t339).toList=(strOfNums l0).toList then (some ((wrap64 (rd t311 0)),(wrap64 (rd t311 4)),(wrap64 (rd t311 5)),(wrap64 (rd t311 6)),(wrap64 (rd t311 7)),(wrap64 (rd t311 1)),x324006_2,0)) else (some (0,0,0,0,0,0,([]:List (S51)),140))) else (some (0,0,0,0,0,0,([]:List (S51)),140)))=some (r1,r2,r3,r4,r5,r6,r7,r8):=H
                have A58:=zm A580
                clear A580
                by_cases c59:t342=0
                ·rw [if_pos c59] at H
                 have c59b0:(t342 == 0)=true:=beq_iff_eq.mpr c59
                 have c59b1:(t342 != 0)=false:=bne_eq_false_iff_eq.mpr c59
                 clear c59
                 by_cases c60:(strOfNums t339).toList=(strOfNums l0).toList
                 ·rw [if_pos c60] at H
                  have c60b0:((strOfNums t339).toList == (strOfNums l0).toList)=true:=beq_iff_eq.mpr c60
                  have c60b1:((strOfNums t339).toList != (strOfNums l0).toList)=false:=bne_eq_false_iff_eq.mpr c60
                  clear c60
                  simp only [Option.some.injEq,Prod.mk.injEq] at H
                  obtain ⟨rfl,rfl,rfl,rfl,rfl,rfl,rfl,rfl⟩:=H
                  have p324:0≤(2:Int):=(by omega)
                  have q324:2 < (t311.length:Int):=za_
                  obtain ⟨ad324,e324,hx324_0⟩:=Kd.at_int (Kd.R_reads' HO_4.out).2.2 2 p324 q324
                  obtain rfl:ad317=ad324:=(by injection e324)
                  (try simp only [show (2:Int).toNat=2 from rfl,Nat.reduceMul,Nat.reduceEqDiff,Go.Addr.add,↓reduceIte] at hx324_0)
                  have qi324:(2 < t311.length)=True:=eq_true (by omega)
                  (try rw [show ((2:Int)).toNat=2 from rfl] at hx324_0)
                  replace p324:=eq_true p324
                  replace q324:=eq_true q324
                  have hnb61:=NB323_306.out
                  have hnc61:=NB306_323.out
                  obtain ⟨hcz62_0,hcz62_1,hcz62_2,hcz62_3,hcz62_4,hcz62_5,hcz62_6,hfz62_0,hfz62_1,hfz62_2,hfz62_3,hfz62_4,hfz62_5,hfz62_6⟩:=zc7 BK323.out
                  obtain ⟨Ao63,co63,eo63⟩:=Kd.R_slice HO_324006.out
                  subst eo63
                  go_wp2_with (first|((with_reducible refine gate_callee (f:=12) rfl ?_);refine goesL_ (some 100) rfl rfl Try.func12 (by kernel_rfl) rfl #[.agg #[.int .i64 (wrap64 (rd t311 0)),.int .i64 (wrap64 (rd t311 4)),.int .i64 (wrap64 (rd t311 5)),.int .i64 (wrap64 (rd t311 6)),.int .i64 (wrap64 (rd t311 7)),.int .i64 (wrap64 (rd t311 1)),.slice Ao63 x324006_2.length co63]] rfl (by (try simp only [List.map_toArray,List.map_cons,List.map_nil]);first|done|rfl|(simp only [List.length_drop,List.length_take];rfl)) ?_;(with_reducible refine (slipwayref14_Encode.calls k2 (wrap64 (rd t311 0)) (wrap64 (rd t311 4)) (wrap64 (rd t311 5)) (wrap64 (rd t311 6)) (wrap64 (rd t311 7)) (wrap64 (rd t311 1)) _ _ x324006_2 t339 t342 _ ?side1 ?side2 A58.out).mono ?_);(case side1=>repeat (first|exact (Kd.R_reads' HO_324006.out).2.2|(with_reducible refine Kd.C_alloc ?_ _)|(with_reducible refine Kd.C_drewN ?_ _)|(with_reducible refine Kd.C_drew ?_)));(case side2=>exact (Kd.R_reads' HO_324006.out).2.1);rintro e w64 ⟨v340,rfl,ho0,hb⟩;refine ⟨_,rfl,?_⟩;have n0_:=zm (Kd.R_below (by (with_reducible repeat (first|apply zrA|apply zrN|apply zrD));exact HO_4.out) hb);have n1_:=zm (Kd.R_below (by (with_reducible repeat (first|apply zrA|apply zrN|apply zrD));exact HO_324006.out) hb);have n2_:=zm (Kd.R_lower ho0 (below_size (zb_)));have n3_:=zkB BK306 hb;have n4_:=zkB BK323 hb;have n5_:=zkH HB hb;clear HO_4 HO_324006 BK306 BK323 HB;have HO_4:=n0_;have HO_324006:=n1_;have HO341:=n2_;have BK306:=n3_;have BK323:=n4_;have HB:=n5_;clear n0_ n1_ n2_ n3_ n4_ n5_;(try clear hb);(try clear hb2);(try clear hk);(try clear hi);(try clear ho0);have hcv65:=own_string (P:=Try.prog) Try.underlying25 Try.underlying5 Try.underlying9 (Kd.own_of_R HO341.out);have hcv66:=Kd.C_string (P:=Try.prog) (A:=A0) (c:=c0) Try.underlying25 Try.underlying5 Try.underlying9 (Kd.C_below HR0.out HB.out);obtain ⟨hcz67_0,hcz67_1,hcz67_2,hcz67_3,hcz67_4,hcz67_5,hcz67_6,hfz67_0,hfz67_1,hfz67_2,hfz67_3,hfz67_4,hfz67_5,hfz67_6⟩:=zc7 BK323.out;obtain ⟨hcz68_0,hcz68_1,hcz68_2,hcz68_3,hcz68_4,hcz68_5,hcz68_6,hfz68_0,hfz68_1,hfz68_2,hfz68_3,hfz68_4,hfz68_5,hfz68_6⟩:=zc7 BK306.out))
                  refine bodyPost_ret (results_ct rfl _ _ gb306 24 #[.int .i64 (wrap64 (rd t311 0)),.int .i64 (wrap64 (rd t311 4)),.int .i64 (wrap64 (rd t311 5)),.int .i64 (wrap64 (rd t311 6)),.int .i64 (wrap64 (rd t311 7)),.int .i64 (wrap64 (rd t311 1)),.slice Ao63 x324006_2.length co63] (0,0) _ rfl (by (with_reducible repeat (first|refine zbN ?_ _|refine zbD ?_|refine zbA ?_ _));refine blk_put (cs:=#[.int .i64 (wrap64 (rd t311 0)),.int .i64 (wrap64 (rd t311 4)),.int .i64 (wrap64 (rd t311 5)),.int .i64 (wrap64 (rd t311 6)),.int .i64 (wrap64 (rd t311 7)),.int .i64 (wrap64 (rd t311 1)),.slice none 0 0]) ?_ 6 _ rfl;(with_reducible repeat (first|refine zbN ?_ _|refine zbD ?_|refine zbA ?_ _));refine blk_put (cs:=#[.int .i64 (wrap64 (rd t311 0)),.int .i64 (wrap64 (rd t311 4)),.int .i64 (wrap64 (rd t311 5)),.int .i64 (wrap64 (rd t311 6)),.int .i64 (wrap64 (rd t311 7)),.int .i64 0,.slice none 0 0]) ?_ 5 _ rfl;(with_reducible repeat (first|refine zbN ?_ _|refine zbD ?_|refine zbA ?_ _));refine blk_put (cs:=#[.int .i64 (wrap64 (rd t311 0)),.int .i64 (wrap64 (rd t311 4)),.int .i64 (wrap64 (rd t311 5)),.int .i64 (wrap64 (rd t311 6)),.int .i64 0,.int .i64 0,.slice none 0 0]) ?_ 4 _ rfl;(with_reducible repeat (first|refine zbN ?_ _|refine zbD ?_|refine zbA ?_ _));refine blk_put (cs:=#[.int .i64 (wrap64 (rd t311 0)),.int .i64 (wrap64 (rd t311 4)),.int .i64 (wrap64 (rd t311 5)),.int .i64 0,.int .i64 0,.int .i64 0,.slice none 0 0]) ?_ 3 _ rfl;(with_reducible repeat (first|refine zbN ?_ _|refine zbD ?_|refine zbA ?_ _));refine blk_put (cs:=#[.int .i64 (wrap64 (rd t311 0)),.int .i64 (wrap64 (rd t311 4)),.int .i64 0,.int .i64 0,.int .i64 0,.int .i64 0,.slice none 0 0]) ?_ 2 _ rfl;(with_reducible repeat (first|refine zbN ?_ _|refine zbD ?_|refine zbA ?_ _));refine blk_put (cs:=#[.int .i64 (wrap64 (rd t311 0)),.int .i64 0,.int .i64 0,.int .i64 0,.int .i64 0,.int .i64 0,.slice none 0 0]) ?_ 1 _ rfl;(with_reducible repeat (first|refine zbN ?_ _|refine zbD ?_|refine zbA ?_ _));refine blk_put (cs:=#[.int .i64 0,.int .i64 0,.int .i64 0,.int .i64 0,.int .i64 0,.int .i64 0,.slice none 0 0]) ?_ 0 _ rfl;(with_reducible repeat (first|refine zbN ?_ _|refine zbD ?_|refine zbA ?_ _));exact BK306.out) Try.underlying24 rfl (by kernel_rfl)) rfl ?_
                  exact ⟨_,ze_,by (with_reducible repeat (first|apply zrA|apply zrN|apply zrD));exact Kd.R_mono (Kd.R_far (p:=⟨gb306,6,none⟩) (Kd.R_far (p:=⟨gb306,5,none⟩) (Kd.R_far (p:=⟨gb306,4,none⟩) (Kd.R_far (p:=⟨gb306,3,none⟩) (Kd.R_far (p:=⟨gb306,2,none⟩) (Kd.R_far (p:=⟨gb306,1,none⟩) (Kd.R_far (p:=⟨gb306,0,none⟩) (Kd.R_types HO_324006.out BK306.out (by decide)) (fun _ hk=>hk.2) (.int .i64 (wrap64 (rd t311 0)))) (fun _ hk=>hk.2) (.int .i64 (wrap64 (rd t311 4)))) (fun _ hk=>hk.2) (.int .i64 (wrap64 (rd t311 5)))) (fun _ hk=>hk.2) (.int .i64 (wrap64 (rd t311 6)))) (fun _ hk=>hk.2) (.int .i64 (wrap64 (rd t311 7)))) (fun _ hk=>hk.2) (.int .i64 (wrap64 (rd t311 1)))) (fun _ hk=>hk.2) (.slice Ao63 x324006_2.length co63)) (fun _ hk=>trivial),zb_⟩
                 ·rw [if_neg c60] at H
                  have c60b0:((strOfNums t339).toList == (strOfNums l0).toList)=false:=beq_eq_false_iff_ne.mpr c60
                  have c60b1:((strOfNums t339).toList != (strOfNums l0).toList)=true:=bne_iff_ne.mpr c60
                  simp only [Option.some.injEq,Prod.mk.injEq] at H
                  obtain ⟨rfl,rfl,rfl,rfl,rfl,rfl,rfl,rfl⟩:=H
                  have p324:0≤(2:Int):=(by omega)
                  have q324:2 < (t311.length:Int):=za_
                  obtain ⟨ad324,e324,hx324_0⟩:=Kd.at_int (Kd.R_reads' HO_4.out).2.2 2 p324 q324
                  obtain rfl:ad317=ad324:=(by injection e324)
                  (try simp only [show (2:Int).toNat=2 from rfl,Nat.reduceMul,Nat.reduceEqDiff,Go.Addr.add,↓reduceIte] at hx324_0)
                  have qi324:(2 < t311.length)=True:=eq_true (by omega)
                  (try rw [show ((2:Int)).toNat=2 from rfl] at hx324_0)
                  replace p324:=eq_true p324
                  replace q324:=eq_true q324
                  have hnb69:=NB323_306.out
                  have hnc69:=NB306_323.out
                  obtain ⟨hcz70_0,hcz70_1,hcz70_2,hcz70_3,hcz70_4,hcz70_5,hcz70_6,hfz70_0,hfz70_1,hfz70_2,hfz70_3,hfz70_4,hfz70_5,hfz70_6⟩:=zc7 BK323.out
                  obtain ⟨Ao71,co71,eo71⟩:=Kd.R_slice HO_324006.out
                  subst eo71
                  go_wp2_with (first|((with_reducible refine gate_callee (f:=12) rfl ?_);refine goesL_ (some 100) rfl rfl Try.func12 (by kernel_rfl) rfl #[.agg #[.int .i64 (wrap64 (rd t311 0)),.int .i64 (wrap64 (rd t311 4)),.int .i64 (wrap64 (rd t311 5)),.int .i64 (wrap64 (rd t311 6)),.int .i64 (wrap64 (rd t311 7)),.int .i64 (wrap64 (rd t311 1)),.slice Ao71 x324006_2.length co71]] rfl (by (try simp only [List.map_toArray,List.map_cons,List.map_nil]);first|done|rfl|(simp only [List.length_drop,List.length_take];rfl)) ?_;(with_reducible refine (slipwayref14_Encode.calls k2 (wrap64 (rd t311 0)) (wrap64 (rd t311 4)) (wrap64 (rd t311 5)) (wrap64 (rd t311 6)) (wrap64 (rd t311 7)) (wrap64 (rd t311 1)) _ _ x324006_2 t339 t342 _ ?side1 ?side2 A58.out).mono ?_);(case side1=>repeat (first|exact (Kd.R_reads' HO_324006.out).2.2|(with_reducible refine Kd.C_alloc ?_ _)|(with_reducible refine Kd.C_drewN ?_ _)|(with_reducible refine Kd.C_drew ?_)));(case side2=>exact (Kd.R_reads' HO_324006.out).2.1);rintro e w72 ⟨v340,rfl,ho0,hb⟩;refine ⟨_,rfl,?_⟩;have n0_:=zm (Kd.R_below (by (with_reducible repeat (first|apply zrA|apply zrN|apply zrD));exact HO_4.out) hb);have n1_:=zm (Kd.R_below (by (with_reducible repeat (first|apply zrA|apply zrN|apply zrD));exact HO_324006.out) hb);have n2_:=zm (Kd.R_lower ho0 (below_size (zb_)));have n3_:=zkB BK306 hb;have n4_:=zkB BK323 hb;have n5_:=zkH HB hb;clear HO_4 HO_324006 BK306 BK323 HB;have HO_4:=n0_;have HO_324006:=n1_;have HO341:=n2_;have BK306:=n3_;have BK323:=n4_;have HB:=n5_;clear n0_ n1_ n2_ n3_ n4_ n5_;(try clear hb);(try clear hb2);(try clear hk);(try clear hi);(try clear ho0);have hcv73:=own_string (P:=Try.prog) Try.underlying25 Try.underlying5 Try.underlying9 (Kd.own_of_R HO341.out);have hcv74:=Kd.C_string (P:=Try.prog) (A:=A0) (c:=c0) Try.underlying25 Try.underlying5 Try.underlying9 (Kd.C_below HR0.out HB.out);obtain ⟨hcz75_0,hcz75_1,hcz75_2,hcz75_3,hcz75_4,hcz75_5,hcz75_6,hfz75_0,hfz75_1,hfz75_2,hfz75_3,hfz75_4,hfz75_5,hfz75_6⟩:=zc7 BK306.out))
                  refine bodyPost_ret (results_ct rfl _ _ gb306 24 #[.int .i64 0,.int .i64 0,.int .i64 0,.int .i64 0,.int .i64 0,.int .i64 0,.slice none 0 0] (0,0) _ rfl (by (with_reducible repeat (first|refine zbN ?_ _|refine zbD ?_|refine zbA ?_ _));refine blk_put (cs:=#[.int .i64 0,.int .i64 0,.int .i64 0,.int .i64 0,.int .i64 0,.int .i64 0,.slice none 0 0]) ?_ 6 _ rfl;(with_reducible repeat (first|refine zbN ?_ _|refine zbD ?_|refine zbA ?_ _));refine blk_put (cs:=#[.int .i64 0,.int .i64 0,.int .i64 0,.int .i64 0,.int .i64 0,.int .i64 0,.slice none 0 0]) ?_ 5 _ rfl;(with_reducible repeat (first|refine zbN ?_ _|refine zbD ?_|refine zbA ?_ _));refine blk_put (cs:=#[.int .i64 0,.int .i64 0,.int .i64 0,.int .i64 0,.int .i64 0,.int .i64 0,.slice none 0 0]) ?_ 4 _ rfl;(with_reducible repeat (first|refine zbN ?_ _|refine zbD ?_|refine zbA ?_ _));refine blk_put (cs:=#[.int .i64 0,.int .i64 0,.int .i64 0,.int .i64 0,.int .i64 0,.int .i64 0,.slice none 0 0]) ?_ 3 _ rfl;(with_reducible repeat (first|refine zbN ?_ _|refine zbD ?_|refine zbA ?_ _));refine blk_put (cs:=#[.int .i64 0,.int .i64 0,.int .i64 0,.int .i64 0,.int .i64 0,.int .i64 0,.slice none 0 0]) ?_ 2 _ rfl;(with_reducible repeat (first|refine zbN ?_ _|refine zbD ?_|refine zbA ?_ _));refine blk_put (cs:=#[.int .i64 0,.int .i64 0,.int .i64 0,.int .i64 0,.int .i64 0,.int .i64 0,.slice none 0 0]) ?_ 1 _ rfl;(with_reducible repeat (first|refine zbN ?_ _|refine zbD ?_|refine zbA ?_ _));refine blk_put (cs:=#[.int .i64 0,.int .i64 0,.int .i64 0,.int .i64 0,.int .i64 0,.int .i64 0,.slice none 0 0]) ?_ 0 _ rfl;(with_reducible repeat (first|refine zbN ?_ _|refine zbD ?_|refine zbA ?_ _));exact BK306.out) Try.underlying24 rfl (by kernel_rfl)) rfl ?_
                  exact ⟨_,ze_,zr_,zb_⟩
                ·rw [if_neg c59] at H
                 have c59b0:(t342 == 0)=false:=beq_eq_false_iff_ne.mpr c59
                 have c59b1:(t342 != 0)=true:=bne_iff_ne.mpr c59
                 simp only [Option.some.injEq,Prod.mk.injEq] at H
                 obtain ⟨rfl,rfl,rfl,rfl,rfl,rfl,rfl,rfl⟩:=H
                 have p324:0≤(2:Int):=(by omega)
                 have q324:2 < (t311.length:Int):=za_
                 obtain ⟨ad324,e324,hx324_0⟩:=Kd.at_int (Kd.R_reads' HO_4.out).2.2 2 p324 q324
                 obtain rfl:ad317=ad324:=(by injection e324)
                 (try simp only [show (2:Int).toNat=2 from rfl,Nat.reduceMul,Nat.reduceEqDiff,Go.Addr.add,↓reduceIte] at hx324_0)
                 have qi324:(2 < t311.length)=True:=eq_true (by omega)
                 (try rw [show ((2:Int)).toNat=2 from rfl] at hx324_0)
                 replace p324:=eq_true p324
                 replace q324:=eq_true q324
                 have hnb76:=NB323_306.out
                 have hnc76:=NB306_323.out
                 obtain ⟨hcz77_0,hcz77_1,hcz77_2,hcz77_3,hcz77_4,hcz77_5,hcz77_6,hfz77_0,hfz77_1,hfz77_2,hfz77_3,hfz77_4,hfz77_5,hfz77_6⟩:=zc7 BK323.out
                 obtain ⟨Ao78,co78,eo78⟩:=Kd.R_slice HO_324006.out
                 subst eo78
                 go_wp2_with (first|((with_reducible refine gate_callee (f:=12) rfl ?_);refine goesL_ (some 100) rfl rfl Try.func12 (by kernel_rfl) rfl #[.agg #[.int .i64 (wrap64 (rd t311 0)),.int .i64 (wrap64 (rd t311 4)),.int .i64 (wrap64 (rd t311 5)),.int .i64 (wrap64 (rd t311 6)),.int .i64 (wrap64 (rd t311 7)),.int .i64 (wrap64 (rd t311 1)),.slice Ao78 x324006_2.length co78]] rfl (by (try simp only [List.map_toArray,List.map_cons,List.map_nil]);first|done|rfl|(simp only [List.length_drop,List.length_take];rfl)) ?_;(with_reducible refine (slipwayref14_Encode.calls k2 (wrap64 (rd t311 0)) (wrap64 (rd t311 4)) (wrap64 (rd t311 5)) (wrap64 (rd t311 6)) (wrap64 (rd t311 7)) (wrap64 (rd t311 1)) _ _ x324006_2 t339 t342 _ ?side1 ?side2 A58.out).mono ?_);(case side1=>repeat (first|exact (Kd.R_reads' HO_324006.out).2.2|(with_reducible refine Kd.C_alloc ?_ _)|(with_reducible refine Kd.C_drewN ?_ _)|(with_reducible refine Kd.C_drew ?_)));(case side2=>exact (Kd.R_reads' HO_324006.out).2.1);rintro e w79 ⟨v340,rfl,ho0,hb⟩;refine ⟨_,rfl,?_⟩;have n0_:=zm (Kd.R_below (by (with_reducible repeat (first|apply zrA|apply zrN|apply zrD));exact HO_4.out) hb);have n1_:=zm (Kd.R_below (by (with_reducible repeat (first|apply zrA|apply zrN|apply zrD));exact HO_324006.out) hb);have n2_:=zm (Kd.R_lower ho0 (below_size (zb_)));have n3_:=zkB BK306 hb;have n4_:=zkB BK323 hb;have n5_:=zkH HB hb;clear HO_4 HO_324006 BK306 BK323 HB;have HO_4:=n0_;have HO_324006:=n1_;have HO341:=n2_;have BK306:=n3_;have BK323:=n4_;have HB:=n5_;clear n0_ n1_ n2_ n3_ n4_ n5_;(try clear hb);(try clear hb2);(try clear hk);(try clear hi);(try clear ho0);obtain ⟨hcz80_0,hcz80_1,hcz80_2,hcz80_3,hcz80_4,hcz80_5,hcz80_6,hfz80_0,hfz80_1,hfz80_2,hfz80_3,hfz80_4,hfz80_5,hfz80_6⟩:=zc7 BK306.out))
                 refine bodyPost_ret (results_ct rfl _ _ gb306 24 #[.int .i64 0,.int .i64 0,.int .i64 0,.int .i64 0,.int .i64 0,.int .i64 0,.slice none 0 0] (0,0) _ rfl (by (with_reducible repeat (first|refine zbN ?_ _|refine zbD ?_|refine zbA ?_ _));refine blk_put (cs:=#[.int .i64 0,.int .i64 0,.int .i64 0,.int .i64 0,.int .i64 0,.int .i64 0,.slice none 0 0]) ?_ 6 _ rfl;(with_reducible repeat (first|refine zbN ?_ _|refine zbD ?_|refine zbA ?_ _));refine blk_put (cs:=#[.int .i64 0,.int .i64 0,.int .i64 0,.int .i64 0,.int .i64 0,.int .i64 0,.slice none 0 0]) ?_ 5 _ rfl;(with_reducible repeat (first|refine zbN ?_ _|refine zbD ?_|refine zbA ?_ _));refine blk_put (cs:=#[.int .i64 0,.int .i64 0,.int .i64 0,.int .i64 0,.int .i64 0,.int .i64 0,.slice none 0 0]) ?_ 4 _ rfl;(with_reducible repeat (first|refine zbN ?_ _|refine zbD ?_|refine zbA ?_ _));refine blk_put (cs:=#[.int .i64 0,.int .i64 0,.int .i64 0,.int .i64 0,.int .i64 0,.int .i64 0,.slice none 0 0]) ?_ 3 _ rfl;(with_reducible repeat (first|refine zbN ?_ _|refine zbD ?_|refine zbA ?_ _));refine blk_put (cs:=#[.int .i64 0,.int .i64 0,.int .i64 0,.int .i64 0,.int .i64 0,.int .i64 0,.slice none 0 0]) ?_ 2 _ rfl;(with_reducible repeat (first|refine zbN ?_ _|refine zbD ?_|refine zbA ?_ _));refine blk_put (cs:=#[.int .i64 0,.int .i64 0,.int .i64 0,.int .i64 0,.int .i64 0,.int .i64 0,.slice none 0 0]) ?_ 1 _ rfl;(with_reducible repeat (first|refine zbN ?_ _|refine zbD ?_|refine zbA ?_ _));refine blk_put (cs:=#[.int .i64 0,.int .i64 0,.int .i64 0,.int .i64 0,.int .i64 0,.int .i64 0,.slice none 0 0]) ?_ 0 _ rfl;(with_reducible repeat (first|refine zbN ?_ _|refine zbD ?_|refine zbA ?_ _));exact BK306.out) Try.underlying24 rfl (by kernel_rfl)) rfl ?_
                 exact ⟨_,ze_,zr_,zb_⟩
              ·rw [if_neg c36] at H
               exact absurd H (by simp)
           ·rw [if_neg c25] at H
            exact absurd H (by simp)
          ·rw [if_neg c24] at H
           exact absurd H (by simp)
         ·rw [if_neg c23] at H
          exact absurd H (by simp)
        ·rw [if_neg c22] at H
         exact absurd H (by simp)
       ·rw [if_neg c21] at H
        exact absurd H (by simp)
      ·rw [if_neg c20] at H
       exact absurd H (by simp)
  ·rw [if_neg c4] at H
   exact absurd H (by simp)
 ·rw [if_neg c2] at H
  have c2b0:((l0.length:Int) == 64)=false:=beq_eq_false_iff_ne.mpr c2
  have c2b1:((l0.length:Int) != 64)=true:=bne_iff_ne.mpr c2
  simp only [Option.some.injEq,Prod.mk.injEq] at H
  obtain ⟨rfl,rfl,rfl,rfl,rfl,rfl,rfl,rfl⟩:=H
  go_enter Try.func13,Try.ntmps13
  go_wp2_with (first|((with_reducible refine gate_dst (N:=2) rfl ?_);refine zbx 2 #[.int .i64 0,.int .i64 0,.int .i64 0,.int .i64 0,.int .i64 0,.int .i64 0,.slice none 0 0] 24 ?_;intro gb306 hg w81 hbox hb;have n0_:=zkH HB hb;have n1_:=zm (hbox);have n2_:=zkG HB hg;have n3_:=zkG HB hg;clear HB;have HB:=n0_;have BK306:=n1_;have GW306:=n2_;have GE306:=n3_;clear n0_ n1_ n2_ n3_;clear hb hbox hg;obtain ⟨hcz82_0,hcz82_1,hcz82_2,hcz82_3,hcz82_4,hcz82_5,hcz82_6,hfz82_0,hfz82_1,hfz82_2,hfz82_3,hfz82_4,hfz82_5,hfz82_6⟩:=zc7 BK306.out))
  refine bodyPost_ret (results_ct rfl _ _ gb306 24 #[.int .i64 0,.int .i64 0,.int .i64 0,.int .i64 0,.int .i64 0,.int .i64 0,.slice none 0 0] (0,0) _ rfl (by (with_reducible repeat (first|refine zbN ?_ _|refine zbD ?_|refine zbA ?_ _));refine blk_put (cs:=#[.int .i64 0,.int .i64 0,.int .i64 0,.int .i64 0,.int .i64 0,.int .i64 0,.slice none 0 0]) ?_ 6 _ rfl;(with_reducible repeat (first|refine zbN ?_ _|refine zbD ?_|refine zbA ?_ _));refine blk_put (cs:=#[.int .i64 0,.int .i64 0,.int .i64 0,.int .i64 0,.int .i64 0,.int .i64 0,.slice none 0 0]) ?_ 5 _ rfl;(with_reducible repeat (first|refine zbN ?_ _|refine zbD ?_|refine zbA ?_ _));refine blk_put (cs:=#[.int .i64 0,.int .i64 0,.int .i64 0,.int .i64 0,.int .i64 0,.int .i64 0,.slice none 0 0]) ?_ 4 _ rfl;(with_reducible repeat (first|refine zbN ?_ _|refine zbD ?_|refine zbA ?_ _));refine blk_put (cs:=#[.int .i64 0,.int .i64 0,.int .i64 0,.int .i64 0,.int .i64 0,.int .i64 0,.slice none 0 0]) ?_ 3 _ rfl;(with_reducible repeat (first|refine zbN ?_ _|refine zbD ?_|refine zbA ?_ _));refine blk_put (cs:=#[.int .i64 0,.int .i64 0,.int .i64 0,.int .i64 0,.int .i64 0,.int .i64 0,.slice none 0 0]) ?_ 2 _ rfl;(with_reducible repeat (first|refine zbN ?_ _|refine zbD ?_|refine zbA ?_ _));refine blk_put (cs:=#[.int .i64 0,.int .i64 0,.int .i64 0,.int .i64 0,.int .i64 0,.int .i64 0,.slice none 0 0]) ?_ 1 _ rfl;(with_reducible repeat (first|refine zbN ?_ _|refine zbD ?_|refine zbA ?_ _));refine blk_put (cs:=#[.int .i64 0,.int .i64 0,.int .i64 0,.int .i64 0,.int .i64 0,.int .i64 0,.slice none 0 0]) ?_ 0 _ rfl;(with_reducible repeat (first|refine zbN ?_ _|refine zbD ?_|refine zbA ?_ _));exact BK306.out) Try.underlying24 rfl (by kernel_rfl)) rfl ?_
  exact ⟨_,ze_,zr_,zb_⟩
end Go.Proofs.Ytjoojmodghpimaa.Print
end
