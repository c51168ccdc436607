/- Texts of the proof of InodeBack, part 18. -/
import Derived.Test.YtjoojmodghpimaaInodeBackMA
import Derived.Test.YtjoojmodghpimaaInodeBackM17
section
namespace Go.Proofs.Ytjoojmodghpimaa.Print
open Go.RowKit Go.Proofs.YtjoojmodghpimaaW.PrintWords Go.Proofs.YtjoojmodghpimaaW.PrintLast Go.Proofs.YtjoojmodghpimaaW.PrintMore
attribute [local go_sem] max2_int min2_int max_two min_two max_three min_three max_four min_four   -- for this text's walks alone
attribute [local go_sem ↓] Go.Proofs.Ytjoojmodghpimaa.Sem.isSome_setCell
attribute [local go_sem] Go.Instr.field Go.asAgg
set_option linter.unusedVariables false
set_option linter.unusedSimpArgs false
def inode_Check.j0:Nat → Bool → Int → Int → Int → Int → Int → Int → List (S51) → Option (Int)
 | 0,_,_,_,_,_,_,_,_=>none
 | k + 1,x3,x116000,x116001,x116002,x116003,x116004,x116005,x116006=>if x3=true then (if x116000=0 then (if x116001=0 then (if x116002=0 then (if x116003=0 then (if x116005=0 then (if ((x116006.length:Int)=0) then (if x116000=2 then (if (Int.tmod x116002 256)=0 then (some 0) else (some 140)) else (some 0)) else (some 140)) else (some 140)) else (some 140)) else (some 140)) else (some 140)) else (if x116005=0 then ((extent_Check.f k x116006).bind fun t116=>(if t116=0 then (if x116000=2 then (if (Int.tmod x116002 256)=0 then (some 0) else (some 140)) else (some 0)) else (some 140))) else ((inode_entries.f k x116006).bind fun t117=>(if t117=true then (if x116000=2 then (if (Int.tmod x116002 256)=0 then (some 0) else (some 140)) else (some 0)) else (some 140))))) else (some 140)
def inode_Check.f (k:Nat) (a0_0:Int) (a0_1:Int) (a0_2:Int) (a0_3:Int) (a0_4:Int) (a0_5:Int) (l0_6:List (S51)):Option (Int):=if a0_0 ≥ 0 then (if a0_0≤2 then (if a0_1 ≥ 0 then (if a0_1≤1000 then (if a0_2 ≥ 0 then (if a0_2≤16777216 then (if a0_3 ≥ 0 then (if a0_3≤65536 then (if a0_4 ≥ 0 then (if a0_4≤4294967295 then (if a0_5 ≥ 0 then (if a0_5≤2 then (inode_Check.j0 k (decide ((l0_6.length:Int)≤4)) a0_0 a0_1 a0_2 a0_3 a0_4 a0_5 l0_6) else (inode_Check.j0 k false a0_0 a0_1 a0_2 a0_3 a0_4 a0_5 l0_6)) else (inode_Check.j0 k false a0_0 a0_1 a0_2 a0_3 a0_4 a0_5 l0_6)) else (inode_Check.j0 k false a0_0 a0_1 a0_2 a0_3 a0_4 a0_5 l0_6)) else (inode_Check.j0 k false a0_0 a0_1 a0_2 a0_3 a0_4 a0_5 l0_6)) else (inode_Check.j0 k false a0_0 a0_1 a0_2 a0_3 a0_4 a0_5 l0_6)) else (inode_Check.j0 k false a0_0 a0_1 a0_2 a0_3 a0_4 a0_5 l0_6)) else (inode_Check.j0 k false a0_0 a0_1 a0_2 a0_3 a0_4 a0_5 l0_6)) else (inode_Check.j0 k false a0_0 a0_1 a0_2 a0_3 a0_4 a0_5 l0_6)) else (inode_Check.j0 k false a0_0 a0_1 a0_2 a0_3 a0_4 a0_5 l0_6)) else (inode_Check.j0 k false a0_0 a0_1 a0_2 a0_3 a0_4 a0_5 l0_6)) else (inode_Check.j0 k false a0_0 a0_1 a0_2 a0_3 a0_4 a0_5 l0_6)) else (inode_Check.j0 k false a0_0 a0_1 a0_2 a0_3 a0_4 a0_5 l0_6)
theorem inode_Check.mono_l:∀ k,(∀ y0 y1 y2 y3 y4 y5 y6 y7,LeO (inode_Check.j0 k y0 y1 y2 y3 y4 y5 y6 y7) (inode_Check.j0 (k + 1) y0 y1 y2 y3 y4 y5 y6 y7))
 | 0=>fun _ _ _ _ _ _ _ _ r h=>by simp [inode_Check.j0] at h
 | k + 1=>by
  have ih0:=inode_Check.mono_l k
  ·intro y0 y1 y2 y3 y4 y5 y6 y7
   unfold inode_Check.j0
   repeat' first
   | (with_reducible exact ih0 _ _ _ _ _ _ _ _)
   | (with_reducible exact extent_Check.mono _ _)
   | (with_reducible exact inode_entries.mono _ _)
   | (with_reducible exact LeO.refl _)
   | (with_reducible exact LeO.none _)
   | (with_reducible refine LeO.ite ?_ ?_)
   | (with_reducible refine LeO.bind ?_ (fun _=>?_))
   | exact ih0 _ _ _ _ _ _ _ _
   | exact extent_Check.mono _ _
   | exact inode_entries.mono _ _
   | exact LeO.none _
   | refine LeO.ite ?_ ?_
   | refine LeO.bind ?_ (fun _=>?_)
theorem inode_Check.mono:∀ a0 a1 a2 a3 a4 a5 a6 k,LeO (inode_Check.f k a0 a1 a2 a3 a4 a5 a6) (inode_Check.f (k + 1) a0 a1 a2 a3 a4 a5 a6):=by
 intro a0 a1 a2 a3 a4 a5 a6 k
 have ih0:=inode_Check.mono_l k
 unfold inode_Check.f
 repeat' first
   | (with_reducible exact ih0 _ _ _ _ _ _ _ _)
   | (with_reducible exact extent_Check.mono _ _)
   | (with_reducible exact inode_entries.mono _ _)
   | (with_reducible exact LeO.refl _)
   | (with_reducible exact LeO.none _)
   | (with_reducible refine LeO.ite ?_ ?_)
   | (with_reducible refine LeO.bind ?_ (fun _=>?_))
   | exact ih0 _ _ _ _ _ _ _ _
   | exact extent_Check.mono _ _
   | exact inode_entries.mono _ _
   | exact LeO.none _
   | refine LeO.ite ?_ ?_
   | refine LeO.bind ?_ (fun _=>?_)
set_option maxHeartbeats 8000000 in
set_option maxRecDepth 100000 in
theorem inode_Check.calls (k:Nat) (a0_0:Int) (a0_1:Int) (a0_2:Int) (a0_3:Int) (a0_4:Int) (a0_5:Int) (A0_6:Option Addr) (c0_6:Nat) (l0_6:List (S51)) (r:Int) (w:World) (hr0_6:Kd.C k51 w A0_6 l0_6.length l0_6) (hc0_6:l0_6.length≤c0_6) (h:inode_Check.f k a0_0 a0_1 a0_2 a0_3 a0_4 a0_5 l0_6=some r) :
  Calls Try.prog 14 #[.agg #[.int .i64 a0_0,.int .i64 a0_1,.int .i64 a0_2,.int .i64 a0_3,.int .i64 a0_4,.int .i64 a0_5,.slice A0_6 l0_6.length c0_6]] w fun e w'=>e=.returned (.int .i64 r)∧Below w.heap.size w w':=by
 have hu24:=Try.underlying24
 have HR0_6:=zm hr0_6
 have HC0_6:=zm hc0_6
 clear hr0_6 hc0_6
 have HB:=zm (Below.refl w.heap.size w)
 have H:(if a0_0 ≥ 0 then (if a0_0≤2 then (if a0_1 ≥ 0 then (if a0_1≤1000 then (if a0_2 ≥ 0 then (if a0_2≤16777216 then (if a0_3 ≥ 0 then (if a0_3≤65536 then (if a0_4 ≥ 0 then (if a0_4≤4294967295 then (if a0_5 ≥ 0 then (if a0_5≤2 then (inode_Check.j0 k (decide ((l0_6.length:Int)≤4)) a0_0 a0_1 a0_2 a0_3 a0_4 a0_5 l0_6) else (inode_Check.j0 k false a0_0 a0_1 a0_2 a0_3 a0_4 a0_5 l0_6)) else (inode_Check.j0 k false a0_0 a0_1 a0_2 a0_3 a0_4 a0_5 l0_6)) else (inode_Check.j0 k false a0_0 a0_1 a0_2 a0_3 a0_4 a0_5 l0_6)) else (inode_Check.j0 k false a0_0 a0_1 a0_2 a0_3 a0_4 a0_5 l0_6)) else (inode_Check.j0 k false a0_0 a0_1 a0_2 a0_3 a0_4 a0_5 l0_6)) else (inode_Check.j0 k false a0_0 a0_1 a0_2 a0_3 a0_4 a0_5 l0_6)) else (inode_Check.j0 k false a0_0 a0_1 a0_2 a0_3 a0_4 a0_5 l0_6)) else (inode_Check.j0 k false a0_0 a0_1 a0_2 a0_3 a0_4 a0_5 l0_6)) else (inode_Check.j0 k false a0_0 a0_1 a0_2 a0_3 a0_4 a0_5 l0_6)) else (inode_Check.j0 k false a0_0 a0_1 a0_2 a0_3 a0_4 a0_5 l0_6)) else (inode_Check.j0 k false a0_0 a0_1 a0_2 a0_3 a0_4 a0_5 l0_6)) else (inode_Check.j0 k false a0_0 a0_1 a0_2 a0_3 a0_4 a0_5 l0_6))=some r:=h
 clear h
 have HC2:=zm H
 clear H
 go_enter Try.func14,Try.ntmps14
 go_upto_region 1 with (first|((with_reducible refine gate_dst (N:=1) rfl ?_);(try (refine gate_guard (by rfl) ?_;dsimp only));refine box_event ?hg (N:=1) ?hd (cs:=#[.int .i64 a0_0,.int .i64 a0_1,.int .i64 a0_2,.int .i64 a0_3,.int .i64 a0_4,.int .i64 a0_5,.slice A0_6 l0_6.length c0_6]) (t:=24) ?hr ?_;(case hd=>rfl);(case hg=>rfl);(case hr=>first|(go_simp;done)|(go_simp;rfl));intro gb115 hg w3 hbox hb;have n0_:=zm (below_step (by repeat (first|(with_reducible first|exact HB.out|apply zlA|apply zlN|apply zlD)|exact HB.out)) hb);have n1_:=zm (hbox);have n2_:=zm ((by rw [hg];exact (below_size (by repeat (first|(with_reducible first|exact HB.out|apply zlA|apply zlN|apply zlD)|exact HB.out))):w.heap.size≤gb115));have n3_:=zm ((by rw [hg];exact (below_size (by repeat (first|(with_reducible first|exact HB.out|apply zlA|apply zlN|apply zlD)|exact HB.out))):w.heap.size≤gb115));clear HB;have HB:=n0_;have BK115:=n1_;have GW115:=n2_;have GE115:=n3_;clear n0_ n1_ n2_ n3_;clear hb hbox hg))
 (try simp only [Act.put,List.setIfInBounds_toArray,List.set_cons_zero,List.set_cons_succ])
 go_cut [3] (fun v3 wc=>∃ (kq:Nat) (x3_1:Bool),v3=.bool x3_1∧Aside0 (inode_Check.j0 kq x3_1 a0_0 a0_1 a0_2 a0_3 a0_4 a0_5 l0_6=some r)∧Aside0 (kq≤k)∧Aside0 (wc.heap[gb115]?=some (.cells #[.int .i64 a0_0,.int .i64 a0_1,.int .i64 a0_2,.int .i64 a0_3,.int .i64 a0_4,.int .i64 a0_5,(.slice A0_6 l0_6.length c0_6)] 24 (0,0)))∧Aside0 (Below w.heap.size w wc))
 case first =>
  have H:=HC2.out
  clear HC2
  by_cases c4:a0_0 ≥ 0
  ·rw [if_pos c4] at H
   have c4b0:decide (0≤a0_0)=true:=decide_eq_true c4
   clear c4
   (first|rw [c4b0]|(simp only [i64_w,i32_w];rw [c4b0])|skip)
   by_cases c5:a0_0≤2
   ·rw [if_pos c5] at H
    have c5b0:decide (a0_0≤2)=true:=decide_eq_true c5
    clear c5
    by_cases c6:a0_1 ≥ 0
    ·rw [if_pos c6] at H
     have c6b0:decide (0≤a0_1)=true:=decide_eq_true c6
     clear c6
     by_cases c7:a0_1≤1000
     ·rw [if_pos c7] at H
      have c7b0:decide (a0_1≤1000)=true:=decide_eq_true c7
      clear c7
      by_cases c8:a0_2 ≥ 0
      ·rw [if_pos c8] at H
       have c8b0:decide (0≤a0_2)=true:=decide_eq_true c8
       clear c8
       by_cases c9:a0_2≤16777216
       ·rw [if_pos c9] at H
        have c9b0:decide (a0_2≤16777216)=true:=decide_eq_true c9
        clear c9
        by_cases c10:a0_3 ≥ 0
        ·rw [if_pos c10] at H
         have c10b0:decide (0≤a0_3)=true:=decide_eq_true c10
         clear c10
         by_cases c11:a0_3≤65536
         ·rw [if_pos c11] at H
          have c11b0:decide (a0_3≤65536)=true:=decide_eq_true c11
          clear c11
          by_cases c12:a0_4 ≥ 0
          ·rw [if_pos c12] at H
           have c12b0:decide (0≤a0_4)=true:=decide_eq_true c12
           clear c12
           by_cases c13:a0_4≤4294967295
           ·rw [if_pos c13] at H
            have c13b0:decide (a0_4≤4294967295)=true:=decide_eq_true c13
            clear c13
            by_cases c14:a0_5 ≥ 0
            ·rw [if_pos c14] at H
             have c14b0:decide (0≤a0_5)=true:=decide_eq_true c14
             clear c14
             by_cases c15:a0_5≤2
             ·rw [if_pos c15] at H
              have c15b0:decide (a0_5≤2)=true:=decide_eq_true c15
              clear c15
              have H':=zm H
              clear H
              have hcz16_0:w3.cell? ⟨gb115,0,none⟩=some (.int .i64 a0_0):=(blk_cell BK115.out 0).trans rfl
              have hcz16_1:w3.cell? ⟨gb115,1,none⟩=some (.int .i64 a0_1):=(blk_cell BK115.out 1).trans rfl
              have hcz16_2:w3.cell? ⟨gb115,2,none⟩=some (.int .i64 a0_2):=(blk_cell BK115.out 2).trans rfl
              have hcz16_3:w3.cell? ⟨gb115,3,none⟩=some (.int .i64 a0_3):=(blk_cell BK115.out 3).trans rfl
              have hcz16_4:w3.cell? ⟨gb115,4,none⟩=some (.int .i64 a0_4):=(blk_cell BK115.out 4).trans rfl
              have hcz16_5:w3.cell? ⟨gb115,5,none⟩=some (.int .i64 a0_5):=(blk_cell BK115.out 5).trans rfl
              have hcz16_6:w3.cell? ⟨gb115,6,none⟩=some (.slice A0_6 l0_6.length c0_6):=(blk_cell BK115.out 6).trans rfl
              have hfz16_0:=blk_frozen BK115.out 0
              have hfz16_1:=blk_frozen BK115.out 1
              have hfz16_2:=blk_frozen BK115.out 2
              have hfz16_3:=blk_frozen BK115.out 3
              have hfz16_4:=blk_frozen BK115.out 4
              have hfz16_5:=blk_frozen BK115.out 5
              have hfz16_6:=blk_frozen BK115.out 6
              go_wp2
              go_meet
              case rel=>exact ⟨_,(decide ((l0_6.length:Int)≤4)),(by first|rfl|(simp;done)|(simp [*];done)),H',⟨by first|omega|exact Nat.le_refl _⟩,⟨by (with_reducible repeat (first|refine zbN ?_ _|refine zbD ?_|refine zbA ?_ _));exact BK115.out⟩,⟨by repeat (first|(with_reducible first|exact HB.out|apply zlA|apply zlN|apply zlD|refine zlS ?_ GE115.out)|exact HB.out)⟩⟩
             ·rw [if_neg c15] at H
              have c15b0:decide (a0_5≤2)=false:=decide_eq_false c15
              clear c15
              have H':=zm H
              clear H
              have hcz17_0:w3.cell? ⟨gb115,0,none⟩=some (.int .i64 a0_0):=(blk_cell BK115.out 0).trans rfl
              have hcz17_1:w3.cell? ⟨gb115,1,none⟩=some (.int .i64 a0_1):=(blk_cell BK115.out 1).trans rfl
              have hcz17_2:w3.cell? ⟨gb115,2,none⟩=some (.int .i64 a0_2):=(blk_cell BK115.out 2).trans rfl
              have hcz17_3:w3.cell? ⟨gb115,3,none⟩=some (.int .i64 a0_3):=(blk_cell BK115.out 3).trans rfl
              have hcz17_4:w3.cell? ⟨gb115,4,none⟩=some (.int .i64 a0_4):=(blk_cell BK115.out 4).trans rfl
              have hcz17_5:w3.cell? ⟨gb115,5,none⟩=some (.int .i64 a0_5):=(blk_cell BK115.out 5).trans rfl
              have hcz17_6:w3.cell? ⟨gb115,6,none⟩=some (.slice A0_6 l0_6.length c0_6):=(blk_cell BK115.out 6).trans rfl
              have hfz17_0:=blk_frozen BK115.out 0
              have hfz17_1:=blk_frozen BK115.out 1
              have hfz17_2:=blk_frozen BK115.out 2
              have hfz17_3:=blk_frozen BK115.out 3
              have hfz17_4:=blk_frozen BK115.out 4
              have hfz17_5:=blk_frozen BK115.out 5
              have hfz17_6:=blk_frozen BK115.out 6
              go_wp2
              go_meet
              case rel=>exact ⟨_,(false),(by first|rfl|(simp;done)|(simp [*];done)),H',⟨by first|omega|exact Nat.le_refl _⟩,⟨by (with_reducible repeat (first|refine zbN ?_ _|refine zbD ?_|refine zbA ?_ _));exact BK115.out⟩,⟨by repeat (first|(with_reducible first|exact HB.out|apply zlA|apply zlN|apply zlD|refine zlS ?_ GE115.out)|exact HB.out)⟩⟩
            ·rw [if_neg c14] at H
             have c14b0:decide (0≤a0_5)=false:=decide_eq_false c14
             clear c14
             have H':=zm H
             clear H
             have hcz18_0:w3.cell? ⟨gb115,0,none⟩=some (.int .i64 a0_0):=(blk_cell BK115.out 0).trans rfl
             have hcz18_1:w3.cell? ⟨gb115,1,none⟩=some (.int .i64 a0_1):=(blk_cell BK115.out 1).trans rfl
             have hcz18_2:w3.cell? ⟨gb115,2,none⟩=some (.int .i64 a0_2):=(blk_cell BK115.out 2).trans rfl
             have hcz18_3:w3.cell? ⟨gb115,3,none⟩=some (.int .i64 a0_3):=(blk_cell BK115.out 3).trans rfl
             have hcz18_4:w3.cell? ⟨gb115,4,none⟩=some (.int .i64 a0_4):=(blk_cell BK115.out 4).trans rfl
             have hcz18_5:w3.cell? ⟨gb115,5,none⟩=some (.int .i64 a0_5):=(blk_cell BK115.out 5).trans rfl
             have hcz18_6:w3.cell? ⟨gb115,6,none⟩=some (.slice A0_6 l0_6.length c0_6):=(blk_cell BK115.out 6).trans rfl
             have hfz18_0:=blk_frozen BK115.out 0
             have hfz18_1:=blk_frozen BK115.out 1
             have hfz18_2:=blk_frozen BK115.out 2
             have hfz18_3:=blk_frozen BK115.out 3
             have hfz18_4:=blk_frozen BK115.out 4
             have hfz18_5:=blk_frozen BK115.out 5
             have hfz18_6:=blk_frozen BK115.out 6
             go_wp2
             go_meet
             case rel=>exact ⟨_,(false),(by first|rfl|(simp;done)|(simp [*];done)),H',⟨by first|omega|exact Nat.le_refl _⟩,⟨by (with_reducible repeat (first|refine zbN ?_ _|refine zbD ?_|refine zbA ?_ _));exact BK115.out⟩,⟨by repeat (first|(with_reducible first|exact HB.out|apply zlA|apply zlN|apply zlD|refine zlS ?_ GE115.out)|exact HB.out)⟩⟩
           ·rw [if_neg c13] at H
            have c13b0:decide (a0_4≤4294967295)=false:=decide_eq_false c13
            clear c13
            have H':=zm H
            clear H
            have hcz19_0:w3.cell? ⟨gb115,0,none⟩=some (.int .i64 a0_0):=(blk_cell BK115.out 0).trans rfl
            have hcz19_1:w3.cell? ⟨gb115,1,none⟩=some (.int .i64 a0_1):=(blk_cell BK115.out 1).trans rfl
            have hcz19_2:w3.cell? ⟨gb115,2,none⟩=some (.int .i64 a0_2):=(blk_cell BK115.out 2).trans rfl
            have hcz19_3:w3.cell? ⟨gb115,3,none⟩=some (.int .i64 a0_3):=(blk_cell BK115.out 3).trans rfl
            have hcz19_4:w3.cell? ⟨gb115,4,none⟩=some (.int .i64 a0_4):=(blk_cell BK115.out 4).trans rfl
            have hcz19_5:w3.cell? ⟨gb115,5,none⟩=some (.int .i64 a0_5):=(blk_cell BK115.out 5).trans rfl
            have hcz19_6:w3.cell? ⟨gb115,6,none⟩=some (.slice A0_6 l0_6.length c0_6):=(blk_cell BK115.out 6).trans rfl
            have hfz19_0:=blk_frozen BK115.out 0
            have hfz19_1:=blk_frozen BK115.out 1
            have hfz19_2:=blk_frozen BK115.out 2
            have hfz19_3:=blk_frozen BK115.out 3
            have hfz19_4:=blk_frozen BK115.out 4
            have hfz19_5:=blk_frozen BK115.out 5
            have hfz19_6:=blk_frozen BK115.out 6
            go_wp2
            go_meet
            case rel=>exact ⟨_,(false),(by first|rfl|(simp;done)|(simp [*];done)),H',⟨by first|omega|exact Nat.le_refl _⟩,⟨by (with_reducible repeat (first|refine zbN ?_ _|refine zbD ?_|refine zbA ?_ _));exact BK115.out⟩,⟨by repeat (first|(with_reducible first|exact HB.out|apply zlA|apply zlN|apply zlD|refine zlS ?_ GE115.out)|exact HB.out)⟩⟩
          ·rw [if_neg c12] at H
           have c12b0:decide (0≤a0_4)=false:=decide_eq_false c12
           clear c12
           have H':=zm H
           clear H
           have hcz20_0:w3.cell? ⟨gb115,0,none⟩=some (.int .i64 a0_0):=(blk_cell BK115.out 0).trans rfl
           have hcz20_1:w3.cell? ⟨gb115,1,none⟩=some (.int .i64 a0_1):=(blk_cell BK115.out 1).trans rfl
           have hcz20_2:w3.cell? ⟨gb115,2,none⟩=some (.int .i64 a0_2):=(blk_cell BK115.out 2).trans rfl
           have hcz20_3:w3.cell? ⟨gb115,3,none⟩=some (.int .i64 a0_3):=(blk_cell BK115.out 3).trans rfl
           have hcz20_4:w3.cell? ⟨gb115,4,none⟩=some (.int .i64 a0_4):=(blk_cell BK115.out 4).trans rfl
           have hcz20_5:w3.cell? ⟨gb115,5,none⟩=some (.int .i64 a0_5):=(blk_cell BK115.out 5).trans rfl
           have hcz20_6:w3.cell? ⟨gb115,6,none⟩=some (.slice A0_6 l0_6.length c0_6):=(blk_cell BK115.out 6).trans rfl
           have hfz20_0:=blk_frozen BK115.out 0
           have hfz20_1:=blk_frozen BK115.out 1
           have hfz20_2:=blk_frozen BK115.out 2
           have hfz20_3:=blk_frozen BK115.out 3
           have hfz20_4:=blk_frozen BK115.out 4
           have hfz20_5:=blk_frozen BK115.out 5
           have hfz20_6:=blk_frozen BK115.out 6
           go_wp2
           go_meet
           case rel=>exact ⟨_,(false),(by first|rfl|(simp;done)|(simp [*];done)),H',⟨by first|omega|exact Nat.le_refl _⟩,⟨by (with_reducible repeat (first|refine zbN ?_ _|refine zbD ?_|refine zbA ?_ _));exact BK115.out⟩,⟨by repeat (first|(with_reducible first|exact HB.out|apply zlA|apply zlN|apply zlD|refine zlS ?_ GE115.out)|exact HB.out)⟩⟩
         ·rw [if_neg c11] at H
          have c11b0:decide (a0_3≤65536)=false:=decide_eq_false c11
          clear c11
          have H':=zm H
          clear H
          have hcz21_0:w3.cell? ⟨gb115,0,none⟩=some (.int .i64 a0_0):=(blk_cell BK115.out 0).trans rfl
          have hcz21_1:w3.cell? ⟨gb115,1,none⟩=some (.int .i64 a0_1):=(blk_cell BK115.out 1).trans rfl
          have hcz21_2:w3.cell? ⟨gb115,2,none⟩=some (.int .i64 a0_2):=(blk_cell BK115.out 2).trans rfl
          have hcz21_3:w3.cell? ⟨gb115,3,none⟩=some (.int .i64 a0_3):=(blk_cell BK115.out 3).trans rfl
          have hcz21_4:w3.cell? ⟨gb115,4,none⟩=some (.int .i64 a0_4):=(blk_cell BK115.out 4).trans rfl
          have hcz21_5:w3.cell? ⟨gb115,5,none⟩=some (.int .i64 a0_5):=(blk_cell BK115.out 5).trans rfl
          have hcz21_6:w3.cell? ⟨gb115,6,none⟩=some (.slice A0_6 l0_6.length c0_6):=(blk_cell BK115.out 6).trans rfl
          have hfz21_0:=blk_frozen BK115.out 0
          have hfz21_1:=blk_frozen BK115.out 1
          have hfz21_2:=blk_frozen BK115.out 2
          have hfz21_3:=blk_frozen BK115.out 3
          have hfz21_4:=blk_frozen BK115.out 4
          have hfz21_5:=blk_frozen BK115.out 5
          have hfz21_6:=blk_frozen BK115.out 6
          go_wp2
          go_meet
          case rel=>exact ⟨_,(false),(by first|rfl|(simp;done)|(simp [*];done)),H',⟨by first|omega|exact Nat.le_refl _⟩,⟨by (with_reducible repeat (first|refine zbN ?_ _|refine zbD ?_|refine zbA ?_ _));exact BK115.out⟩,⟨by repeat (first|(with_reducible first|exact HB.out|apply zlA|apply zlN|apply zlD|refine zlS ?_ GE115.out)|exact HB.out)⟩⟩
        ·rw [if_neg c10] at H
         have c10b0:decide (0≤a0_3)=false:=decide_eq_false c10
         clear c10
         have H':=zm H
         clear H
         have hcz22_0:w3.cell? ⟨gb115,0,none⟩=some (.int .i64 a0_0):=(blk_cell BK115.out 0).trans rfl
         have hcz22_1:w3.cell? ⟨gb115,1,none⟩=some (.int .i64 a0_1):=(blk_cell BK115.out 1).trans rfl
         have hcz22_2:w3.cell? ⟨gb115,2,none⟩=some (.int .i64 a0_2):=(blk_cell BK115.out 2).trans rfl
         have hcz22_3:w3.cell? ⟨gb115,3,none⟩=some (.int .i64 a0_3):=(blk_cell BK115.out 3).trans rfl
         have hcz22_4:w3.cell? ⟨gb115,4,none⟩=some (.int .i64 a0_4):=(blk_cell BK115.out 4).trans rfl
         have hcz22_5:w3.cell? ⟨gb115,5,none⟩=some (.int .i64 a0_5):=(blk_cell BK115.out 5).trans rfl
         have hcz22_6:w3.cell? ⟨gb115,6,none⟩=some (.slice A0_6 l0_6.length c0_6):=(blk_cell BK115.out 6).trans rfl
         have hfz22_0:=blk_frozen BK115.out 0
         have hfz22_1:=blk_frozen BK115.out 1
         have hfz22_2:=blk_frozen BK115.out 2
         have hfz22_3:=blk_frozen BK115.out 3
         have hfz22_4:=blk_frozen BK115.out 4
         have hfz22_5:=blk_frozen BK115.out 5
         have hfz22_6:=blk_frozen BK115.out 6
         go_wp2
         go_meet
         case rel=>exact ⟨_,(false),(by first|rfl|(simp;done)|(simp [*];done)),H',⟨by first|omega|exact Nat.le_refl _⟩,⟨by (with_reducible repeat (first|refine zbN ?_ _|refine zbD ?_|refine zbA ?_ _));exact BK115.out⟩,⟨by repeat (first|(with_reducible first|exact HB.out|apply zlA|apply zlN|apply zlD|refine zlS ?_ GE115.out)|exact HB.out)⟩⟩
       ·rw [if_neg c9] at H
        have c9b0:decide (a0_2≤16777216)=false:=decide_eq_false c9
        clear c9
        have H':=zm H
        clear H
        have hcz23_0:w3.cell? ⟨gb115,0,none⟩=some (.int .i64 a0_0):=(blk_cell BK115.out 0).trans rfl
        have hcz23_1:w3.cell? ⟨gb115,1,none⟩=some (.int .i64 a0_1):=(blk_cell BK115.out 1).trans rfl
        have hcz23_2:w3.cell? ⟨gb115,2,none⟩=some (.int .i64 a0_2):=(blk_cell BK115.out 2).trans rfl
        have hcz23_3:w3.cell? ⟨gb115,3,none⟩=some (.int .i64 a0_3):=(blk_cell BK115.out 3).trans rfl
        have hcz23_4:w3.cell? ⟨gb115,4,none⟩=some (.int .i64 a0_4):=(blk_cell BK115.out 4).trans rfl
        have hcz23_5:w3.cell? ⟨gb115,5,none⟩=some (.int .i64 a0_5):=(blk_cell BK115.out 5).trans rfl
        have hcz23_6:w3.cell? ⟨gb115,6,none⟩=some (.slice A0_6 l0_6.length c0_6):=(blk_cell BK115.out 6).trans rfl
        have hfz23_0:=blk_frozen BK115.out 0
        have hfz23_1:=blk_frozen BK115.out 1
        have hfz23_2:=blk_frozen BK115.out 2
        have hfz23_3:=blk_frozen BK115.out 3
        have hfz23_4:=blk_frozen BK115.out 4
        have hfz23_5:=blk_frozen BK115.out 5
        have hfz23_6:=blk_frozen BK115.out 6
        go_wp2
        go_meet
        case rel=>exact ⟨_,(false),(by first|rfl|(simp;done)|(simp [*];done)),H',⟨by first|omega|exact Nat.le_refl _⟩,⟨by (with_reducible repeat (first|refine zbN ?_ _|refine zbD ?_|refine zbA ?_ _));exact BK115.out⟩,⟨by repeat (first|(with_reducible first|exact HB.out|apply zlA|apply zlN|apply zlD|refine zlS ?_ GE115.out)|exact HB.out)⟩⟩
      ·rw [if_neg c8] at H
       have c8b0:decide (0≤a0_2)=false:=decide_eq_false c8
       clear c8
       have H':=zm H
       clear H
       have hcz24_0:w3.cell? ⟨gb115,0,none⟩=some (.int .i64 a0_0):=(blk_cell BK115.out 0).trans rfl
       have hcz24_1:w3.cell? ⟨gb115,1,none⟩=some (.int .i64 a0_1):=(blk_cell BK115.out 1).trans rfl
       have hcz24_2:w3.cell? ⟨gb115,2,none⟩=some (.int .i64 a0_2):=(blk_cell BK115.out 2).trans rfl
       have hcz24_3:w3.cell? ⟨gb115,3,none⟩=some (.int .i64 a0_3):=(blk_cell BK115.out 3).trans rfl
       have hcz24_4:w3.cell? ⟨gb115,4,none⟩=some (.int .i64 a0_4):=(blk_cell BK115.out 4).trans rfl
       have hcz24_5:w3.cell? ⟨gb115,5,none⟩=some (.int .i64 a0_5):=(blk_cell BK115.out 5).trans rfl
       have hcz24_6:w3.cell? ⟨gb115,6,none⟩=some (.slice A0_6 l0_6.length c0_6):=(blk_cell BK115.out 6).trans rfl
       have hfz24_0:=blk_frozen BK115.out 0
       have hfz24_1:=blk_frozen BK115.out 1
       have hfz24_2:=blk_frozen BK115.out 2
       have hfz24_3:=blk_frozen BK115.out 3
       have hfz24_4:=blk_frozen BK115.out 4
       have hfz24_5:=blk_frozen BK115.out 5
       have hfz24_6:=blk_frozen BK115.out 6
       go_wp2
       go_meet
       case rel=>exact ⟨_,(false),(by first|rfl|(simp;done)|(simp [*];done)),H',⟨by first|omega|exact Nat.le_refl _⟩,⟨by (with_reducible repeat (first|refine zbN ?_ _|refine zbD ?_|refine zbA ?_ _));exact BK115.out⟩,⟨by repeat (first|(with_reducible first|exact HB.out|apply zlA|apply zlN|apply zlD|refine zlS ?_ GE115.out)|exact HB.out)⟩⟩
     ·rw [if_neg c7] at H
      have c7b0:decide (a0_1≤1000)=false:=decide_eq_false c7
      clear c7
      have H':=zm H
      clear H
      have hcz25_0:w3.cell? ⟨gb115,0,none⟩=some (.int .i64 a0_0):=(blk_cell BK115.out 0).trans rfl
      have hcz25_1:w3.cell? ⟨gb115,1,none⟩=some (.int .i64 a0_1):=(blk_cell BK115.out 1).trans rfl
      have hcz25_2:w3.cell? ⟨gb115,2,none⟩=some (.int .i64 a0_2):=(blk_cell BK115.out 2).trans rfl
      have hcz25_3:w3.cell? ⟨gb115,3,none⟩=some (.int .i64 a0_3):=(blk_cell BK115.out 3).trans rfl
      have hcz25_4:w3.cell? ⟨gb115,4,none⟩=some (.int .i64 a0_4):=(blk_cell BK115.out 4).trans rfl
      have hcz25_5:w3.cell? ⟨gb115,5,none⟩=some (.int .i64 a0_5):=(blk_cell BK115.out 5).trans rfl
      have hcz25_6:w3.cell? ⟨gb115,6,none⟩=some (.slice A0_6 l0_6.length c0_6):=(blk_cell BK115.out 6).trans rfl
      have hfz25_0:=blk_frozen BK115.out 0
      have hfz25_1:=blk_frozen BK115.out 1
      have hfz25_2:=blk_frozen BK115.out 2
      have hfz25_3:=blk_frozen BK115.out 3
      have hfz25_4:=blk_frozen BK115.out 4
      have hfz25_5:=blk_frozen BK115.out 5
      have hfz25_6:=blk_frozen BK115.out 6
      go_wp2
      go_meet
      case rel=>exact ⟨_,(false),(by first|rfl|(simp;done)|(simp [*];done)),H',⟨by first|omega|exact Nat.le_refl _⟩,⟨by (with_reducible repeat (first|refine zbN ?_ _|refine zbD ?_|refine zbA ?_ _));exact BK115.out⟩,⟨by repeat (first|(with_reducible first|exact HB.out|apply zlA|apply zlN|apply zlD|refine zlS ?_ GE115.out)|exact HB.out)⟩⟩
    ·rw [if_neg c6] at H
     have c6b0:decide (0≤a0_1)=false:=decide_eq_false c6
     clear c6
     have H':=zm H
     clear H
     have hcz26_0:w3.cell? ⟨gb115,0,none⟩=some (.int .i64 a0_0):=(blk_cell BK115.out 0).trans rfl
     have hcz26_1:w3.cell? ⟨gb115,1,none⟩=some (.int .i64 a0_1):=(blk_cell BK115.out 1).trans rfl
     have hcz26_2:w3.cell? ⟨gb115,2,none⟩=some (.int .i64 a0_2):=(blk_cell BK115.out 2).trans rfl
     have hcz26_3:w3.cell? ⟨gb115,3,none⟩=some (.int .i64 a0_3):=(blk_cell BK115.out 3).trans rfl
     have hcz26_4:w3.cell? ⟨gb115,4,none⟩=some (.int .i64 a0_4):=(blk_cell BK115.out 4).trans rfl
     have hcz26_5:w3.cell? ⟨gb115,5,none⟩=some (.int .i64 a0_5):=(blk_cell BK115.out 5).trans rfl
     have hcz26_6:w3.cell? ⟨gb115,6,none⟩=some (.slice A0_6 l0_6.length c0_6):=(blk_cell BK115.out 6).trans rfl
     have hfz26_0:=blk_frozen BK115.out 0
     have hfz26_1:=blk_frozen BK115.out 1
     have hfz26_2:=blk_frozen BK115.out 2
     have hfz26_3:=blk_frozen BK115.out 3
     have hfz26_4:=blk_frozen BK115.out 4
     have hfz26_5:=blk_frozen BK115.out 5
     have hfz26_6:=blk_frozen BK115.out 6
     go_wp2
     go_meet
     case rel=>exact ⟨_,(false),(by first|rfl|(simp;done)|(simp [*];done)),H',⟨by first|omega|exact Nat.le_refl _⟩,⟨by (with_reducible repeat (first|refine zbN ?_ _|refine zbD ?_|refine zbA ?_ _));exact BK115.out⟩,⟨by repeat (first|(with_reducible first|exact HB.out|apply zlA|apply zlN|apply zlD|refine zlS ?_ GE115.out)|exact HB.out)⟩⟩
   ·rw [if_neg c5] at H
    have c5b0:decide (a0_0≤2)=false:=decide_eq_false c5
    clear c5
    have H':=zm H
    clear H
    have hcz27_0:w3.cell? ⟨gb115,0,none⟩=some (.int .i64 a0_0):=(blk_cell BK115.out 0).trans rfl
    have hcz27_1:w3.cell? ⟨gb115,1,none⟩=some (.int .i64 a0_1):=(blk_cell BK115.out 1).trans rfl
    have hcz27_2:w3.cell? ⟨gb115,2,none⟩=some (.int .i64 a0_2):=(blk_cell BK115.out 2).trans rfl
    have hcz27_3:w3.cell? ⟨gb115,3,none⟩=some (.int .i64 a0_3):=(blk_cell BK115.out 3).trans rfl
    have hcz27_4:w3.cell? ⟨gb115,4,none⟩=some (.int .i64 a0_4):=(blk_cell BK115.out 4).trans rfl
    have hcz27_5:w3.cell? ⟨gb115,5,none⟩=some (.int .i64 a0_5):=(blk_cell BK115.out 5).trans rfl
    have hcz27_6:w3.cell? ⟨gb115,6,none⟩=some (.slice A0_6 l0_6.length c0_6):=(blk_cell BK115.out 6).trans rfl
    have hfz27_0:=blk_frozen BK115.out 0
    have hfz27_1:=blk_frozen BK115.out 1
    have hfz27_2:=blk_frozen BK115.out 2
    have hfz27_3:=blk_frozen BK115.out 3
    have hfz27_4:=blk_frozen BK115.out 4
    have hfz27_5:=blk_frozen BK115.out 5
    have hfz27_6:=blk_frozen BK115.out 6
    go_wp2
    go_meet
    case rel=>exact ⟨_,(false),(by first|rfl|(simp;done)|(simp [*];done)),H',⟨by first|omega|exact Nat.le_refl _⟩,⟨by (with_reducible repeat (first|refine zbN ?_ _|refine zbD ?_|refine zbA ?_ _));exact BK115.out⟩,⟨by repeat (first|(with_reducible first|exact HB.out|apply zlA|apply zlN|apply zlD|refine zlS ?_ GE115.out)|exact HB.out)⟩⟩
  ·rw [if_neg c4] at H
   have c4b0:decide (0≤a0_0)=false:=decide_eq_false c4
   clear c4
   (first|rw [c4b0]|(simp only [i64_w,i32_w];rw [c4b0])|skip)
   have H':=zm H
   clear H
   have hcz28_0:w3.cell? ⟨gb115,0,none⟩=some (.int .i64 a0_0):=(blk_cell BK115.out 0).trans rfl
   have hcz28_1:w3.cell? ⟨gb115,1,none⟩=some (.int .i64 a0_1):=(blk_cell BK115.out 1).trans rfl
   have hcz28_2:w3.cell? ⟨gb115,2,none⟩=some (.int .i64 a0_2):=(blk_cell BK115.out 2).trans rfl
   have hcz28_3:w3.cell? ⟨gb115,3,none⟩=some (.int .i64 a0_3):=(blk_cell BK115.out 3).trans rfl
   have hcz28_4:w3.cell? ⟨gb115,4,none⟩=some (.int .i64 a0_4):=(blk_cell BK115.out 4).trans rfl
   have hcz28_5:w3.cell? ⟨gb115,5,none⟩=some (.int .i64 a0_5):=(blk_cell BK115.out 5).trans rfl
   have hcz28_6:w3.cell? ⟨gb115,6,none⟩=some (.slice A0_6 l0_6.length c0_6):=(blk_cell BK115.out 6).trans rfl
   have hfz28_0:=blk_frozen BK115.out 0
   have hfz28_1:=blk_frozen BK115.out 1
   have hfz28_2:=blk_frozen BK115.out 2
   have hfz28_3:=blk_frozen BK115.out 3
   have hfz28_4:=blk_frozen BK115.out 4
   have hfz28_5:=blk_frozen BK115.out 5
   have hfz28_6:=blk_frozen BK115.out 6
   go_wp2
   go_meet
   case rel=>exact ⟨_,(false),(by first|rfl|(simp;done)|(simp [*];done)),H',⟨by first|omega|exact Nat.le_refl _⟩,⟨by (with_reducible repeat (first|refine zbN ?_ _|refine zbD ?_|refine zbA ?_ _));exact BK115.out⟩,⟨by repeat (first|(with_reducible first|exact HB.out|apply zlA|apply zlN|apply zlD|refine zlS ?_ GE115.out)|exact HB.out)⟩⟩
 case rest =>
  clear HC2
  try clear c1
  try clear p2
  try clear c4
  try clear c4b0
  try clear c5
  try clear c5b0
  try clear c6
  try clear c6b0
  try clear c7
  try clear c7b0
  try clear c8
  try clear c8b0
  try clear c9
  try clear c9b0
  try clear c10
  try clear c10b0
  try clear c11
  try clear c11b0
  try clear c12
  try clear c12b0
  try clear c13
  try clear c13b0
  try clear c14
  try clear c14b0
  try clear c15
  try clear c15b0
  try clear hcz16_0
  try clear hcz16_1
  try clear hcz16_2
  try clear hcz16_3
  try clear hcz16_4
  try clear hcz16_5
  try clear hcz16_6
  try clear hcz17_0
  try clear hcz17_1
  try clear hcz17_2
  try clear hcz17_3
  try clear hcz17_4
  try clear hcz17_5
  try clear hcz17_6
  try clear hcz18_0
  try clear hcz18_1
  try clear hcz18_2
  try clear hcz18_3
  try clear hcz18_4
  try clear hcz18_5
  try clear hcz18_6
  try clear hcz19_0
  try clear hcz19_1
  try clear hcz19_2
  try clear hcz19_3
  try clear hcz19_4
  try clear hcz19_5
  try clear hcz19_6
  try clear hcz20_0
  try clear hcz20_1
  try clear hcz20_2
  try clear hcz20_3
  try clear hcz20_4
  try clear hcz20_5
  try clear hcz20_6
  try clear hcz21_0
  try clear hcz21_1
  try clear hcz21_2
  try clear hcz21_3
  try clear hcz21_4
  try clear hcz21_5
  try clear hcz21_6
  try clear hcz22_0
  try clear hcz22_1
  try clear hcz22_2
  try clear hcz22_3
  try clear hcz22_4
  try clear hcz22_5
  try clear hcz22_6
  try clear hcz23_0
  try clear hcz23_1
  try clear hcz23_2
  try clear hcz23_3
  try clear hcz23_4
  try clear hcz23_5
  try clear hcz23_6
  try clear hcz24_0
  try clear hcz24_1
  try clear hcz24_2
  try clear hcz24_3
  try clear hcz24_4
  try clear hcz24_5
  try clear hcz24_6
  try clear hcz25_0
  try clear hcz25_1
  try clear hcz25_2
  try clear hcz25_3
  try clear hcz25_4
  try clear hcz25_5
  try clear hcz25_6
  try clear hcz26_0
  try clear hcz26_1
  try clear hcz26_2
  try clear hcz26_3
  try clear hcz26_4
  try clear hcz26_5
  try clear hcz26_6
  try clear hcz27_0
  try clear hcz27_1
  try clear hcz27_2
  try clear hcz27_3
  try clear hcz27_4
  try clear hcz27_5
  try clear hcz27_6
  try clear hcz28_0
  try clear hcz28_1
  try clear hcz28_2
  try clear hcz28_3
  try clear hcz28_4
  try clear hcz28_5
  try clear hcz28_6
  try clear hfz16_0
  try clear hfz16_1
  try clear hfz16_2
  try clear hfz16_3
  try clear hfz16_4
  try clear hfz16_5
  try clear hfz16_6
  try clear hfz17_0
  try clear hfz17_1
  try clear hfz17_2
  try clear hfz17_3
  try clear hfz17_4
  try clear hfz17_5
  try clear hfz17_6
  try clear hfz18_0
  try clear hfz18_1
  try clear hfz18_2
  try clear hfz18_3
  try clear hfz18_4
  try clear hfz18_5
  try clear hfz18_6
  try clear hfz19_0
  try clear hfz19_1
  try clear hfz19_2
  try clear hfz19_3
  try clear hfz19_4
  try clear hfz19_5
  try clear hfz19_6
  try clear hfz20_0
  try clear hfz20_1
  try clear hfz20_2
  try clear hfz20_3
  try clear hfz20_4
  try clear hfz20_5
  try clear hfz20_6
  try clear hfz21_0
  try clear hfz21_1
  try clear hfz21_2
  try clear hfz21_3
  try clear hfz21_4
  try clear hfz21_5
  try clear hfz21_6
  try clear hfz22_0
  try clear hfz22_1
  try clear hfz22_2
  try clear hfz22_3
  try clear hfz22_4
  try clear hfz22_5
  try clear hfz22_6
  try clear hfz23_0
  try clear hfz23_1
  try clear hfz23_2
  try clear hfz23_3
  try clear hfz23_4
  try clear hfz23_5
  try clear hfz23_6
  try clear hfz24_0
  try clear hfz24_1
  try clear hfz24_2
  try clear hfz24_3
  try clear hfz24_4
  try clear hfz24_5
  try clear hfz24_6
  try clear hfz25_0
  try clear hfz25_1
  try clear hfz25_2
  try clear hfz25_3
  try clear hfz25_4
  try clear hfz25_5
  try clear hfz25_6
  try clear hfz26_0
  try clear hfz26_1
  try clear hfz26_2
  try clear hfz26_3
  try clear hfz26_4
  try clear hfz26_5
  try clear hfz26_6
  try clear hfz27_0
  try clear hfz27_1
  try clear hfz27_2
  try clear hfz27_3
  try clear hfz27_4
  try clear hfz27_5
  try clear hfz27_6
  try clear hfz28_0
  try clear hfz28_1
  try clear hfz28_2
  try clear hfz28_3
  try clear hfz28_4
  try clear hfz28_5
  try clear hfz28_6
  obtain ⟨kq,x3_1,rfl,HA,HJ1,BK115,HB⟩:=hcut
  cases kq with
  | zero=>exact absurd HA.out (by simp [inode_Check.j0])
  | succ kj1 =>
   have H:=HA.out
   clear HA
   simp only [inode_Check.j0] at H
   by_cases c29:x3_1=true
   ·subst c29
    have H1:(if a0_0=0 then (if a0_1=0 then (if a0_2=0 then (if a0_3=0 then (if a0_5=0 then (if ((l0_6.length:Int)=0) then (if a0_0=2 then (if (Int.tmod a0_2 256)=0 then (some 0) else (some 140)) else (some 0)) else (some 140)) else (some 140)) else (some 140)) else (some 140)) else (some 140)) else (if a0_5=0 then ((extent_Check.f kj1 l0_6).bind fun t116=>(if t116=0 then (if a0_0=2 then (if (Int.tmod a0_2 256)=0 then (some 0) else (some 140)) else (some 0)) else (some 140))) else ((inode_entries.f kj1 l0_6).bind fun t117=>(if t117=true then (if a0_0=2 then (if (Int.tmod a0_2 256)=0 then (some 0) else (some 140)) else (some 0)) else (some 140)))))=some r:=by rw [if_pos rfl] at H;exact H
    clear H
    have H:=H1
    clear H1
    by_cases c30:a0_0=0
    ·rw [if_pos c30] at H
     have c30b0:(a0_0 == 0)=true:=beq_iff_eq.mpr c30
     have c30b1:(a0_0 != 0)=false:=bne_eq_false_iff_eq.mpr c30
     clear c30
     by_cases c31:a0_1=0
     ·rw [if_pos c31] at H
      have c31b0:(a0_1 == 0)=true:=beq_iff_eq.mpr c31
      have c31b1:(a0_1 != 0)=false:=bne_eq_false_iff_eq.mpr c31
      clear c31
      by_cases c32:a0_2=0
      ·rw [if_pos c32] at H
       have c32b0:(a0_2 == 0)=true:=beq_iff_eq.mpr c32
       have c32b1:(a0_2 != 0)=false:=bne_eq_false_iff_eq.mpr c32
       clear c32
       by_cases c33:a0_3=0
       ·rw [if_pos c33] at H
        have c33b0:(a0_3 == 0)=true:=beq_iff_eq.mpr c33
        have c33b1:(a0_3 != 0)=false:=bne_eq_false_iff_eq.mpr c33
        clear c33
        by_cases c34:a0_5=0
        ·rw [if_pos c34] at H
         have c34b0:(a0_5 == 0)=true:=beq_iff_eq.mpr c34
         have c34b1:(a0_5 != 0)=false:=bne_eq_false_iff_eq.mpr c34
         clear c34
         by_cases c35:((l0_6.length:Int)=0)
         ·rw [if_pos c35] at H
          have c35b0:((l0_6.length:Int) == 0)=true:=beq_iff_eq.mpr c35
          have c35b1:((l0_6.length:Int) != 0)=false:=bne_eq_false_iff_eq.mpr c35
          clear c35
          by_cases c36:a0_0=2
          ·rw [if_pos c36] at H
           have c36b0:(a0_0 == 2)=true:=beq_iff_eq.mpr c36
           have c36b1:(a0_0 != 2)=false:=bne_eq_false_iff_eq.mpr c36
           clear c36
           by_cases c37:(Int.tmod a0_2 256)=0
           ·rw [if_pos c37] at H
            have c37b0:((Int.tmod a0_2 256) == 0)=true:=beq_iff_eq.mpr c37
            have c37b1:((Int.tmod a0_2 256) != 0)=false:=bne_eq_false_iff_eq.mpr c37
            clear c37
            obtain rfl:=Option.some.inj H
            have hcz38_0:wc.cell? ⟨gb115,0,none⟩=some (.int .i64 a0_0):=(blk_cell BK115.out 0).trans rfl
            have hcz38_1:wc.cell? ⟨gb115,1,none⟩=some (.int .i64 a0_1):=(blk_cell BK115.out 1).trans rfl
            have hcz38_2:wc.cell? ⟨gb115,2,none⟩=some (.int .i64 a0_2):=(blk_cell BK115.out 2).trans rfl
            have hcz38_3:wc.cell? ⟨gb115,3,none⟩=some (.int .i64 a0_3):=(blk_cell BK115.out 3).trans rfl
            have hcz38_4:wc.cell? ⟨gb115,4,none⟩=some (.int .i64 a0_4):=(blk_cell BK115.out 4).trans rfl
            have hcz38_5:wc.cell? ⟨gb115,5,none⟩=some (.int .i64 a0_5):=(blk_cell BK115.out 5).trans rfl
            have hcz38_6:wc.cell? ⟨gb115,6,none⟩=some (.slice A0_6 l0_6.length c0_6):=(blk_cell BK115.out 6).trans rfl
            have hfz38_0:=blk_frozen BK115.out 0
            have hfz38_1:=blk_frozen BK115.out 1
            have hfz38_2:=blk_frozen BK115.out 2
            have hfz38_3:=blk_frozen BK115.out 3
            have hfz38_4:=blk_frozen BK115.out 4
            have hfz38_5:=blk_frozen BK115.out 5
            have hfz38_6:=blk_frozen BK115.out 6
            go_wp2
            go_ret
            exact ⟨by first|rfl|(simp [errW_none,errW_some] <;> rfl)|(simp [*,errW_none,errW_some] <;> rfl),by repeat (first|(with_reducible first|exact HB.out|apply zlA|apply zlN|apply zlD|refine zlS ?_ GE115.out)|exact HB.out)⟩
           ·rw [if_neg c37] at H
            have c37b0:((Int.tmod a0_2 256) == 0)=false:=beq_eq_false_iff_ne.mpr c37
            have c37b1:((Int.tmod a0_2 256) != 0)=true:=bne_iff_ne.mpr c37
            obtain rfl:=Option.some.inj H
            have hcz39_0:wc.cell? ⟨gb115,0,none⟩=some (.int .i64 a0_0):=(blk_cell BK115.out 0).trans rfl
            have hcz39_1:wc.cell? ⟨gb115,1,none⟩=some (.int .i64 a0_1):=(blk_cell BK115.out 1).trans rfl
            have hcz39_2:wc.cell? ⟨gb115,2,none⟩=some (.int .i64 a0_2):=(blk_cell BK115.out 2).trans rfl
            have hcz39_3:wc.cell? ⟨gb115,3,none⟩=some (.int .i64 a0_3):=(blk_cell BK115.out 3).trans rfl
            have hcz39_4:wc.cell? ⟨gb115,4,none⟩=some (.int .i64 a0_4):=(blk_cell BK115.out 4).trans rfl
            have hcz39_5:wc.cell? ⟨gb115,5,none⟩=some (.int .i64 a0_5):=(blk_cell BK115.out 5).trans rfl
            have hcz39_6:wc.cell? ⟨gb115,6,none⟩=some (.slice A0_6 l0_6.length c0_6):=(blk_cell BK115.out 6).trans rfl
            have hfz39_0:=blk_frozen BK115.out 0
            have hfz39_1:=blk_frozen BK115.out 1
            have hfz39_2:=blk_frozen BK115.out 2
            have hfz39_3:=blk_frozen BK115.out 3
            have hfz39_4:=blk_frozen BK115.out 4
            have hfz39_5:=blk_frozen BK115.out 5
            have hfz39_6:=blk_frozen BK115.out 6
            go_wp2
            go_ret
            exact ⟨by first|rfl|(simp [errW_none,errW_some] <;> rfl)|(simp [*,errW_none,errW_some] <;> rfl),by repeat (first|(with_reducible first|exact HB.out|apply zlA|apply zlN|apply zlD|refine zlS ?_ GE115.out)|exact HB.out)⟩
          ·rw [if_neg c36] at H
           have c36b0:(a0_0 == 2)=false:=beq_eq_false_iff_ne.mpr c36
           have c36b1:(a0_0 != 2)=true:=bne_iff_ne.mpr c36
           obtain rfl:=Option.some.inj H
           have hcz40_0:wc.cell? ⟨gb115,0,none⟩=some (.int .i64 a0_0):=(blk_cell BK115.out 0).trans rfl
           have hcz40_1:wc.cell? ⟨gb115,1,none⟩=some (.int .i64 a0_1):=(blk_cell BK115.out 1).trans rfl
           have hcz40_2:wc.cell? ⟨gb115,2,none⟩=some (.int .i64 a0_2):=(blk_cell BK115.out 2).trans rfl
           have hcz40_3:wc.cell? ⟨gb115,3,none⟩=some (.int .i64 a0_3):=(blk_cell BK115.out 3).trans rfl
           have hcz40_4:wc.cell? ⟨gb115,4,none⟩=some (.int .i64 a0_4):=(blk_cell BK115.out 4).trans rfl
           have hcz40_5:wc.cell? ⟨gb115,5,none⟩=some (.int .i64 a0_5):=(blk_cell BK115.out 5).trans rfl
           have hcz40_6:wc.cell? ⟨gb115,6,none⟩=some (.slice A0_6 l0_6.length c0_6):=(blk_cell BK115.out 6).trans rfl
           have hfz40_0:=blk_frozen BK115.out 0
           have hfz40_1:=blk_frozen BK115.out 1
           have hfz40_2:=blk_frozen BK115.out 2
           have hfz40_3:=blk_frozen BK115.out 3
           have hfz40_4:=blk_frozen BK115.out 4
           have hfz40_5:=blk_frozen BK115.out 5
           have hfz40_6:=blk_frozen BK115.out 6
           go_wp2
           go_ret
           exact ⟨by first|rfl|(simp [errW_none,errW_some] <;> rfl)|(simp [*,errW_none,errW_some] <;> rfl),by repeat (first|(with_reducible first|exact HB.out|apply zlA|apply zlN|apply zlD|refine zlS ?_ GE115.out)|exact HB.out)⟩
         ·rw [if_neg c35] at H
          have c35b0:((l0_6.length:Int) == 0)=false:=beq_eq_false_iff_ne.mpr c35
          have c35b1:((l0_6.length:Int) != 0)=true:=bne_iff_ne.mpr c35
          have c35b2:¬ (l0_6=[]):=fun h_=>c35 (by rw [h_];rfl)
          obtain rfl:=Option.some.inj H
          have hcz41_0:wc.cell? ⟨gb115,0,none⟩=some (.int .i64 a0_0):=(blk_cell BK115.out 0).trans rfl
          have hcz41_1:wc.cell? ⟨gb115,1,none⟩=some (.int .i64 a0_1):=(blk_cell BK115.out 1).trans rfl
          have hcz41_2:wc.cell? ⟨gb115,2,none⟩=some (.int .i64 a0_2):=(blk_cell BK115.out 2).trans rfl
          have hcz41_3:wc.cell? ⟨gb115,3,none⟩=some (.int .i64 a0_3):=(blk_cell BK115.out 3).trans rfl
          have hcz41_4:wc.cell? ⟨gb115,4,none⟩=some (.int .i64 a0_4):=(blk_cell BK115.out 4).trans rfl
          have hcz41_5:wc.cell? ⟨gb115,5,none⟩=some (.int .i64 a0_5):=(blk_cell BK115.out 5).trans rfl
          have hcz41_6:wc.cell? ⟨gb115,6,none⟩=some (.slice A0_6 l0_6.length c0_6):=(blk_cell BK115.out 6).trans rfl
          have hfz41_0:=blk_frozen BK115.out 0
          have hfz41_1:=blk_frozen BK115.out 1
          have hfz41_2:=blk_frozen BK115.out 2
          have hfz41_3:=blk_frozen BK115.out 3
          have hfz41_4:=blk_frozen BK115.out 4
          have hfz41_5:=blk_frozen BK115.out 5
          have hfz41_6:=blk_frozen BK115.out 6
          go_wp2
          go_ret
          exact ⟨by first|rfl|(simp [errW_none,errW_some] <;> rfl)|(simp [*,errW_none,errW_some] <;> rfl),by repeat (first|(with_reducible first|exact HB.out|apply zlA|apply zlN|apply zlD|refine zlS ?_ GE115.out)|exact HB.out)⟩
        ·rw [if_neg c34] at H
         have c34b0:(a0_5 == 0)=false:=beq_eq_false_iff_ne.mpr c34
         have c34b1:(a0_5 != 0)=true:=bne_iff_ne.mpr c34
         obtain rfl:=Option.some.inj H
         have hcz42_0:wc.cell? ⟨gb115,0,none⟩=some (.int .i64 a0_0):=(blk_cell BK115.out 0).trans rfl
         have hcz42_1:wc.cell? ⟨gb115,1,none⟩=some (.int .i64 a0_1):=(blk_cell BK115.out 1).trans rfl
         have hcz42_2:wc.cell? ⟨gb115,2,none⟩=some (.int .i64 a0_2):=(blk_cell BK115.out 2).trans rfl
         have hcz42_3:wc.cell? ⟨gb115,3,none⟩=some (.int .i64 a0_3):=(blk_cell BK115.out 3).trans rfl
         have hcz42_4:wc.cell? ⟨gb115,4,none⟩=some (.int .i64 a0_4):=(blk_cell BK115.out 4).trans rfl
         have hcz42_5:wc.cell? ⟨gb115,5,none⟩=some (.int .i64 a0_5):=(blk_cell BK115.out 5).trans rfl
         have hcz42_6:wc.cell? ⟨gb115,6,none⟩=some (.slice A0_6 l0_6.length c0_6):=(blk_cell BK115.out 6).trans rfl
         have hfz42_0:=blk_frozen BK115.out 0
         have hfz42_1:=blk_frozen BK115.out 1
         have hfz42_2:=blk_frozen BK115.out 2
         have hfz42_3:=blk_frozen BK115.out 3
         have hfz42_4:=blk_frozen BK115.out 4
         have hfz42_5:=blk_frozen BK115.out 5
         have hfz42_6:=blk_frozen BK115.out 6
         go_wp2
         go_ret
         exact ⟨by first|rfl|(simp [errW_none,errW_some] <;> rfl)|(simp [*,errW_none,errW_some] <;> rfl),by repeat (first|(with_reducible first|exact HB.out|apply zlA|apply zlN|apply zlD|refine zlS ?_ GE115.out)|exact HB.out)⟩
       ·rw [if_neg c33] at H
        have c33b0:(a0_3 == 0)=false:=beq_eq_false_iff_ne.mpr c33
        have c33b1:(a0_3 != 0)=true:=bne_iff_ne.mpr c33
        obtain rfl:=Option.some.inj H
        have hcz43_0:wc.cell? ⟨gb115,0,none⟩=some (.int .i64 a0_0):=(blk_cell BK115.out 0).trans rfl
        have hcz43_1:wc.cell? ⟨gb115,1,none⟩=some (.int .i64 a0_1):=(blk_cell BK115.out 1).trans rfl
        have hcz43_2:wc.cell? ⟨gb115,2,none⟩=some (.int .i64 a0_2):=(blk_cell BK115.out 2).trans rfl
        have hcz43_3:wc.cell? ⟨gb115,3,none⟩=some (.int .i64 a0_3):=(blk_cell BK115.out 3).trans rfl
        have hcz43_4:wc.cell? ⟨gb115,4,none⟩=some (.int .i64 a0_4):=(blk_cell BK115.out 4).trans rfl
        have hcz43_5:wc.cell? ⟨gb115,5,none⟩=some (.int .i64 a0_5):=(blk_cell BK115.out 5).trans rfl
        have hcz43_6:wc.cell? ⟨gb115,6,none⟩=some (.slice A0_6 l0_6.length c0_6):=(blk_cell BK115.out 6).trans rfl
        have hfz43_0:=blk_frozen BK115.out 0
        have hfz43_1:=blk_frozen BK115.out 1
        have hfz43_2:=blk_frozen BK115.out 2
        have hfz43_3:=blk_frozen BK115.out 3
        have hfz43_4:=blk_frozen BK115.out 4
        have hfz43_5:=blk_frozen BK115.out 5
        have hfz43_6:=blk_frozen BK115.out 6
        go_wp2
        go_ret
        exact ⟨by first|rfl|(simp [errW_none,errW_some] <;> rfl)|(simp [*,errW_none,errW_some] <;> rfl),by repeat (first|(with_reducible first|exact HB.out|apply zlA|apply zlN|apply zlD|refine zlS ?_ GE115.out)|exact HB.out)⟩
      ·rw [if_neg c32] at H
       have c32b0:(a0_2 == 0)=false:=beq_eq_false_iff_ne.mpr c32
       have c32b1:(a0_2 != 0)=true:=bne_iff_ne.mpr c32
       obtain rfl:=Option.some.inj H
       have hcz44_0:wc.cell? ⟨gb115,0,none⟩=some (.int .i64 a0_0):=(blk_cell BK115.out 0).trans rfl
       have hcz44_1:wc.cell? ⟨gb115,1,none⟩=some (.int .i64 a0_1):=(blk_cell BK115.out 1).trans rfl
       have hcz44_2:wc.cell? ⟨gb115,2,none⟩=some (.int .i64 a0_2):=(blk_cell BK115.out 2).trans rfl
       have hcz44_3:wc.cell? ⟨gb115,3,none⟩=some (.int .i64 a0_3):=(blk_cell BK115.out 3).trans rfl
       have hcz44_4:wc.cell? ⟨gb115,4,none⟩=some (.int .i64 a0_4):=(blk_cell BK115.out 4).trans rfl
       have hcz44_5:wc.cell? ⟨gb115,5,none⟩=some (.int .i64 a0_5):=(blk_cell BK115.out 5).trans rfl
       have hcz44_6:wc.cell? ⟨gb115,6,none⟩=some (.slice A0_6 l0_6.length c0_6):=(blk_cell BK115.out 6).trans rfl
       have hfz44_0:=blk_frozen BK115.out 0
       have hfz44_1:=blk_frozen BK115.out 1
       have hfz44_2:=blk_frozen BK115.out 2
       have hfz44_3:=blk_frozen BK115.out 3
       have hfz44_4:=blk_frozen BK115.out 4
       have hfz44_5:=blk_frozen BK115.out 5
       have hfz44_6:=blk_frozen BK115.out 6
       go_wp2
       go_ret
       exact ⟨by first|rfl|(simp [errW_none,errW_some] <;> rfl)|(simp [*,errW_none,errW_some] <;> rfl),by repeat (first|(with_reducible first|exact HB.out|apply zlA|apply zlN|apply zlD|refine zlS ?_ GE115.out)|exact HB.out)⟩
     ·rw [if_neg c31] at H
      have c31b0:(a0_1 == 0)=false:=beq_eq_false_iff_ne.mpr c31
      have c31b1:(a0_1 != 0)=true:=bne_iff_ne.mpr c31
      obtain rfl:=Option.some.inj H
      have hcz45_0:wc.cell? ⟨gb115,0,none⟩=some (.int .i64 a0_0):=(blk_cell BK115.out 0).trans rfl
      have hcz45_1:wc.cell? ⟨gb115,1,none⟩=some (.int .i64 a0_1):=(blk_cell BK115.out 1).trans rfl
      have hcz45_2:wc.cell? ⟨gb115,2,none⟩=some (.int .i64 a0_2):=(blk_cell BK115.out 2).trans rfl
      have hcz45_3:wc.cell? ⟨gb115,3,none⟩=some (.int .i64 a0_3):=(blk_cell BK115.out 3).trans rfl
      have hcz45_4:wc.cell? ⟨gb115,4,none⟩=some (.int .i64 a0_4):=(blk_cell BK115.out 4).trans rfl
      have hcz45_5:wc.cell? ⟨gb115,5,none⟩=some (.int .i64 a0_5):=(blk_cell BK115.out 5).trans rfl
      have hcz45_6:wc.cell? ⟨gb115,6,none⟩=some (.slice A0_6 l0_6.length c0_6):=(blk_cell BK115.out 6).trans rfl
      have hfz45_0:=blk_frozen BK115.out 0
      have hfz45_1:=blk_frozen BK115.out 1
      have hfz45_2:=blk_frozen BK115.out 2
      have hfz45_3:=blk_frozen BK115.out 3
      have hfz45_4:=blk_frozen BK115.out 4
      have hfz45_5:=blk_frozen BK115.out 5
      have hfz45_6:=blk_frozen BK115.out 6
      go_wp2
      go_ret
      exact ⟨by first|rfl|(simp [errW_none,errW_some] <;> rfl)|(simp [*,errW_none,errW_some] <;> rfl),by repeat (first|(with_reducible first|exact HB.out|apply zlA|apply zlN|apply zlD|refine zlS ?_ GE115.out)|exact HB.out)⟩
    ·rw [if_neg c30] at H
     have c30b0:(a0_0 == 0)=false:=beq_eq_false_iff_ne.mpr c30
     have c30b1:(a0_0 != 0)=true:=bne_iff_ne.mpr c30
     by_cases c46:a0_5=0
     ·rw [if_pos c46] at H
      have c46b0:(a0_5 == 0)=true:=beq_iff_eq.mpr c46
      have c46b1:(a0_5 != 0)=false:=bne_eq_false_iff_eq.mpr c46
      clear c46
      replace H:=Option.bind_eq_some_iff.mp H
      obtain ⟨t116,A470,H⟩:=H
      replace H:(if t116=0 then (if a0_0=2 then (if (Int.tmod a0_2 256)=0 then (some 0) else (some 140)) else (some 0)) else (some 140))=some r:=H
      have A47:=zm A470
      clear A470
      by_cases c48:t116=0
      ·rw [if_pos c48] at H
       have c48b0:(t116 == 0)=true:=beq_iff_eq.mpr c48
       have c48b1:(t116 != 0)=false:=bne_eq_false_iff_eq.mpr c48
       clear c48
       by_cases c49:a0_0=2
       ·rw [if_pos c49] at H
        have c49b0:(a0_0 == 2)=true:=beq_iff_eq.mpr c49
        have c49b1:(a0_0 != 2)=false:=bne_eq_false_iff_eq.mpr c49
        clear c49
        by_cases c50:(Int.tmod a0_2 256)=0
        ·rw [if_pos c50] at H
         have c50b0:((Int.tmod a0_2 256) == 0)=true:=beq_iff_eq.mpr c50
         have c50b1:((Int.tmod a0_2 256) != 0)=false:=bne_eq_false_iff_eq.mpr c50
         clear c50
         obtain rfl:=Option.some.inj H
         have hcz51_0:wc.cell? ⟨gb115,0,none⟩=some (.int .i64 a0_0):=(blk_cell BK115.out 0).trans rfl
         have hcz51_1:wc.cell? ⟨gb115,1,none⟩=some (.int .i64 a0_1):=(blk_cell BK115.out 1).trans rfl
         have hcz51_2:wc.cell? ⟨gb115,2,none⟩=some (.int .i64 a0_2):=(blk_cell BK115.out 2).trans rfl
         have hcz51_3:wc.cell? ⟨gb115,3,none⟩=some (.int .i64 a0_3):=(blk_cell BK115.out 3).trans rfl
         have hcz51_4:wc.cell? ⟨gb115,4,none⟩=some (.int .i64 a0_4):=(blk_cell BK115.out 4).trans rfl
         have hcz51_5:wc.cell? ⟨gb115,5,none⟩=some (.int .i64 a0_5):=(blk_cell BK115.out 5).trans rfl
         have hcz51_6:wc.cell? ⟨gb115,6,none⟩=some (.slice A0_6 l0_6.length c0_6):=(blk_cell BK115.out 6).trans rfl
         have hfz51_0:=blk_frozen BK115.out 0
         have hfz51_1:=blk_frozen BK115.out 1
         have hfz51_2:=blk_frozen BK115.out 2
         have hfz51_3:=blk_frozen BK115.out 3
         have hfz51_4:=blk_frozen BK115.out 4
         have hfz51_5:=blk_frozen BK115.out 5
         have hfz51_6:=blk_frozen BK115.out 6
         go_wp2_with (first|((with_reducible refine gate_callee (f:=39) rfl ?_);refine goesL_ (some 108) rfl rfl Try.func39 (by kernel_rfl) rfl #[.slice A0_6 l0_6.length c0_6] rfl (by (try simp only [List.map_toArray,List.map_cons,List.map_nil]);first|done|rfl|(simp only [List.length_drop,List.length_take];rfl)) ?_;(with_reducible refine (extent_Check.calls kj1 _ _ l0_6 t116 _ ?side1 ?side2 A47.out).mono ?_);(case side1=>repeat (first|exact (Kd.C_below HR0_6.out HB.out)|(with_reducible refine Kd.C_alloc ?_ _)|(with_reducible refine Kd.C_drewN ?_ _)|(with_reducible refine Kd.C_drew ?_)));(case side2=>exact HC0_6.out);rintro e w52 ⟨rfl,hb⟩;refine ⟨_,rfl,?_⟩;have n0_:=zm (zbB (g:=gb115) (o:=.cells #[.int .i64 a0_0,.int .i64 a0_1,.int .i64 a0_2,.int .i64 a0_3,.int .i64 a0_4,.int .i64 a0_5,.slice A0_6 l0_6.length c0_6] 24 (0,0)) (by (with_reducible repeat (first|refine zbN ?_ _|refine zbD ?_|refine zbA ?_ _));exact BK115.out) hb);have n1_:=zm (below_step (by repeat (first|(with_reducible first|exact HB.out|apply zlA|apply zlN|apply zlD|refine zlS ?_ GE115.out)|exact HB.out)) hb);clear BK115 HB;have BK115:=n0_;have HB:=n1_;clear n0_ n1_;(try clear hb);(try clear hb2);(try clear hk);(try clear hi);have hcz53_0:w52.cell? ⟨gb115,0,none⟩=some (.int .i64 a0_0):=(blk_cell BK115.out 0).trans rfl;have hcz53_1:w52.cell? ⟨gb115,1,none⟩=some (.int .i64 a0_1):=(blk_cell BK115.out 1).trans rfl;have hcz53_2:w52.cell? ⟨gb115,2,none⟩=some (.int .i64 a0_2):=(blk_cell BK115.out 2).trans rfl;have hcz53_3:w52.cell? ⟨gb115,3,none⟩=some (.int .i64 a0_3):=(blk_cell BK115.out 3).trans rfl;have hcz53_4:w52.cell? ⟨gb115,4,none⟩=some (.int .i64 a0_4):=(blk_cell BK115.out 4).trans rfl;have hcz53_5:w52.cell? ⟨gb115,5,none⟩=some (.int .i64 a0_5):=(blk_cell BK115.out 5).trans rfl;have hcz53_6:w52.cell? ⟨gb115,6,none⟩=some (.slice A0_6 l0_6.length c0_6):=(blk_cell BK115.out 6).trans rfl;have hfz53_0:=blk_frozen BK115.out 0;have hfz53_1:=blk_frozen BK115.out 1;have hfz53_2:=blk_frozen BK115.out 2;have hfz53_3:=blk_frozen BK115.out 3;have hfz53_4:=blk_frozen BK115.out 4;have hfz53_5:=blk_frozen BK115.out 5;have hfz53_6:=blk_frozen BK115.out 6))
         go_ret
         exact ⟨by first|rfl|(simp [errW_none,errW_some] <;> rfl)|(simp [*,errW_none,errW_some] <;> rfl),by repeat (first|(with_reducible first|exact HB.out|apply zlA|apply zlN|apply zlD|refine zlS ?_ GE115.out)|exact HB.out)⟩
        ·rw [if_neg c50] at H
         have c50b0:((Int.tmod a0_2 256) == 0)=false:=beq_eq_false_iff_ne.mpr c50
         have c50b1:((Int.tmod a0_2 256) != 0)=true:=bne_iff_ne.mpr c50
         obtain rfl:=Option.some.inj H
         have hcz54_0:wc.cell? ⟨gb115,0,none⟩=some (.int .i64 a0_0):=(blk_cell BK115.out 0).trans rfl
         have hcz54_1:wc.cell? ⟨gb115,1,none⟩=some (.int .i64 a0_1):=(blk_cell BK115.out 1).trans rfl
         have hcz54_2:wc.cell? ⟨gb115,2,none⟩=some (.int .i64 a0_2):=(blk_cell BK115.out 2).trans rfl
         have hcz54_3:wc.cell? ⟨gb115,3,none⟩=some (.int .i64 a0_3):=(blk_cell BK115.out 3).trans rfl
         have hcz54_4:wc.cell? ⟨gb115,4,none⟩=some (.int .i64 a0_4):=(blk_cell BK115.out 4).trans rfl
         have hcz54_5:wc.cell? ⟨gb115,5,none⟩=some (.int .i64 a0_5):=(blk_cell BK115.out 5).trans rfl
         have hcz54_6:wc.cell? ⟨gb115,6,none⟩=some (.slice A0_6 l0_6.length c0_6):=(blk_cell BK115.out 6).trans rfl
         have hfz54_0:=blk_frozen BK115.out 0
         have hfz54_1:=blk_frozen BK115.out 1
         have hfz54_2:=blk_frozen BK115.out 2
         have hfz54_3:=blk_frozen BK115.out 3
         have hfz54_4:=blk_frozen BK115.out 4
         have hfz54_5:=blk_frozen BK115.out 5
         have hfz54_6:=blk_frozen BK115.out 6
         go_wp2_with (first|((with_reducible refine gate_callee (f:=39) rfl ?_);refine goesL_ (some 108) rfl rfl Try.func39 (by kernel_rfl) rfl #[.slice A0_6 l0_6.length c0_6] rfl (by (try simp only [List.map_toArray,List.map_cons,List.map_nil]);first|done|rfl|(simp only [List.length_drop,List.length_take];rfl)) ?_;(with_reducible refine (extent_Check.calls kj1 _ _ l0_6 t116 _ ?side1 ?side2 A47.out).mono ?_);(case side1=>repeat (first|exact (Kd.C_below HR0_6.out HB.out)|(with_reducible refine Kd.C_alloc ?_ _)|(with_reducible refine Kd.C_drewN ?_ _)|(with_reducible refine Kd.C_drew ?_)));(case side2=>exact HC0_6.out);rintro e w55 ⟨rfl,hb⟩;refine ⟨_,rfl,?_⟩;have n0_:=zm (zbB (g:=gb115) (o:=.cells #[.int .i64 a0_0,.int .i64 a0_1,.int .i64 a0_2,.int .i64 a0_3,.int .i64 a0_4,.int .i64 a0_5,.slice A0_6 l0_6.length c0_6] 24 (0,0)) (by (with_reducible repeat (first|refine zbN ?_ _|refine zbD ?_|refine zbA ?_ _));exact BK115.out) hb);have n1_:=zm (below_step (by repeat (first|(with_reducible first|exact HB.out|apply zlA|apply zlN|apply zlD|refine zlS ?_ GE115.out)|exact HB.out)) hb);clear BK115 HB;have BK115:=n0_;have HB:=n1_;clear n0_ n1_;(try clear hb);(try clear hb2);(try clear hk);(try clear hi);have hcz56_0:w55.cell? ⟨gb115,0,none⟩=some (.int .i64 a0_0):=(blk_cell BK115.out 0).trans rfl;have hcz56_1:w55.cell? ⟨gb115,1,none⟩=some (.int .i64 a0_1):=(blk_cell BK115.out 1).trans rfl;have hcz56_2:w55.cell? ⟨gb115,2,none⟩=some (.int .i64 a0_2):=(blk_cell BK115.out 2).trans rfl;have hcz56_3:w55.cell? ⟨gb115,3,none⟩=some (.int .i64 a0_3):=(blk_cell BK115.out 3).trans rfl;have hcz56_4:w55.cell? ⟨gb115,4,none⟩=some (.int .i64 a0_4):=(blk_cell BK115.out 4).trans rfl;have hcz56_5:w55.cell? ⟨gb115,5,none⟩=some (.int .i64 a0_5):=(blk_cell BK115.out 5).trans rfl;have hcz56_6:w55.cell? ⟨gb115,6,none⟩=some (.slice A0_6 l0_6.length c0_6):=(blk_cell BK115.out 6).trans rfl;have hfz56_0:=blk_frozen BK115.out 0;have hfz56_1:=blk_frozen BK115.out 1;have hfz56_2:=blk_frozen BK115.out 2;have hfz56_3:=blk_frozen BK115.out 3;have hfz56_4:=blk_frozen BK115.out 4;have hfz56_5:=blk_frozen BK115.out 5;have hfz56_6:=blk_frozen BK115.out 6))
         go_ret
         exact ⟨by first|rfl|(simp [errW_none,errW_some] <;> rfl)|(simp [*,errW_none,errW_some] <;> rfl),by repeat (first|(with_reducible first|exact HB.out|apply zlA|apply zlN|apply zlD|refine zlS ?_ GE115.out)|exact HB.out)⟩
       ·rw [if_neg c49] at H
        have c49b0:(a0_0 == 2)=false:=beq_eq_false_iff_ne.mpr c49
        have c49b1:(a0_0 != 2)=true:=bne_iff_ne.mpr c49
        obtain rfl:=Option.some.inj H
        have hcz57_0:wc.cell? ⟨gb115,0,none⟩=some (.int .i64 a0_0):=(blk_cell BK115.out 0).trans rfl
        have hcz57_1:wc.cell? ⟨gb115,1,none⟩=some (.int .i64 a0_1):=(blk_cell BK115.out 1).trans rfl
        have hcz57_2:wc.cell? ⟨gb115,2,none⟩=some (.int .i64 a0_2):=(blk_cell BK115.out 2).trans rfl
        have hcz57_3:wc.cell? ⟨gb115,3,none⟩=some (.int .i64 a0_3):=(blk_cell BK115.out 3).trans rfl
        have hcz57_4:wc.cell? ⟨gb115,4,none⟩=some (.int .i64 a0_4):=(blk_cell BK115.out 4).trans rfl
        have hcz57_5:wc.cell? ⟨gb115,5,none⟩=some (.int .i64 a0_5):=(blk_cell BK115.out 5).trans rfl
        have hcz57_6:wc.cell? ⟨gb115,6,none⟩=some (.slice A0_6 l0_6.length c0_6):=(blk_cell BK115.out 6).trans rfl
        have hfz57_0:=blk_frozen BK115.out 0
        have hfz57_1:=blk_frozen BK115.out 1
        have hfz57_2:=blk_frozen BK115.out 2
        have hfz57_3:=blk_frozen BK115.out 3
        have hfz57_4:=blk_frozen BK115.out 4
        have hfz57_5:=blk_frozen BK115.out 5
        have hfz57_6:=blk_frozen BK115.out 6
        go_wp2_with (first|((with_reducible refine gate_callee (f:=39) rfl ?_);refine goesL_ (some 108) rfl rfl Try.func39 (by kernel_rfl) rfl #[.slice A0_6 l0_6.length c0_6] rfl (by (try simp only [List.map_toArray,List.map_cons,List.map_nil]);first|done|rfl|(simp only [List.length_drop,List.length_take];rfl)) ?_;(with_reducible refine (extent_Check.calls kj1 _ _ l0_6 t116 _ ?side1 ?side2 A47.out).mono ?_);(case side1=>repeat (first|exact (Kd.C_below HR0_6.out HB.out)|(with_reducible refine Kd.C_alloc ?_ _)|(with_reducible refine Kd.C_drewN ?_ _)|(with_reducible refine Kd.C_drew ?_)));(case side2=>exact HC0_6.out);rintro e w58 ⟨rfl,hb⟩;refine ⟨_,rfl,?_⟩;have n0_:=zm (zbB (g:=gb115) (o:=.cells #[.int .i64 a0_0,.int .i64 a0_1,.int .i64 a0_2,.int .i64 a0_3,.int .i64 a0_4,.int .i64 a0_5,.slice A0_6 l0_6.length c0_6] 24 (0,0)) (by (with_reducible repeat (first|refine zbN ?_ _|refine zbD ?_|refine zbA ?_ _));exact BK115.out) hb);have n1_:=zm (below_step (by repeat (first|(with_reducible first|exact HB.out|apply zlA|apply zlN|apply zlD|refine zlS ?_ GE115.out)|exact HB.out)) hb);clear BK115 HB;have BK115:=n0_;have HB:=n1_;clear n0_ n1_;(try clear hb);(try clear hb2);(try clear hk);(try clear hi);have hcz59_0:w58.cell? ⟨gb115,0,none⟩=some (.int .i64 a0_0):=(blk_cell BK115.out 0).trans rfl;have hcz59_1:w58.cell? ⟨gb115,1,none⟩=some (.int .i64 a0_1):=(blk_cell BK115.out 1).trans rfl;have hcz59_2:w58.cell? ⟨gb115,2,none⟩=some (.int .i64 a0_2):=(blk_cell BK115.out 2).trans rfl;have hcz59_3:w58.cell? ⟨gb115,3,none⟩=some (.int .i64 a0_3):=(blk_cell BK115.out 3).trans rfl;have hcz59_4:w58.cell? ⟨gb115,4,none⟩=some (.int .i64 a0_4):=(blk_cell BK115.out 4).trans rfl;have hcz59_5:w58.cell? ⟨gb115,5,none⟩=some (.int .i64 a0_5):=(blk_cell BK115.out 5).trans rfl;have hcz59_6:w58.cell? ⟨gb115,6,none⟩=some (.slice A0_6 l0_6.length c0_6):=(blk_cell BK115.out 6).trans rfl;have hfz59_0:=blk_frozen BK115.out 0;have hfz59_1:=blk_frozen BK115.out 1;have hfz59_2:=blk_frozen BK115.out 2;have hfz59_3:=blk_frozen BK115.out 3;have hfz59_4:=blk_frozen BK115.out 4;have hfz59_5:=blk_frozen BK115.out 5;have hfz59_6:=blk_frozen BK115.out 6))
        go_ret
        exact ⟨by first|rfl|(simp [errW_none,errW_some] <;> rfl)|(simp [*,errW_none,errW_some] <;> rfl),by repeat (first|(with_reducible first|exact HB.out|apply zlA|apply zlN|apply zlD|refine zlS ?_ GE115.out)|exact HB.out)⟩
      ·rw [if_neg c48] at H
       have c48b0:(t116 == 0)=false:=beq_eq_false_iff_ne.mpr c48
       have c48b1:(t116 != 0)=true:=bne_iff_ne.mpr c48
       obtain rfl:=Option.some.inj H
       have hcz60_0:wc.cell? ⟨gb115,0,none⟩=some (.int .i64 a0_0):=(blk_cell BK115.out 0).trans rfl
       have hcz60_1:wc.cell? ⟨gb115,1,none⟩=some (.int .i64 a0_1):=(blk_cell BK115.out 1).trans rfl
       have hcz60_2:wc.cell? ⟨gb115,2,none⟩=some (.int .i64 a0_2):=(blk_cell BK115.out 2).trans rfl
       have hcz60_3:wc.cell? ⟨gb115,3,none⟩=some (.int .i64 a0_3):=(blk_cell BK115.out 3).trans rfl
       have hcz60_4:wc.cell? ⟨gb115,4,none⟩=some (.int .i64 a0_4):=(blk_cell BK115.out 4).trans rfl
       have hcz60_5:wc.cell? ⟨gb115,5,none⟩=some (.int .i64 a0_5):=(blk_cell BK115.out 5).trans rfl
       have hcz60_6:wc.cell? ⟨gb115,6,none⟩=some (.slice A0_6 l0_6.length c0_6):=(blk_cell BK115.out 6).trans rfl
       have hfz60_0:=blk_frozen BK115.out 0
       have hfz60_1:=blk_frozen BK115.out 1
       have hfz60_2:=blk_frozen BK115.out 2
       have hfz60_3:=blk_frozen BK115.out 3
       have hfz60_4:=blk_frozen BK115.out 4
       have hfz60_5:=blk_frozen BK115.out 5
       have hfz60_6:=blk_frozen BK115.out 6
       go_wp2_with (first|((with_reducible refine gate_callee (f:=39) rfl ?_);refine goesL_ (some 108) rfl rfl Try.func39 (by kernel_rfl) rfl #[.slice A0_6 l0_6.length c0_6] rfl (by (try simp only [List.map_toArray,List.map_cons,List.map_nil]);first|done|rfl|(simp only [List.length_drop,List.length_take];rfl)) ?_;(with_reducible refine (extent_Check.calls kj1 _ _ l0_6 t116 _ ?side1 ?side2 A47.out).mono ?_);(case side1=>repeat (first|exact (Kd.C_below HR0_6.out HB.out)|(with_reducible refine Kd.C_alloc ?_ _)|(with_reducible refine Kd.C_drewN ?_ _)|(with_reducible refine Kd.C_drew ?_)));(case side2=>exact HC0_6.out);rintro e w61 ⟨rfl,hb⟩;refine ⟨_,rfl,?_⟩;have n0_:=zm (zbB (g:=gb115) (o:=.cells #[.int .i64 a0_0,.int .i64 a0_1,.int .i64 a0_2,.int .i64 a0_3,.int .i64 a0_4,.int .i64 a0_5,.slice A0_6 l0_6.length c0_6] 24 (0,0)) (by (with_reducible repeat (first|refine zbN ?_ _|refine zbD ?_|refine zbA ?_ _));exact BK115.out) hb);have n1_:=zm (below_step (by repeat (first|(with_reducible first|exact HB.out|apply zlA|apply zlN|apply zlD|refine zlS ?_ GE115.out)|exact HB.out)) hb);clear BK115 HB;have BK115:=n0_;have HB:=n1_;clear n0_ n1_;(try clear hb);(try clear hb2);(try clear hk);(try clear hi)))
       go_ret
       exact ⟨by first|rfl|(simp [errW_none,errW_some] <;> rfl)|(simp [*,errW_none,errW_some] <;> rfl),by repeat (first|(with_reducible first|exact HB.out|apply zlA|apply zlN|apply zlD|refine zlS ?_ GE115.out)|exact HB.out)⟩
     ·rw [if_neg c46] at H
      have c46b0:(a0_5 == 0)=false:=beq_eq_false_iff_ne.mpr c46
      have c46b1:(a0_5 != 0)=true:=bne_iff_ne.mpr c46
      replace H:=Option.bind_eq_some_iff.mp H
      obtain ⟨t117,A620,H⟩:=H
      replace H:(if t117=true then (if a0_0=2 then (if (Int.tmod a0_2 256)=0 then (some 0) else (some 140)) else (some 0)) else (some 140))=some r:=H
      have A62:=zm A620
      clear A620
      by_cases c63:t117=true
      ·subst c63
       have H1:(if a0_0=2 then (if (Int.tmod a0_2 256)=0 then (some 0) else (some 140)) else (some 0))=some r:=by rw [if_pos rfl] at H;exact H
       clear H
       have H:=H1
       clear H1
       by_cases c64:a0_0=2
       ·rw [if_pos c64] at H
        have c64b0:(a0_0 == 2)=true:=beq_iff_eq.mpr c64
        have c64b1:(a0_0 != 2)=false:=bne_eq_false_iff_eq.mpr c64
        clear c64
        by_cases c65:(Int.tmod a0_2 256)=0
        ·rw [if_pos c65] at H
         have c65b0:((Int.tmod a0_2 256) == 0)=true:=beq_iff_eq.mpr c65
         have c65b1:((Int.tmod a0_2 256) != 0)=false:=bne_eq_false_iff_eq.mpr c65
         clear c65
         obtain rfl:=Option.some.inj H
         have hcz66_0:wc.cell? ⟨gb115,0,none⟩=some (.int .i64 a0_0):=(blk_cell BK115.out 0).trans rfl
         have hcz66_1:wc.cell? ⟨gb115,1,none⟩=some (.int .i64 a0_1):=(blk_cell BK115.out 1).trans rfl
         have hcz66_2:wc.cell? ⟨gb115,2,none⟩=some (.int .i64 a0_2):=(blk_cell BK115.out 2).trans rfl
         have hcz66_3:wc.cell? ⟨gb115,3,none⟩=some (.int .i64 a0_3):=(blk_cell BK115.out 3).trans rfl
         have hcz66_4:wc.cell? ⟨gb115,4,none⟩=some (.int .i64 a0_4):=(blk_cell BK115.out 4).trans rfl
         have hcz66_5:wc.cell? ⟨gb115,5,none⟩=some (.int .i64 a0_5):=(blk_cell BK115.out 5).trans rfl
         have hcz66_6:wc.cell? ⟨gb115,6,none⟩=some (.slice A0_6 l0_6.length c0_6):=(blk_cell BK115.out 6).trans rfl
         have hfz66_0:=blk_frozen BK115.out 0
         have hfz66_1:=blk_frozen BK115.out 1
         have hfz66_2:=blk_frozen BK115.out 2
         have hfz66_3:=blk_frozen BK115.out 3
         have hfz66_4:=blk_frozen BK115.out 4
         have hfz66_5:=blk_frozen BK115.out 5
         have hfz66_6:=blk_frozen BK115.out 6
         go_wp2_with (first|((with_reducible refine gate_callee (f:=40) rfl ?_);refine goesL_ (some 70) rfl rfl Try.func40 (by kernel_rfl) rfl #[.slice A0_6 l0_6.length c0_6] rfl (by (try simp only [List.map_toArray,List.map_cons,List.map_nil]);first|done|rfl|(simp only [List.length_drop,List.length_take];rfl)) ?_;(with_reducible refine (inode_entries.calls kj1 _ _ l0_6 true _ ?side1 ?side2 A62.out).mono ?_);(case side1=>repeat (first|exact (Kd.C_below HR0_6.out HB.out)|(with_reducible refine Kd.C_alloc ?_ _)|(with_reducible refine Kd.C_drewN ?_ _)|(with_reducible refine Kd.C_drew ?_)));(case side2=>exact HC0_6.out);rintro e w67 ⟨rfl,hb⟩;refine ⟨_,rfl,?_⟩;have n0_:=zm (zbB (g:=gb115) (o:=.cells #[.int .i64 a0_0,.int .i64 a0_1,.int .i64 a0_2,.int .i64 a0_3,.int .i64 a0_4,.int .i64 a0_5,.slice A0_6 l0_6.length c0_6] 24 (0,0)) (by (with_reducible repeat (first|refine zbN ?_ _|refine zbD ?_|refine zbA ?_ _));exact BK115.out) hb);have n1_:=zm (below_step (by repeat (first|(with_reducible first|exact HB.out|apply zlA|apply zlN|apply zlD|refine zlS ?_ GE115.out)|exact HB.out)) hb);clear BK115 HB;have BK115:=n0_;have HB:=n1_;clear n0_ n1_;(try clear hb);(try clear hb2);(try clear hk);(try clear hi);have hcz68_0:w67.cell? ⟨gb115,0,none⟩=some (.int .i64 a0_0):=(blk_cell BK115.out 0).trans rfl;have hcz68_1:w67.cell? ⟨gb115,1,none⟩=some (.int .i64 a0_1):=(blk_cell BK115.out 1).trans rfl;have hcz68_2:w67.cell? ⟨gb115,2,none⟩=some (.int .i64 a0_2):=(blk_cell BK115.out 2).trans rfl;have hcz68_3:w67.cell? ⟨gb115,3,none⟩=some (.int .i64 a0_3):=(blk_cell BK115.out 3).trans rfl;have hcz68_4:w67.cell? ⟨gb115,4,none⟩=some (.int .i64 a0_4):=(blk_cell BK115.out 4).trans rfl;have hcz68_5:w67.cell? ⟨gb115,5,none⟩=some (.int .i64 a0_5):=(blk_cell BK115.out 5).trans rfl;have hcz68_6:w67.cell? ⟨gb115,6,none⟩=some (.slice A0_6 l0_6.length c0_6):=(blk_cell BK115.out 6).trans rfl;have hfz68_0:=blk_frozen BK115.out 0;have hfz68_1:=blk_frozen BK115.out 1;have hfz68_2:=blk_frozen BK115.out 2;have hfz68_3:=blk_frozen BK115.out 3;have hfz68_4:=blk_frozen BK115.out 4;have hfz68_5:=blk_frozen BK115.out 5;have hfz68_6:=blk_frozen BK115.out 6))
         go_ret
         exact ⟨by first|rfl|(simp [errW_none,errW_some] <;> rfl)|(simp [*,errW_none,errW_some] <;> rfl),by repeat (first|(with_reducible first|exact HB.out|apply zlA|apply zlN|apply zlD|refine zlS ?_ GE115.out)|exact HB.out)⟩
        ·rw [if_neg c65] at H
         have c65b0:((Int.tmod a0_2 256) == 0)=false:=beq_eq_false_iff_ne.mpr c65
         have c65b1:((Int.tmod a0_2 256) != 0)=true:=bne_iff_ne.mpr c65
         obtain rfl:=Option.some.inj H
         have hcz69_0:wc.cell? ⟨gb115,0,none⟩=some (.int .i64 a0_0):=(blk_cell BK115.out 0).trans rfl
         have hcz69_1:wc.cell? ⟨gb115,1,none⟩=some (.int .i64 a0_1):=(blk_cell BK115.out 1).trans rfl
         have hcz69_2:wc.cell? ⟨gb115,2,none⟩=some (.int .i64 a0_2):=(blk_cell BK115.out 2).trans rfl
         have hcz69_3:wc.cell? ⟨gb115,3,none⟩=some (.int .i64 a0_3):=(blk_cell BK115.out 3).trans rfl
         have hcz69_4:wc.cell? ⟨gb115,4,none⟩=some (.int .i64 a0_4):=(blk_cell BK115.out 4).trans rfl
         have hcz69_5:wc.cell? ⟨gb115,5,none⟩=some (.int .i64 a0_5):=(blk_cell BK115.out 5).trans rfl
         have hcz69_6:wc.cell? ⟨gb115,6,none⟩=some (.slice A0_6 l0_6.length c0_6):=(blk_cell BK115.out 6).trans rfl
         have hfz69_0:=blk_frozen BK115.out 0
         have hfz69_1:=blk_frozen BK115.out 1
         have hfz69_2:=blk_frozen BK115.out 2
         have hfz69_3:=blk_frozen BK115.out 3
         have hfz69_4:=blk_frozen BK115.out 4
         have hfz69_5:=blk_frozen BK115.out 5
         have hfz69_6:=blk_frozen BK115.out 6
         go_wp2_with (first|((with_reducible refine gate_callee (f:=40) rfl ?_);refine goesL_ (some 70) rfl rfl Try.func40 (by kernel_rfl) rfl #[.slice A0_6 l0_6.length c0_6] rfl (by (try simp only [List.map_toArray,List.map_cons,List.map_nil]);first|done|rfl|(simp only [List.length_drop,List.length_take];rfl)) ?_;(with_reducible refine (inode_entries.calls kj1 _ _ l0_6 true _ ?side1 ?side2 A62.out).mono ?_);(case side1=>repeat (first|exact (Kd.C_below HR0_6.out HB.out)|(with_reducible refine Kd.C_alloc ?_ _)|(with_reducible refine Kd.C_drewN ?_ _)|(with_reducible refine Kd.C_drew ?_)));(case side2=>exact HC0_6.out);rintro e w70 ⟨rfl,hb⟩;refine ⟨_,rfl,?_⟩;have n0_:=zm (zbB (g:=gb115) (o:=.cells #[.int .i64 a0_0,.int .i64 a0_1,.int .i64 a0_2,.int .i64 a0_3,.int .i64 a0_4,.int .i64 a0_5,.slice A0_6 l0_6.length c0_6] 24 (0,0)) (by (with_reducible repeat (first|refine zbN ?_ _|refine zbD ?_|refine zbA ?_ _));exact BK115.out) hb);have n1_:=zm (below_step (by repeat (first|(with_reducible first|exact HB.out|apply zlA|apply zlN|apply zlD|refine zlS ?_ GE115.out)|exact HB.out)) hb);clear BK115 HB;have BK115:=n0_;have HB:=n1_;clear n0_ n1_;(try clear hb);(try clear hb2);(try clear hk);(try clear hi);have hcz71_0:w70.cell? ⟨gb115,0,none⟩=some (.int .i64 a0_0):=(blk_cell BK115.out 0).trans rfl;have hcz71_1:w70.cell? ⟨gb115,1,none⟩=some (.int .i64 a0_1):=(blk_cell BK115.out 1).trans rfl;have hcz71_2:w70.cell? ⟨gb115,2,none⟩=some (.int .i64 a0_2):=(blk_cell BK115.out 2).trans rfl;have hcz71_3:w70.cell? ⟨gb115,3,none⟩=some (.int .i64 a0_3):=(blk_cell BK115.out 3).trans rfl;have hcz71_4:w70.cell? ⟨gb115,4,none⟩=some (.int .i64 a0_4):=(blk_cell BK115.out 4).trans rfl;have hcz71_5:w70.cell? ⟨gb115,5,none⟩=some (.int .i64 a0_5):=(blk_cell BK115.out 5).trans rfl;have hcz71_6:w70.cell? ⟨gb115,6,none⟩=some (.slice A0_6 l0_6.length c0_6):=(blk_cell BK115.out 6).trans rfl;have hfz71_0:=blk_frozen BK115.out 0;have hfz71_1:=blk_frozen BK115.out 1;have hfz71_2:=blk_frozen BK115.out 2;have hfz71_3:=blk_frozen BK115.out 3;have hfz71_4:=blk_frozen BK115.out 4;have hfz71_5:=blk_frozen BK115.out 5;have hfz71_6:=blk_frozen BK115.out 6))
         go_ret
         exact ⟨by first|rfl|(simp [errW_none,errW_some] <;> rfl)|(simp [*,errW_none,errW_some] <;> rfl),by repeat (first|(with_reducible first|exact HB.out|apply zlA|apply zlN|apply zlD|refine zlS ?_ GE115.out)|exact HB.out)⟩
       ·rw [if_neg c64] at H
        have c64b0:(a0_0 == 2)=false:=beq_eq_false_iff_ne.mpr c64
        have c64b1:(a0_0 != 2)=true:=bne_iff_ne.mpr c64
        obtain rfl:=Option.some.inj H
        have hcz72_0:wc.cell? ⟨gb115,0,none⟩=some (.int .i64 a0_0):=(blk_cell BK115.out 0).trans rfl
        have hcz72_1:wc.cell? ⟨gb115,1,none⟩=some (.int .i64 a0_1):=(blk_cell BK115.out 1).trans rfl
        have hcz72_2:wc.cell? ⟨gb115,2,none⟩=some (.int .i64 a0_2):=(blk_cell BK115.out 2).trans rfl
        have hcz72_3:wc.cell? ⟨gb115,3,none⟩=some (.int .i64 a0_3):=(blk_cell BK115.out 3).trans rfl
        have hcz72_4:wc.cell? ⟨gb115,4,none⟩=some (.int .i64 a0_4):=(blk_cell BK115.out 4).trans rfl
        have hcz72_5:wc.cell? ⟨gb115,5,none⟩=some (.int .i64 a0_5):=(blk_cell BK115.out 5).trans rfl
        have hcz72_6:wc.cell? ⟨gb115,6,none⟩=some (.slice A0_6 l0_6.length c0_6):=(blk_cell BK115.out 6).trans rfl
        have hfz72_0:=blk_frozen BK115.out 0
        have hfz72_1:=blk_frozen BK115.out 1
        have hfz72_2:=blk_frozen BK115.out 2
        have hfz72_3:=blk_frozen BK115.out 3
        have hfz72_4:=blk_frozen BK115.out 4
        have hfz72_5:=blk_frozen BK115.out 5
        have hfz72_6:=blk_frozen BK115.out 6
        go_wp2_with (first|((with_reducible refine gate_callee (f:=40) rfl ?_);refine goesL_ (some 70) rfl rfl Try.func40 (by kernel_rfl) rfl #[.slice A0_6 l0_6.length c0_6] rfl (by (try simp only [List.map_toArray,List.map_cons,List.map_nil]);first|done|rfl|(simp only [List.length_drop,List.length_take];rfl)) ?_;(with_reducible refine (inode_entries.calls kj1 _ _ l0_6 true _ ?side1 ?side2 A62.out).mono ?_);(case side1=>repeat (first|exact (Kd.C_below HR0_6.out HB.out)|(with_reducible refine Kd.C_alloc ?_ _)|(with_reducible refine Kd.C_drewN ?_ _)|(with_reducible refine Kd.C_drew ?_)));(case side2=>exact HC0_6.out);rintro e w73 ⟨rfl,hb⟩;refine ⟨_,rfl,?_⟩;have n0_:=zm (zbB (g:=gb115) (o:=.cells #[.int .i64 a0_0,.int .i64 a0_1,.int .i64 a0_2,.int .i64 a0_3,.int .i64 a0_4,.int .i64 a0_5,.slice A0_6 l0_6.length c0_6] 24 (0,0)) (by (with_reducible repeat (first|refine zbN ?_ _|refine zbD ?_|refine zbA ?_ _));exact BK115.out) hb);have n1_:=zm (below_step (by repeat (first|(with_reducible first|exact HB.out|apply zlA|apply zlN|apply zlD|refine zlS ?_ GE115.out)|exact HB.out)) hb);clear BK115 HB;have BK115:=n0_;have HB:=n1_;clear n0_ n1_;(try clear hb);(try clear hb2);(try clear hk);(try clear hi);have hcz74_0:w73.cell? ⟨gb115,0,none⟩=some (.int .i64 a0_0):=(blk_cell BK115.out 0).trans rfl;have hcz74_1:w73.cell? ⟨gb115,1,none⟩=some (.int .i64 a0_1):=(blk_cell BK115.out 1).trans rfl;have hcz74_2:w73.cell? ⟨gb115,2,none⟩=some (.int .i64 a0_2):=(blk_cell BK115.out 2).trans rfl;have hcz74_3:w73.cell? ⟨gb115,3,none⟩=some (.int .i64 a0_3):=(blk_cell BK115.out 3).trans rfl;have hcz74_4:w73.cell? ⟨gb115,4,none⟩=some (.int .i64 a0_4):=(blk_cell BK115.out 4).trans rfl;have hcz74_5:w73.cell? ⟨gb115,5,none⟩=some (.int .i64 a0_5):=(blk_cell BK115.out 5).trans rfl;have hcz74_6:w73.cell? ⟨gb115,6,none⟩=some (.slice A0_6 l0_6.length c0_6):=(blk_cell BK115.out 6).trans rfl;have hfz74_0:=blk_frozen BK115.out 0;have hfz74_1:=blk_frozen BK115.out 1;have hfz74_2:=blk_frozen BK115.out 2;have hfz74_3:=blk_frozen BK115.out 3;have hfz74_4:=blk_frozen BK115.out 4;have hfz74_5:=blk_frozen BK115.out 5;have hfz74_6:=blk_frozen BK115.out 6))
        go_ret
        exact ⟨by first|rfl|(simp [errW_none,errW_some] <;> rfl)|(simp [*,errW_none,errW_some] <;> rfl),by repeat (first|(with_reducible first|exact HB.out|apply zlA|apply zlN|apply zlD|refine zlS ?_ GE115.out)|exact HB.out)⟩
      ·replace c63:=Bool.eq_false_iff.mpr c63
       subst c63
       have H1:(some 140)=some r:=by rw [if_neg (show ¬ (false=true) by decide)] at H;exact H
       clear H
       have H:=H1
       clear H1
       obtain rfl:=Option.some.inj H
       have hcz75_0:wc.cell? ⟨gb115,0,none⟩=some (.int .i64 a0_0):=(blk_cell BK115.out 0).trans rfl
       have hcz75_1:wc.cell? ⟨gb115,1,none⟩=some (.int .i64 a0_1):=(blk_cell BK115.out 1).trans rfl
       have hcz75_2:wc.cell? ⟨gb115,2,none⟩=some (.int .i64 a0_2):=(blk_cell BK115.out 2).trans rfl
       have hcz75_3:wc.cell? ⟨gb115,3,none⟩=some (.int .i64 a0_3):=(blk_cell BK115.out 3).trans rfl
       have hcz75_4:wc.cell? ⟨gb115,4,none⟩=some (.int .i64 a0_4):=(blk_cell BK115.out 4).trans rfl
       have hcz75_5:wc.cell? ⟨gb115,5,none⟩=some (.int .i64 a0_5):=(blk_cell BK115.out 5).trans rfl
       have hcz75_6:wc.cell? ⟨gb115,6,none⟩=some (.slice A0_6 l0_6.length c0_6):=(blk_cell BK115.out 6).trans rfl
       have hfz75_0:=blk_frozen BK115.out 0
       have hfz75_1:=blk_frozen BK115.out 1
       have hfz75_2:=blk_frozen BK115.out 2
       have hfz75_3:=blk_frozen BK115.out 3
       have hfz75_4:=blk_frozen BK115.out 4
       have hfz75_5:=blk_frozen BK115.out 5
       have hfz75_6:=blk_frozen BK115.out 6
       go_wp2_with (first|((with_reducible refine gate_callee (f:=40) rfl ?_);refine goesL_ (some 70) rfl rfl Try.func40 (by kernel_rfl) rfl #[.slice A0_6 l0_6.length c0_6] rfl (by (try simp only [List.map_toArray,List.map_cons,List.map_nil]);first|done|rfl|(simp only [List.length_drop,List.length_take];rfl)) ?_;(with_reducible refine (inode_entries.calls kj1 _ _ l0_6 false _ ?side1 ?side2 A62.out).mono ?_);(case side1=>repeat (first|exact (Kd.C_below HR0_6.out HB.out)|(with_reducible refine Kd.C_alloc ?_ _)|(with_reducible refine Kd.C_drewN ?_ _)|(with_reducible refine Kd.C_drew ?_)));(case side2=>exact HC0_6.out);rintro e w76 ⟨rfl,hb⟩;refine ⟨_,rfl,?_⟩;have n0_:=zm (zbB (g:=gb115) (o:=.cells #[.int .i64 a0_0,.int .i64 a0_1,.int .i64 a0_2,.int .i64 a0_3,.int .i64 a0_4,.int .i64 a0_5,.slice A0_6 l0_6.length c0_6] 24 (0,0)) (by (with_reducible repeat (first|refine zbN ?_ _|refine zbD ?_|refine zbA ?_ _));exact BK115.out) hb);have n1_:=zm (below_step (by repeat (first|(with_reducible first|exact HB.out|apply zlA|apply zlN|apply zlD|refine zlS ?_ GE115.out)|exact HB.out)) hb);clear BK115 HB;have BK115:=n0_;have HB:=n1_;clear n0_ n1_;(try clear hb);(try clear hb2);(try clear hk);(try clear hi)))
       go_ret
       exact ⟨by first|rfl|(simp [errW_none,errW_some] <;> rfl)|(simp [*,errW_none,errW_some] <;> rfl),by repeat (first|(with_reducible first|exact HB.out|apply zlA|apply zlN|apply zlD|refine zlS ?_ GE115.out)|exact HB.out)⟩
   ·replace c29:=Bool.eq_false_iff.mpr c29
    subst c29
    have H1:(some 140)=some r:=by rw [if_neg (show ¬ (false=true) by decide)] at H;exact H
    clear H
    have H:=H1
    clear H1
    obtain rfl:=Option.some.inj H
    go_wp2
    go_ret
    exact ⟨by first|rfl|(simp [errW_none,errW_some] <;> rfl)|(simp [*,errW_none,errW_some] <;> rfl),by repeat (first|(with_reducible first|exact HB.out|apply zlA|apply zlN|apply zlD|refine zlS ?_ GE115.out)|exact HB.out)⟩
end Go.Proofs.Ytjoojmodghpimaa.Print
end
section
namespace Go.Proofs.Ytjoojmodghpimaa.Print
open Go.RowKit Go.Proofs.YtjoojmodghpimaaW.PrintWords Go.Proofs.YtjoojmodghpimaaW.PrintLast Go.Proofs.YtjoojmodghpimaaW.PrintMore
attribute [local go_sem] max2_int min2_int max_two min_two max_three min_three max_four min_four   -- for this text's walks alone
attribute [local go_sem ↓] Go.Proofs.Ytjoojmodghpimaa.Sem.isSome_setCell
attribute [local go_sem] Go.Instr.field Go.asAgg
set_option linter.unusedVariables false
set_option linter.unusedSimpArgs false
-- NOT PRINTED: function 28 (inode_headWidths)
-- NOT PRINTED: function 29 (inode_rootWidths)
def seal_total.l0:Nat → Int → List Int → Int → Int → Option (Int × Int)
 | 0,_,_,_,_=>none
 | k + 1,x4,x10,x11,x12=>if x12 < x11 then (if 0≤x12 then (if x12 < (x10.length:Int) then (if (rd x10 x12) < 1 then (some (0,1)) else (if (rd x10 x12) > 64 then (some (0,1)) else (seal_total.l0 k (wrap64 (x4 + (rd x10 x12))) x10 x11 (wrap64 (x12 + 1))))) else (none)) else (none)) else (some (x4,0))
def seal_total.f (k:Nat) (l0:List Int):Option (Int × Int):=if (l0.length:Int) > 64 then (some (0,1)) else (seal_total.l0 k 0 l0 (l0.length:Int) 0)
theorem seal_total.mono_l:∀ k,(∀ y0 y1 y2 y3,LeO (seal_total.l0 k y0 y1 y2 y3) (seal_total.l0 (k + 1) y0 y1 y2 y3))
 | 0=>fun _ _ _ _ r h=>by simp [seal_total.l0] at h
 | k + 1=>by
  have ih0:=seal_total.mono_l k
  ·intro y0 y1 y2 y3
   unfold seal_total.l0
   repeat' first
   | (with_reducible exact ih0 _ _ _ _)
   | (with_reducible exact LeO.refl _)
   | (with_reducible exact LeO.none _)
   | (with_reducible refine LeO.ite ?_ ?_)
   | (with_reducible refine LeO.bind ?_ (fun _=>?_))
   | exact ih0 _ _ _ _
   | exact LeO.none _
   | refine LeO.ite ?_ ?_
   | refine LeO.bind ?_ (fun _=>?_)
theorem seal_total.mono:∀ a0 k,LeO (seal_total.f k a0) (seal_total.f (k + 1) a0):=by
 intro a0 k
 have ih0:=seal_total.mono_l k
 unfold seal_total.f
 repeat' first
   | (with_reducible exact ih0 _ _ _ _)
   | (with_reducible exact LeO.refl _)
   | (with_reducible exact LeO.none _)
   | (with_reducible refine LeO.ite ?_ ?_)
   | (with_reducible refine LeO.bind ?_ (fun _=>?_))
   | exact ih0 _ _ _ _
   | exact LeO.none _
   | refine LeO.ite ?_ ?_
   | refine LeO.bind ?_ (fun _=>?_)
set_option maxHeartbeats 8000000 in
set_option maxRecDepth 100000 in
theorem seal_total.calls (k:Nat) (A0:Option Addr) (c0:Nat) (l0:List Int) (r1:Int) (r2:Int) (w:World) (hr0:Kd.C (Kd.int .i64) w A0 l0.length l0) (hc0:l0.length≤c0) (h:seal_total.f k l0=some (r1,r2)) :
  Calls Try.prog 49 #[.slice A0 l0.length c0] w fun e w'=>e=.returned (.tuple #[.int .i64 r1,.int .i64 r2])∧Drawn0 w w':=by
 have HR0:=zm hr0
 have HC0:=zm hc0
 clear hr0 hc0
 have H:(if (l0.length:Int) > 64 then (some (0,1)) else (seal_total.l0 k 0 l0 (l0.length:Int) 0))=some (r1,r2):=h
 clear h
 by_cases c2:(l0.length:Int) > 64
 ·rw [if_pos c2] at H
  have c2b0:decide (64 < (l0.length:Int))=true:=decide_eq_true c2
  have c2b1:decide (64 < l0.length)=true:=decide_eq_true (by omega)
  clear c2
  simp only [Option.some.injEq,Prod.mk.injEq] at H
  obtain ⟨rfl,rfl⟩:=H
  go_enter Try.func49,Try.ntmps49
  go_wp2
  go_ret2
  exact ⟨by first|rfl|(simp;done)|(simp [*];done),by repeat (first|exact Drawn0.refl _|apply Drawn0.step)⟩
 ·rw [if_neg c2] at H
  have c2b0:decide (64 < (l0.length:Int))=false:=decide_eq_false c2
  have c2b1:decide (64 < l0.length)=false:=decide_eq_false (by omega)
  clear c2
  have H':=zm H
  clear H
  go_enter Try.func49,Try.ntmps49
  go_wp2
  go_loopg [4,12] k (fun kq v4 v12 w'=>∃ (x4_1:Int) (x12_1:Int),v4=.int .i64 x4_1∧v12=.int .i64 x12_1∧Aside0 (seal_total.l0 kq x4_1 l0 (l0.length:Int) x12_1=some (r1,r2))∧Aside0 (kq≤k)∧Drawn0 w w')
  case atStart=>exact ⟨(0),(0),(by first|rfl|(simp;done)|(simp [*];done)),(by first|rfl|(simp;done)|(simp [*];done)),H',⟨Nat.le_refl _⟩,by repeat (first|exact Drawn0.refl _|apply Drawn0.step)⟩
  case round =>
   clear H'
   try clear c2
   try clear c2b0
   try clear c2b1
   try clear p2
   obtain ⟨x4_1,x12_1,rfl,rfl,HA,HK1,⟨m1,rfl⟩⟩:=hrel
   cases gk with
   | zero=>exact absurd HA.out (by simp [seal_total.l0])
   | succ k1 =>
    have H:=HA.out
    clear HA
    simp only [seal_total.l0] at H
    by_cases c3:x12_1 < (l0.length:Int)
    ·rw [if_pos c3] at H
     have c3b0:decide (x12_1 < (l0.length:Int))=true:=decide_eq_true c3
     clear c3
     by_cases c4:0≤x12_1
     ·rw [if_pos c4] at H
      have c4b0:decide (0≤x12_1)=true:=decide_eq_true c4
      clear c4
      by_cases c5:x12_1 < (l0.length:Int)
      ·rw [if_pos c5] at H
       have c5b0:decide (x12_1 < (l0.length:Int))=true:=decide_eq_true c5
       clear c5
       by_cases c6:(rd l0 x12_1) < 1
       ·rw [if_pos c6] at H
        have c6b0:decide ((rd l0 x12_1) < 1)=true:=decide_eq_true c6
        clear c6
        simp only [Option.some.injEq,Prod.mk.injEq] at H
        obtain ⟨rfl,rfl⟩:=H
        have p118:0≤(x12_1:Int):=of_decide_eq_true (by first|(with_reducible assumption)|assumption)
        have q118:x12_1 < (l0.length:Int):=of_decide_eq_true (by first|(with_reducible assumption)|assumption)
        obtain ⟨ad118,e118,hx118_0⟩:=Kd.at_int HR0.out x12_1 p118 q118
        cases e118
        replace p118:=eq_true p118
        replace q118:=eq_true q118
        go_wp2
        go_ret2
        exact ⟨by first|rfl|(simp;done)|(simp [*];done),by repeat (first|exact Drawn0.refl _|apply Drawn0.step)⟩
       ·rw [if_neg c6] at H
        have c6b0:decide ((rd l0 x12_1) < 1)=false:=decide_eq_false c6
        clear c6
        by_cases c7:(rd l0 x12_1) > 64
        ·rw [if_pos c7] at H
         have c7b0:decide (64 < (rd l0 x12_1))=true:=decide_eq_true c7
         clear c7
         simp only [Option.some.injEq,Prod.mk.injEq] at H
         obtain ⟨rfl,rfl⟩:=H
         have p118:0≤(x12_1:Int):=of_decide_eq_true (by first|(with_reducible assumption)|assumption)
         have q118:x12_1 < (l0.length:Int):=of_decide_eq_true (by first|(with_reducible assumption)|assumption)
         obtain ⟨ad118,e118,hx118_0⟩:=Kd.at_int HR0.out x12_1 p118 q118
         cases e118
         replace p118:=eq_true p118
         replace q118:=eq_true q118
         go_wp2
         go_ret2
         exact ⟨by first|rfl|(simp;done)|(simp [*];done),by repeat (first|exact Drawn0.refl _|apply Drawn0.step)⟩
        ·rw [if_neg c7] at H
         have c7b0:decide (64 < (rd l0 x12_1))=false:=decide_eq_false c7
         clear c7
         have H':=zm H
         clear H
         have p118:0≤(x12_1:Int):=of_decide_eq_true (by first|(with_reducible assumption)|assumption)
         have q118:x12_1 < (l0.length:Int):=of_decide_eq_true (by first|(with_reducible assumption)|assumption)
         obtain ⟨ad118,e118,hx118_0⟩:=Kd.at_int HR0.out x12_1 p118 q118
         cases e118
         replace p118:=eq_true p118
         replace q118:=eq_true q118
         go_wp2
         go_roundg k1
         case measure=>have:=HK1.out;omega
         case rel=>exact ⟨(wrap64 (x4_1 + (rd l0 x12_1))),(wrap64 (x12_1 + 1)),(by first|rfl|(simp;done)|(simp [*];done)),(by first|rfl|(simp;done)|(simp [*];done)),H',⟨by have:=HK1.out;omega⟩,by repeat (first|exact Drawn0.refl _|apply Drawn0.step)⟩
      ·rw [if_neg c5] at H
       exact absurd H (by simp)
     ·rw [if_neg c4] at H
      exact absurd H (by simp)
    ·rw [if_neg c3] at H
     have c3b0:decide (x12_1 < (l0.length:Int))=false:=decide_eq_false c3
     clear c3
     simp only [Option.some.injEq,Prod.mk.injEq] at H
     obtain ⟨rfl,rfl⟩:=H
     go_wp2
     go_ret2
     exact ⟨by first|rfl|(simp;done)|(simp [*];done),by repeat (first|exact Drawn0.refl _|apply Drawn0.step)⟩
def seal_Width.f (k:Nat) (l0:List Int):Option (Int × Int):=(seal_total.f k l0).bind fun bt119=>(some (wrap64 (Int.tdiv (wrap64 (bt119.1 + 7)) 8),bt119.2))
theorem seal_Width.mono:∀ a0 k,LeO (seal_Width.f k a0) (seal_Width.f (k + 1) a0):=by
 intro a0 k
 unfold seal_Width.f
 repeat' first
   | (with_reducible exact seal_total.mono _ _)
   | (with_reducible exact LeO.refl _)
   | (with_reducible exact LeO.none _)
   | (with_reducible refine LeO.ite ?_ ?_)
   | (with_reducible refine LeO.bind ?_ (fun _=>?_))
   | exact seal_total.mono _ _
   | exact LeO.none _
   | refine LeO.ite ?_ ?_
   | refine LeO.bind ?_ (fun _=>?_)
set_option maxHeartbeats 8000000 in
set_option maxRecDepth 100000 in
theorem seal_Width.calls (k:Nat) (A0:Option Addr) (c0:Nat) (l0:List Int) (r1:Int) (r2:Int) (w:World) (hr0:Kd.C (Kd.int .i64) w A0 l0.length l0) (hc0:l0.length≤c0) (h:seal_Width.f k l0=some (r1,r2)) :
  Calls Try.prog 31 #[.slice A0 l0.length c0] w fun e w'=>e=.returned (.tuple #[.int .i64 r1,.int .i64 r2])∧Drawn0 w w':=by
 have HR0:=zm hr0
 have HC0:=zm hc0
 clear hr0 hc0
 have H:((seal_total.f k l0).bind fun bt119=>(some (wrap64 (Int.tdiv (wrap64 (bt119.1 + 7)) 8),bt119.2)))=some (r1,r2):=h
 clear h
 replace H:=Option.bind_eq_some_iff.mp H
 obtain ⟨⟨t119,t120⟩,A20,H⟩:=H
 replace H:(some (wrap64 (Int.tdiv (wrap64 (t119 + 7)) 8),t120))=some (r1,r2):=H
 have A2:=zm A20
 clear A20
 simp only [Option.some.injEq,Prod.mk.injEq] at H
 obtain ⟨rfl,rfl⟩:=H
 go_enter Try.func31,Try.ntmps31
 go_wp2_with (first|((with_reducible refine gate_callee (f:=49) rfl ?_);refine goesL_ (some 8) rfl rfl Try.func49 (by kernel_rfl) rfl #[.slice A0 l0.length c0] rfl (by (try simp only [List.map_toArray,List.map_cons,List.map_nil]);first|done|rfl|(simp only [List.length_drop,List.length_take];rfl)) ?_;(with_reducible refine (seal_total.calls k _ _ l0 t119 t120 _ ?side1 ?side2 A2.out).mono ?_);(case side1=>repeat (first|exact HR0.out|(with_reducible refine Kd.C_alloc ?_ _)|(with_reducible refine Kd.C_drewN ?_ _)|(with_reducible refine Kd.C_drew ?_)));(case side2=>exact HC0.out);rintro e w' ⟨rfl,⟨nd,rfl⟩⟩;refine ⟨_,rfl,?_⟩))
 go_ret2
 exact ⟨by first|rfl|(simp;done)|(simp [*];done),by repeat (first|exact Drawn0.refl _|apply Drawn0.step)⟩
def bits_Len64.j0:Nat → Int → Int → Option (Int)
 | 0,_,_=>none
 | k + 1,x0,x2=>if x0 ≥ 65536 then (if (x0 / 65536) ≥ 256 then (if 0≤(((x0 / 65536) / 256) % 256) then (if (((x0 / 65536) / 256) % 256) < 256 then (some (wrap64 ((wrap64 ((wrap64 (x2 + 16)) + 8)) + (wrap64 (bt (⟨#[0,1,2,2,3,3,3,3,4,4,4,4,4,4,4,4,5,5,5,5,5,5,5,5,5,5,5,5,5,5,5,5,6,6,6,6,6,6,6,6,6,6,6,6,6,6,6,6,6,6,6,6,6,6,6,6,6,6,6,6,6,6,6,6,7,7,7,7,7,7,7,7,7,7,7,7,7,7,7,7,7,7,7,7,7,7,7,7,7,7,7,7,7,7,7,7,7,7,7,7,7,7,7,7,7,7,7,7,7,7,7,7,7,7,7,7,7,7,7,7,7,7,7,7,7,7,7,7,8,8,8,8,8,8,8,8,8,8,8,8,8,8,8,8,8,8,8,8,8,8,8,8,8,8,8,8,8,8,8,8,8,8,8,8,8,8,8,8,8,8,8,8,8,8,8,8,8,8,8,8,8,8,8,8,8,8,8,8,8,8,8,8,8,8,8,8,8,8,8,8,8,8,8,8,8,8,8,8,8,8,8,8,8,8,8,8,8,8,8,8,8,8,8,8,8,8,8,8,8,8,8,8,8,8,8,8,8,8,8,8,8,8,8,8,8,8,8,8,8,8,8,8,8,8,8,8]⟩:ByteArray) (((x0 / 65536) / 256) % 256)))))) else (none)) else (none)) else (if 0≤((x0 / 65536) % 256) then (if ((x0 / 65536) % 256) < 256 then (some (wrap64 ((wrap64 (x2 + 16)) + (wrap64 (bt (⟨#[0,1,2,2,3,3,3,3,4,4,4,4,4,4,4,4,5,5,5,5,5,5,5,5,5,5,5,5,5,5,5,5,6,6,6,6,6,6,6,6,6,6,6,6,6,6,6,6,6,6,6,6,6,6,6,6,6,6,6,6,6,6,6,6,7,7,7,7,7,7,7,7,7,7,7,7,7,7,7,7,7,7,7,7,7,7,7,7,7,7,7,7,7,7,7,7,7,7,7,7,7,7,7,7,7,7,7,7,7,7,7,7,7,7,7,7,7,7,7,7,7,7,7,7,7,7,7,7,8,8,8,8,8,8,8,8,8,8,8,8,8,8,8,8,8,8,8,8,8,8,8,8,8,8,8,8,8,8,8,8,8,8,8,8,8,8,8,8,8,8,8,8,8,8,8,8,8,8,8,8,8,8,8,8,8,8,8,8,8,8,8,8,8,8,8,8,8,8,8,8,8,8,8,8,8,8,8,8,8,8,8,8,8,8,8,8,8,8,8,8,8,8,8,8,8,8,8,8,8,8,8,8,8,8,8,8,8,8,8,8,8,8,8,8,8,8,8,8,8,8,8,8,8,8,8,8]⟩:ByteArray) ((x0 / 65536) % 256)))))) else (none)) else (none))) else (if x0 ≥ 256 then (if 0≤((x0 / 256) % 256) then (if ((x0 / 256) % 256) < 256 then (some (wrap64 ((wrap64 (x2 + 8)) + (wrap64 (bt (⟨#[0,1,2,2,3,3,3,3,4,4,4,4,4,4,4,4,5,5,5,5,5,5,5,5,5,5,5,5,5,5,5,5,6,6,6,6,6,6,6,6,6,6,6,6,6,6,6,6,6,6,6,6,6,6,6,6,6,6,6,6,6,6,6,6,7,7,7,7,7,7,7,7,7,7,7,7,7,7,7,7,7,7,7,7,7,7,7,7,7,7,7,7,7,7,7,7,7,7,7,7,7,7,7,7,7,7,7,7,7,7,7,7,7,7,7,7,7,7,7,7,7,7,7,7,7,7,7,7,8,8,8,8,8,8,8,8,8,8,8,8,8,8,8,8,8,8,8,8,8,8,8,8,8,8,8,8,8,8,8,8,8,8,8,8,8,8,8,8,8,8,8,8,8,8,8,8,8,8,8,8,8,8,8,8,8,8,8,8,8,8,8,8,8,8,8,8,8,8,8,8,8,8,8,8,8,8,8,8,8,8,8,8,8,8,8,8,8,8,8,8,8,8,8,8,8,8,8,8,8,8,8,8,8,8,8,8,8,8,8,8,8,8,8,8,8,8,8,8,8,8,8,8,8,8,8,8]⟩:ByteArray) ((x0 / 256) % 256)))))) else (none)) else (none)) else (if 0≤((x0) % 256) then (if ((x0) % 256) < 256 then (some (wrap64 (x2 + (wrap64 (bt (⟨#[0,1,2,2,3,3,3,3,4,4,4,4,4,4,4,4,5,5,5,5,5,5,5,5,5,5,5,5,5,5,5,5,6,6,6,6,6,6,6,6,6,6,6,6,6,6,6,6,6,6,6,6,6,6,6,6,6,6,6,6,6,6,6,6,7,7,7,7,7,7,7,7,7,7,7,7,7,7,7,7,7,7,7,7,7,7,7,7,7,7,7,7,7,7,7,7,7,7,7,7,7,7,7,7,7,7,7,7,7,7,7,7,7,7,7,7,7,7,7,7,7,7,7,7,7,7,7,7,8,8,8,8,8,8,8,8,8,8,8,8,8,8,8,8,8,8,8,8,8,8,8,8,8,8,8,8,8,8,8,8,8,8,8,8,8,8,8,8,8,8,8,8,8,8,8,8,8,8,8,8,8,8,8,8,8,8,8,8,8,8,8,8,8,8,8,8,8,8,8,8,8,8,8,8,8,8,8,8,8,8,8,8,8,8,8,8,8,8,8,8,8,8,8,8,8,8,8,8,8,8,8,8,8,8,8,8,8,8,8,8,8,8,8,8,8,8,8,8,8,8,8,8,8,8,8,8]⟩:ByteArray) ((x0) % 256)))))) else (none)) else (none)))
def bits_Len64.f (k:Nat) (a0:Int):Option (Int):=if a0 ≥ 4294967296 then (bits_Len64.j0 k (a0 / 4294967296) 32) else (bits_Len64.j0 k a0 0)
theorem bits_Len64.mono_l:∀ k,(∀ y0 y1,LeO (bits_Len64.j0 k y0 y1) (bits_Len64.j0 (k + 1) y0 y1))
 | 0=>fun _ _ r h=>by simp [bits_Len64.j0] at h
 | k + 1=>by
  have ih0:=bits_Len64.mono_l k
  ·intro y0 y1
   unfold bits_Len64.j0
   repeat' first
   | (with_reducible exact ih0 _ _)
   | (with_reducible exact LeO.refl _)
   | (with_reducible exact LeO.none _)
   | (with_reducible refine LeO.ite ?_ ?_)
   | (with_reducible refine LeO.bind ?_ (fun _=>?_))
   | exact ih0 _ _
   | exact LeO.none _
   | refine LeO.ite ?_ ?_
   | refine LeO.bind ?_ (fun _=>?_)
theorem bits_Len64.mono:∀ a0 k,LeO (bits_Len64.f k a0) (bits_Len64.f (k + 1) a0):=by
 intro a0 k
 have ih0:=bits_Len64.mono_l k
 unfold bits_Len64.f
 repeat' first
   | (with_reducible exact ih0 _ _)
   | (with_reducible exact LeO.refl _)
   | (with_reducible exact LeO.none _)
   | (with_reducible refine LeO.ite ?_ ?_)
   | (with_reducible refine LeO.bind ?_ (fun _=>?_))
   | exact ih0 _ _
   | exact LeO.none _
   | refine LeO.ite ?_ ?_
   | refine LeO.bind ?_ (fun _=>?_)
set_option maxHeartbeats 8000000 in
set_option maxRecDepth 100000 in
theorem bits_Len64.calls (k:Nat) (a0:Int) (r:Int) (w:World) (h:bits_Len64.f k a0=some r) :
  Calls Try.prog 48 #[.int .u64 a0] w fun e w'=>e=.returned (.int .i64 r)∧Drawn0 w w':=by
 have H:(if a0 ≥ 4294967296 then (bits_Len64.j0 k (a0 / 4294967296) 32) else (bits_Len64.j0 k a0 0))=some r:=h
 clear h
 have HC2:=zm H
 clear H
 go_enter Try.func48,Try.ntmps48
 go_upto_if 4 with (fail)
 go_cut [0,2] (fun v0 v2 wc=>∃ (kq:Nat) (x0_1:Int) (x2_1:Int),v0=.int .u64 x0_1∧v2=.int .i64 x2_1∧Aside0 (bits_Len64.j0 kq x0_1 x2_1=some r)∧Aside0 (kq≤k)∧Drawn0 w wc)
 case first =>
  have H:=HC2.out
  clear HC2
  by_cases c3:a0 ≥ 4294967296
  ·rw [if_pos c3] at H
   have c3b0:decide (4294967296≤a0)=true:=decide_eq_true c3
   clear c3
   (first|rw [c3b0]|(simp only [i64_w,i32_w];rw [c3b0])|skip)
   have H':=zm H
   clear H
   go_wp2
   go_meet
   case rel=>exact ⟨_,(a0 / 4294967296),(32),(by first|rfl|(simp;done)|(simp [*];done)),(by first|rfl|(simp;done)|(simp [*];done)),H',⟨by first|omega|exact Nat.le_refl _⟩,by repeat (first|exact Drawn0.refl _|apply Drawn0.step)⟩
  ·rw [if_neg c3] at H
   have c3b0:decide (4294967296≤a0)=false:=decide_eq_false c3
   clear c3
   (first|rw [c3b0]|(simp only [i64_w,i32_w];rw [c3b0])|skip)
   have H':=zm H
   clear H
   go_wp2
   go_meet
   case rel=>exact ⟨_,(a0),(0),(by first|rfl|(simp;done)|(simp [*];done)),(by first|rfl|(simp;done)|(simp [*];done)),H',⟨by first|omega|exact Nat.le_refl _⟩,by repeat (first|exact Drawn0.refl _|apply Drawn0.step)⟩
 case rest =>
  clear HC2
  try clear p2
  try clear c3
  try clear c3b0
  obtain ⟨kq,x0_1,x2_1,rfl,rfl,HA,HJ1,⟨mc1,rfl⟩⟩:=hcut
  cases kq with
  | zero=>exact absurd HA.out (by simp [bits_Len64.j0])
  | succ kj1 =>
   have H:=HA.out
   clear HA
   simp only [bits_Len64.j0] at H
   by_cases c4:x0_1 ≥ 65536
   ·rw [if_pos c4] at H
    have c4b0:decide (65536≤x0_1)=true:=decide_eq_true c4
    clear c4
    by_cases c5:(x0_1 / 65536) ≥ 256
    ·rw [if_pos c5] at H
     have c5b0:decide (256≤(x0_1 / 65536))=true:=decide_eq_true c5
     clear c5
     obtain ⟨ji6,hji6⟩:∃ j_:Int,(((x0_1 / 65536) / 256) % 256)=j_:=⟨_,rfl⟩
     replace H:(if 0≤(ji6) then (if (ji6) < 256 then (some (wrap64 ((wrap64 ((wrap64 (x2_1 + 16)) + 8)) + (wrap64 (bt (⟨#[0,1,2,2,3,3,3,3,4,4,4,4,4,4,4,4,5,5,5,5,5,5,5,5,5,5,5,5,5,5,5,5,6,6,6,6,6,6,6,6,6,6,6,6,6,6,6,6,6,6,6,6,6,6,6,6,6,6,6,6,6,6,6,6,7,7,7,7,7,7,7,7,7,7,7,7,7,7,7,7,7,7,7,7,7,7,7,7,7,7,7,7,7,7,7,7,7,7,7,7,7,7,7,7,7,7,7,7,7,7,7,7,7,7,7,7,7,7,7,7,7,7,7,7,7,7,7,7,8,8,8,8,8,8,8,8,8,8,8,8,8,8,8,8,8,8,8,8,8,8,8,8,8,8,8,8,8,8,8,8,8,8,8,8,8,8,8,8,8,8,8,8,8,8,8,8,8,8,8,8,8,8,8,8,8,8,8,8,8,8,8,8,8,8,8,8,8,8,8,8,8,8,8,8,8,8,8,8,8,8,8,8,8,8,8,8,8,8,8,8,8,8,8,8,8,8,8,8,8,8,8,8,8,8,8,8,8,8,8,8,8,8,8,8,8,8,8,8,8,8,8,8,8,8,8,8]⟩:ByteArray) (ji6)))))) else (none)) else (none))=some r:=by first|(rw [hji6] at H;exact H)|(simp only [hji6] at H ⊢;exact H)
     by_cases c7:0≤(ji6)
     ·rw [if_pos c7] at H
      have c7b0:decide (0≤(ji6))=true:=decide_eq_true c7
      clear c7
      by_cases c8:(ji6) < 256
      ·rw [if_pos c8] at H
       have c8b0:decide ((ji6) < 256)=true:=decide_eq_true c8
       clear c8
       obtain rfl:=Option.some.inj H
       have p9:0≤((ji6):Int):=of_decide_eq_true (by first|(with_reducible assumption)|assumption)
       have q9:(ji6) < (256:Int):=of_decide_eq_true (by first|(with_reducible assumption)|assumption)
       have hx9:=bt_at (⟨#[0,1,2,2,3,3,3,3,4,4,4,4,4,4,4,4,5,5,5,5,5,5,5,5,5,5,5,5,5,5,5,5,6,6,6,6,6,6,6,6,6,6,6,6,6,6,6,6,6,6,6,6,6,6,6,6,6,6,6,6,6,6,6,6,7,7,7,7,7,7,7,7,7,7,7,7,7,7,7,7,7,7,7,7,7,7,7,7,7,7,7,7,7,7,7,7,7,7,7,7,7,7,7,7,7,7,7,7,7,7,7,7,7,7,7,7,7,7,7,7,7,7,7,7,7,7,7,7,8,8,8,8,8,8,8,8,8,8,8,8,8,8,8,8,8,8,8,8,8,8,8,8,8,8,8,8,8,8,8,8,8,8,8,8,8,8,8,8,8,8,8,8,8,8,8,8,8,8,8,8,8,8,8,8,8,8,8,8,8,8,8,8,8,8,8,8,8,8,8,8,8,8,8,8,8,8,8,8,8,8,8,8,8,8,8,8,8,8,8,8,8,8,8,8,8,8,8,8,8,8,8,8,8,8,8,8,8,8,8,8,8,8,8,8,8,8,8,8,8,8,8,8,8,8,8,8]⟩:ByteArray) (ji6)
       replace p9:=eq_true p9
       replace q9:=eq_true q9
       go_wp2
       go_ret
       exact ⟨by first|rfl|(simp;done)|(simp only [← hji6] <;> (first|rfl|simp))|(simp [*];done),by repeat (first|exact Drawn0.refl _|apply Drawn0.step)⟩
      ·rw [if_neg c8] at H
       exact absurd H (by simp)
     ·rw [if_neg c7] at H
      exact absurd H (by simp)
    ·rw [if_neg c5] at H
     have c5b0:decide (256≤(x0_1 / 65536))=false:=decide_eq_false c5
     clear c5
     obtain ⟨ji10,hji10⟩:∃ j_:Int,((x0_1 / 65536) % 256)=j_:=⟨_,rfl⟩
     replace H:(if 0≤(ji10) then (if (ji10) < 256 then (some (wrap64 ((wrap64 (x2_1 + 16)) + (wrap64 (bt (⟨#[0,1,2,2,3,3,3,3,4,4,4,4,4,4,4,4,5,5,5,5,5,5,5,5,5,5,5,5,5,5,5,5,6,6,6,6,6,6,6,6,6,6,6,6,6,6,6,6,6,6,6,6,6,6,6,6,6,6,6,6,6,6,6,6,7,7,7,7,7,7,7,7,7,7,7,7,7,7,7,7,7,7,7,7,7,7,7,7,7,7,7,7,7,7,7,7,7,7,7,7,7,7,7,7,7,7,7,7,7,7,7,7,7,7,7,7,7,7,7,7,7,7,7,7,7,7,7,7,8,8,8,8,8,8,8,8,8,8,8,8,8,8,8,8,8,8,8,8,8,8,8,8,8,8,8,8,8,8,8,8,8,8,8,8,8,8,8,8,8,8,8,8,8,8,8,8,8,8,8,8,8,8,8,8,8,8,8,8,8,8,8,8,8,8,8,8,8,8,8,8,8,8,8,8,8,8,8,8,8,8,8,8,8,8,8,8,8,8,8,8,8,8,8,8,8,8,8,8,8,8,8,8,8,8,8,8,8,8,8,8,8,8,8,8,8,8,8,8,8,8,8,8,8,8,8,8]⟩:ByteArray) (ji10)))))) else (none)) else (none))=some r:=by first|(rw [hji10] at H;exact H)|(simp only [hji10] at H ⊢;exact H)
     by_cases c11:0≤(ji10)
     ·rw [if_pos c11] at H
      have c11b0:decide (0≤(ji10))=true:=decide_eq_true c11
      clear c11
      by_cases c12:(ji10) < 256
      ·rw [if_pos c12] at H
       have c12b0:decide ((ji10) < 256)=true:=decide_eq_true c12
       clear c12
       obtain rfl:=Option.some.inj H
       have p13:0≤((ji10):Int):=of_decide_eq_true (by first|(with_reducible assumption)|assumption)
       have q13:(ji10) < (256:Int):=of_decide_eq_true (by first|(with_reducible assumption)|assumption)
       have hx13:=bt_at (⟨#[0,1,2,2,3,3,3,3,4,4,4,4,4,4,4,4,5,5,5,5,5,5,5,5,5,5,5,5,5,5,5,5,6,6,6,6,6,6,6,6,6,6,6,6,6,6,6,6,6,6,6,6,6,6,6,6,6,6,6,6,6,6,6,6,7,7,7,7,7,7,7,7,7,7,7,7,7,7,7,7,7,7,7,7,7,7,7,7,7,7,7,7,7,7,7,7,7,7,7,7,7,7,7,7,7,7,7,7,7,7,7,7,7,7,7,7,7,7,7,7,7,7,7,7,7,7,7,7,8,8,8,8,8,8,8,8,8,8,8,8,8,8,8,8,8,8,8,8,8,8,8,8,8,8,8,8,8,8,8,8,8,8,8,8,8,8,8,8,8,8,8,8,8,8,8,8,8,8,8,8,8,8,8,8,8,8,8,8,8,8,8,8,8,8,8,8,8,8,8,8,8,8,8,8,8,8,8,8,8,8,8,8,8,8,8,8,8,8,8,8,8,8,8,8,8,8,8,8,8,8,8,8,8,8,8,8,8,8,8,8,8,8,8,8,8,8,8,8,8,8,8,8,8,8,8,8]⟩:ByteArray) (ji10)
       replace p13:=eq_true p13
       replace q13:=eq_true q13
       go_wp2
       go_ret
       exact ⟨by first|rfl|(simp;done)|(simp only [← hji10] <;> (first|rfl|simp))|(simp [*];done),by repeat (first|exact Drawn0.refl _|apply Drawn0.step)⟩
      ·rw [if_neg c12] at H
       exact absurd H (by simp)
     ·rw [if_neg c11] at H
      exact absurd H (by simp)
   ·rw [if_neg c4] at H
    have c4b0:decide (65536≤x0_1)=false:=decide_eq_false c4
    clear c4
    by_cases c14:x0_1 ≥ 256
    ·rw [if_pos c14] at H
     have c14b0:decide (256≤x0_1)=true:=decide_eq_true c14
     clear c14
     obtain ⟨ji15,hji15⟩:∃ j_:Int,((x0_1 / 256) % 256)=j_:=⟨_,rfl⟩
     replace H:(if 0≤(ji15) then (if (ji15) < 256 then (some (wrap64 ((wrap64 (x2_1 + 8)) + (wrap64 (bt (⟨#[0,1,2,2,3,3,3,3,4,4,4,4,4,4,4,4,5,5,5,5,5,5,5,5,5,5,5,5,5,5,5,5,6,6,6,6,6,6,6,6,6,6,6,6,6,6,6,6,6,6,6,6,6,6,6,6,6,6,6,6,6,6,6,6,7,7,7,7,7,7,7,7,7,7,7,7,7,7,7,7,7,7,7,7,7,7,7,7,7,7,7,7,7,7,7,7,7,7,7,7,7,7,7,7,7,7,7,7,7,7,7,7,7,7,7,7,7,7,7,7,7,7,7,7,7,7,7,7,8,8,8,8,8,8,8,8,8,8,8,8,8,8,8,8,8,8,8,8,8,8,8,8,8,8,8,8,8,8,8,8,8,8,8,8,8,8,8,8,8,8,8,8,8,8,8,8,8,8,8,8,8,8,8,8,8,8,8,8,8,8,8,8,8,8,8,8,8,8,8,8,8,8,8,8,8,8,8,8,8,8,8,8,8,8,8,8,8,8,8,8,8,8,8,8,8,8,8,8,8,8,8,8,8,8,8,8,8,8,8,8,8,8,8,8,8,8,8,8,8,8,8,8,8,8,8,8]⟩:ByteArray) (ji15)))))) else (none)) else (none))=some r:=by first|(rw [hji15] at H;exact H)|(simp only [hji15] at H ⊢;exact H)
     by_cases c16:0≤(ji15)
     ·rw [if_pos c16] at H
      have c16b0:decide (0≤(ji15))=true:=decide_eq_true c16
      clear c16
      by_cases c17:(ji15) < 256
      ·rw [if_pos c17] at H
       have c17b0:decide ((ji15) < 256)=true:=decide_eq_true c17
       clear c17
       obtain rfl:=Option.some.inj H
       have p18:0≤((ji15):Int):=of_decide_eq_true (by first|(with_reducible assumption)|assumption)
       have q18:(ji15) < (256:Int):=of_decide_eq_true (by first|(with_reducible assumption)|assumption)
       have hx18:=bt_at (⟨#[0,1,2,2,3,3,3,3,4,4,4,4,4,4,4,4,5,5,5,5,5,5,5,5,5,5,5,5,5,5,5,5,6,6,6,6,6,6,6,6,6,6,6,6,6,6,6,6,6,6,6,6,6,6,6,6,6,6,6,6,6,6,6,6,7,7,7,7,7,7,7,7,7,7,7,7,7,7,7,7,7,7,7,7,7,7,7,7,7,7,7,7,7,7,7,7,7,7,7,7,7,7,7,7,7,7,7,7,7,7,7,7,7,7,7,7,7,7,7,7,7,7,7,7,7,7,7,7,8,8,8,8,8,8,8,8,8,8,8,8,8,8,8,8,8,8,8,8,8,8,8,8,8,8,8,8,8,8,8,8,8,8,8,8,8,8,8,8,8,8,8,8,8,8,8,8,8,8,8,8,8,8,8,8,8,8,8,8,8,8,8,8,8,8,8,8,8,8,8,8,8,8,8,8,8,8,8,8,8,8,8,8,8,8,8,8,8,8,8,8,8,8,8,8,8,8,8,8,8,8,8,8,8,8,8,8,8,8,8,8,8,8,8,8,8,8,8,8,8,8,8,8,8,8,8,8]⟩:ByteArray) (ji15)
       replace p18:=eq_true p18
       replace q18:=eq_true q18
       go_wp2
       go_ret
       exact ⟨by first|rfl|(simp;done)|(simp only [← hji15] <;> (first|rfl|simp))|(simp [*];done),by repeat (first|exact Drawn0.refl _|apply Drawn0.step)⟩
      ·rw [if_neg c17] at H
       exact absurd H (by simp)
     ·rw [if_neg c16] at H
      exact absurd H (by simp)
    ·rw [if_neg c14] at H
     have c14b0:decide (256≤x0_1)=false:=decide_eq_false c14
     clear c14
     obtain ⟨ji19,hji19⟩:∃ j_:Int,((x0_1) % 256)=j_:=⟨_,rfl⟩
     replace H:(if 0≤(ji19) then (if (ji19) < 256 then (some (wrap64 (x2_1 + (wrap64 (bt (⟨#[0,1,2,2,3,3,3,3,4,4,4,4,4,4,4,4,5,5,5,5,5,5,5,5,5,5,5,5,5,5,5,5,6,6,6,6,6,6,6,6,6,6,6,6,6,6,6,6,6,6,6,6,6,6,6,6,6,6,6,6,6,6,6,6,7,7,7,7,7,7,7,7,7,7,7,7,7,7,7,7,7,7,7,7,7,7,7,7,7,7,7,7,7,7,7,7,7,7,7,7,7,7,7,7,7,7,7,7,7,7,7,7,7,7,7,7,7,7,7,7,7,7,7,7,7,7,7,7,8,8,8,8,8,8,8,8,8,8,8,8,8,8,8,8,8,8,8,8,8,8,8,8,8,8,8,8,8,8,8,8,8,8,8,8,8,8,8,8,8,8,8,8,8,8,8,8,8,8,8,8,8,8,8,8,8,8,8,8,8,8,8,8,8,8,8,8,8,8,8,8,8,8,8,8,8,8,8,8,8,8,8,8,8,8,8,8,8,8,8,8,8,8,8,8,8,8,8,8,8,8,8,8,8,8,8,8,8,8,8,8,8,8,8,8,8,8,8,8,8,8,8,8,8,8,8,8]⟩:ByteArray) (ji19)))))) else (none)) else (none))=some r:=by first|(rw [hji19] at H;exact H)|(simp only [hji19] at H ⊢;exact H)
     by_cases c20:0≤(ji19)
     ·rw [if_pos c20] at H
      have c20b0:decide (0≤(ji19))=true:=decide_eq_true c20
      clear c20
      by_cases c21:(ji19) < 256
      ·rw [if_pos c21] at H
       have c21b0:decide ((ji19) < 256)=true:=decide_eq_true c21
       clear c21
       obtain rfl:=Option.some.inj H
       have p22:0≤((ji19):Int):=of_decide_eq_true (by first|(with_reducible assumption)|assumption)
       have q22:(ji19) < (256:Int):=of_decide_eq_true (by first|(with_reducible assumption)|assumption)
       have hx22:=bt_at (⟨#[0,1,2,2,3,3,3,3,4,4,4,4,4,4,4,4,5,5,5,5,5,5,5,5,5,5,5,5,5,5,5,5,6,6,6,6,6,6,6,6,6,6,6,6,6,6,6,6,6,6,6,6,6,6,6,6,6,6,6,6,6,6,6,6,7,7,7,7,7,7,7,7,7,7,7,7,7,7,7,7,7,7,7,7,7,7,7,7,7,7,7,7,7,7,7,7,7,7,7,7,7,7,7,7,7,7,7,7,7,7,7,7,7,7,7,7,7,7,7,7,7,7,7,7,7,7,7,7,8,8,8,8,8,8,8,8,8,8,8,8,8,8,8,8,8,8,8,8,8,8,8,8,8,8,8,8,8,8,8,8,8,8,8,8,8,8,8,8,8,8,8,8,8,8,8,8,8,8,8,8,8,8,8,8,8,8,8,8,8,8,8,8,8,8,8,8,8,8,8,8,8,8,8,8,8,8,8,8,8,8,8,8,8,8,8,8,8,8,8,8,8,8,8,8,8,8,8,8,8,8,8,8,8,8,8,8,8,8,8,8,8,8,8,8,8,8,8,8,8,8,8,8,8,8,8,8]⟩:ByteArray) (ji19)
       replace p22:=eq_true p22
       replace q22:=eq_true q22
       go_wp2
       go_ret
       exact ⟨by first|rfl|(simp;done)|(simp only [← hji19] <;> (first|rfl|simp))|(simp [*];done),by repeat (first|exact Drawn0.refl _|apply Drawn0.step)⟩
      ·rw [if_neg c21] at H
       exact absurd H (by simp)
     ·rw [if_neg c20] at H
      exact absurd H (by simp)
end Go.Proofs.Ytjoojmodghpimaa.Print
end
section
namespace Go.Proofs.Ytjoojmodghpimaa.Print
open Go.RowKit Go.Proofs.YtjoojmodghpimaaW.PrintWords Go.Proofs.YtjoojmodghpimaaW.PrintLast Go.Proofs.YtjoojmodghpimaaW.PrintMore
attribute [local go_sem] max2_int min2_int max_two min_two max_three min_three max_four min_four   -- for this text's walks alone
attribute [local go_sem ↓] Go.Proofs.Ytjoojmodghpimaa.Sem.isSome_setCell
attribute [local go_sem] Go.Instr.field Go.asAgg
set_option linter.unusedVariables false
set_option linter.unusedSimpArgs false
mutual
def seal_Pack.l0:Nat → List Int → List Int → Int → List Int → Int → Int → Option (List Int × Int)
 | 0,_,_,_,_,_,_=>none
 | k + 1,x1,x8,x9,x28,x29,x30=>if x30 < x29 then (if 0≤x30 then (if x30 < (x28.length:Int) then (if x30 < (x1.length:Int) then ((bits_Len64.f k (rd x1 x30)).bind fun t128=>(if t128 > (rd x28 x30) then (some (([]:List Int),1)) else (seal_Pack.l1 k x1 x8 x9 x30 (rd x28 x30) x28 x29 x30 (rd x28 x30) 0))) else (none)) else (none)) else (none)) else (some (x8,0))
def seal_Pack.l1:Nat → List Int → List Int → Int → Int → Int → List Int → Int → Int → Int → Int → Option (List Int × Int)
 | 0,_,_,_,_,_,_,_,_,_,_=>none
 | k + 1,x1,x8,x9,x10,x11,x28,x29,x30,x42,x43=>if x43 < x42 then (if 0≤(wrap64 (Int.tdiv x9 8)) then (if (wrap64 (Int.tdiv x9 8)) < (x8.length:Int) then (if 0≤x10 then (if x10 < (x1.length:Int) then (if 0≤(wrap64 ((wrap64 (x11 - 1)) - x43)) then (if 0≤(wrap64 (7 - (Int.tmod x9 8))) then (seal_Pack.l1 k x1 (x8.set ((wrap64 (Int.tdiv x9 8)):Int).toNat (Go.bits .or .u8 (rd x8 (wrap64 (Int.tdiv x9 8))) (shl .u8 ((Go.bits .and .u64 (shr .u64 (rd x1 x10) (wrap64 ((wrap64 (x11 - 1)) - x43))) 1) % 256) (wrap64 (7 - (Int.tmod x9 8)))))) (wrap64 (x9 + 1)) x10 x11 x28 x29 x30 x42 (wrap64 (x43 + 1))) else (none)) else (none)) else (none)) else (none)) else (none)) else (none)) else (seal_Pack.l0 k x1 x8 x9 x28 x29 (wrap64 (x30 + 1)))
end
def seal_Pack.f (k:Nat) (l0:List Int) (l1:List Int):Option (List Int × Int):=(seal_Width.f k l0).bind fun bt121=>(if bt121.2=0 then (if (l1.length:Int)=(l0.length:Int) then (if 0≤bt121.1 then (if (bt121.1:Int).toNat≤281474976710656 then (seal_Pack.l0 k l1 (List.replicate (bt121.1:Int).toNat 0) 0 l0 (l0.length:Int) 0) else (none)) else (none)) else (some (([]:List Int),1))) else (some (([]:List Int),bt121.2)))
theorem seal_Pack.mono_l:∀ k,(∀ y0 y1 y2 y3 y4 y5,LeO (seal_Pack.l0 k y0 y1 y2 y3 y4 y5) (seal_Pack.l0 (k + 1) y0 y1 y2 y3 y4 y5))∧(∀ y0 y1 y2 y3 y4 y5 y6 y7 y8 y9,LeO (seal_Pack.l1 k y0 y1 y2 y3 y4 y5 y6 y7 y8 y9) (seal_Pack.l1 (k + 1) y0 y1 y2 y3 y4 y5 y6 y7 y8 y9))
 | 0=>⟨fun _ _ _ _ _ _ r h=>by simp [seal_Pack.l0] at h,fun _ _ _ _ _ _ _ _ _ _ r h=>by simp [seal_Pack.l1] at h⟩
 | k + 1=>by
  obtain ⟨ih0,ih1⟩:=seal_Pack.mono_l k
  refine ⟨?_,?_⟩
  ·intro y0 y1 y2 y3 y4 y5
   unfold seal_Pack.l0
   repeat' first
   | (with_reducible exact ih0 _ _ _ _ _ _)
   | (with_reducible exact ih1 _ _ _ _ _ _ _ _ _ _)
   | (with_reducible exact bits_Len64.mono _ _)
   | (with_reducible exact seal_Width.mono _ _)
   | (with_reducible exact LeO.refl _)
   | (with_reducible exact LeO.none _)
   | (with_reducible refine LeO.ite ?_ ?_)
   | (with_reducible refine LeO.bind ?_ (fun _=>?_))
   | exact ih0 _ _ _ _ _ _
   | exact ih1 _ _ _ _ _ _ _ _ _ _
   | exact bits_Len64.mono _ _
   | exact seal_Width.mono _ _
   | exact LeO.none _
   | refine LeO.ite ?_ ?_
   | refine LeO.bind ?_ (fun _=>?_)
  ·intro y0 y1 y2 y3 y4 y5 y6 y7 y8 y9
   unfold seal_Pack.l1
   repeat' first
   | (with_reducible exact ih0 _ _ _ _ _ _)
   | (with_reducible exact ih1 _ _ _ _ _ _ _ _ _ _)
   | (with_reducible exact bits_Len64.mono _ _)
   | (with_reducible exact seal_Width.mono _ _)
   | (with_reducible exact LeO.refl _)
   | (with_reducible exact LeO.none _)
   | (with_reducible refine LeO.ite ?_ ?_)
   | (with_reducible refine LeO.bind ?_ (fun _=>?_))
   | exact ih0 _ _ _ _ _ _
   | exact ih1 _ _ _ _ _ _ _ _ _ _
   | exact bits_Len64.mono _ _
   | exact seal_Width.mono _ _
   | exact LeO.none _
   | refine LeO.ite ?_ ?_
   | refine LeO.bind ?_ (fun _=>?_)
theorem seal_Pack.mono:∀ a0 a1 k,LeO (seal_Pack.f k a0 a1) (seal_Pack.f (k + 1) a0 a1):=by
 intro a0 a1 k
 obtain ⟨ih0,ih1⟩:=seal_Pack.mono_l k
 unfold seal_Pack.f
 repeat' first
   | (with_reducible exact ih0 _ _ _ _ _ _)
   | (with_reducible exact ih1 _ _ _ _ _ _ _ _ _ _)
   | (with_reducible exact bits_Len64.mono _ _)
   | (with_reducible exact seal_Width.mono _ _)
   | (with_reducible exact LeO.refl _)
   | (with_reducible exact LeO.none _)
   | (with_reducible refine LeO.ite ?_ ?_)
   | (with_reducible refine LeO.bind ?_ (fun _=>?_))
   | exact ih0 _ _ _ _ _ _
   | exact ih1 _ _ _ _ _ _ _ _ _ _
   | exact bits_Len64.mono _ _
   | exact seal_Width.mono _ _
   | exact LeO.none _
   | refine LeO.ite ?_ ?_
   | refine LeO.bind ?_ (fun _=>?_)
def seal_Pack.T16:Bool × List (List Nat × List Nat):=(true,[([],[]),([],[]),([1],[1]),([0,2],[0,2]),([3],[3]),([],[]),([],[]),([5,6],[5,6]),([7],[7]),([],[]),([9],[9]),([],[]),([10,11],[10,11]),([8,12],[8,12]),([13],[13]),([14],[14]),([],[]),([16],[16]),([17],[17]),([15,18],[15,18]),([4,19],[4,19]),([0,2,0,1,2,3,4,5,6,7,8,9,10,11,12,13,14,15,16,17,18,19,20],[0,2]),([21,20,0,1,2,3,4,5,6,7,8,9,10,11,12,13,14,15,16,17,18,19,20],[20,21])])
def seal_Pack.B16:List Nat:=[0,0,2,7,15,0,0,96,224,0,512,0,3584,8160,16352,32736,0,65536,196608,524256,1048575,2097151,4194303]
theorem seal_Pack.tab16:rtab .any (opsOf Try.f30 16)=seal_Pack.T16:=by kernel_rfl
theorem seal_Pack.bits16:waitsOk seal_Pack.T16.2 seal_Pack.B16=true:=by kernel_rfl
set_option maxHeartbeats 8000000 in
set_option maxRecDepth 100000 in
theorem seal_Pack.calls (k:Nat) (A0:Option Addr) (c0:Nat) (l0:List Int) (A1:Option Addr) (c1:Nat) (l1:List Int) (r1:List Int) (r2:Int) (w:World) (hr0:Kd.C (Kd.int .i64) w A0 l0.length l0) (hc0:l0.length≤c0) (hr1:Kd.C (Kd.int .u64) w A1 l1.length l1) (hc1:l1.length≤c1) (h:seal_Pack.f k l0 l1=some (r1,r2)) :
  Calls Try.prog 30 #[.slice A0 l0.length c0,.slice A1 l1.length c1] w fun e w'=>∃ v0_:Value,e=.returned (.tuple #[v0_,.int .i64 r2])∧Kd.R (Kd.int .u8) 5 w' w.heap.size (fun _=>True) v0_ r1∧Below w.heap.size w w':=by
 have HR0:=zm hr0
 have HC0:=zm hc0
 clear hr0 hc0
 have HR1:=zm hr1
 have HC1:=zm hc1
 clear hr1 hc1
 have HB:=zm (Below.refl w.heap.size w)
 have H:((seal_Width.f k l0).bind fun bt121=>(if bt121.2=0 then (if (l1.length:Int)=(l0.length:Int) then (if 0≤bt121.1 then (if (bt121.1:Int).toNat≤281474976710656 then (seal_Pack.l0 k l1 (List.replicate (bt121.1:Int).toNat 0) 0 l0 (l0.length:Int) 0) else (none)) else (none)) else (some (([]:List Int),1))) else (some (([]:List Int),bt121.2))))=some (r1,r2):=h
 clear h
 replace H:=Option.bind_eq_some_iff.mp H
 obtain ⟨⟨t121,t122⟩,A30,H⟩:=H
 replace H:(if t122=0 then (if (l1.length:Int)=(l0.length:Int) then (if 0≤t121 then (if (t121:Int).toNat≤281474976710656 then (seal_Pack.l0 k l1 (List.replicate (t121:Int).toNat 0) 0 l0 (l0.length:Int) 0) else (none)) else (none)) else (some (([]:List Int),1))) else (some (([]:List Int),t122)))=some (r1,r2):=H
 have A3:=zm A30
 clear A30
 by_cases c4:t122=0
 ·rw [if_pos c4] at H
  have c4b0:(t122 == 0)=true:=beq_iff_eq.mpr c4
  have c4b1:(t122 != 0)=false:=bne_eq_false_iff_eq.mpr c4
  clear c4
  by_cases c5:(l1.length:Int)=(l0.length:Int)
  ·rw [if_pos c5] at H
   have c5b0:((l1.length:Int) == (l0.length:Int))=true:=beq_iff_eq.mpr c5
   have c5b1:((l1.length:Int) != (l0.length:Int))=false:=bne_eq_false_iff_eq.mpr c5
   have c5b2:(l1.length == l0.length)=true:=by first|simpa using c5|(simp at c5 ⊢;omega)
   clear c5
   by_cases c6:0≤t121
   ·rw [if_pos c6] at H
    have c6b0:=eq_true c6
    have c6b1:decide (0≤t121)=true:=decide_eq_true c6
    clear c6
    by_cases c7:(t121:Int).toNat≤281474976710656
    ·rw [if_pos c7] at H
     have c7b0:=eq_true c7
     have c7b1:decide ((t121:Int).toNat≤281474976710656)=true:=decide_eq_true c7
     clear c7
     obtain ⟨y123,hy123⟩:∃ y_:List Int,y_=(List.replicate (t121:Int).toNat 0):=⟨_,rfl⟩
     replace H:(seal_Pack.l0 k l1 y123 0 l0 (l0.length:Int) 0)=some (r1,r2):=by first|(rw [hy123];with_reducible exact H)|(have H2_:=(Option.bind_some _ _).symm.trans H;rw [hy123];with_reducible exact H2_)|(have H2_:=(Option.bind_some _ _).symm.trans H;with_reducible exact H2_)|with_reducible exact H|(rw [hy123];exact H)|exact H
     have Ny123:=zm hy123
     clear hy123
     have H':=zm H
     clear H
     go_enter Try.func30,Try.ntmps30
     go_wp2_with (first|((with_reducible refine gate_callee (f:=31) rfl ?_);refine goesL_ (some 15) rfl rfl Try.func31 (by kernel_rfl) rfl #[.slice A0 l0.length c0] rfl (by (try simp only [List.map_toArray,List.map_cons,List.map_nil]);first|done|rfl|(simp only [List.length_drop,List.length_take];rfl)) ?_;(with_reducible refine (seal_Width.calls k _ _ l0 t121 t122 _ ?side1 ?side2 A3.out).mono ?_);(case side1=>repeat (first|exact HR0.out|(with_reducible refine Kd.C_alloc ?_ _)|(with_reducible refine Kd.C_drewN ?_ _)|(with_reducible refine Kd.C_drew ?_)));(case side2=>exact HC0.out);rintro e w' ⟨rfl,⟨nd,rfl⟩⟩;refine ⟨_,rfl,?_⟩)|((with_reducible refine gate_dst (N:=27) rfl ?_);refine Kd.R_make (Kd.int .u8) _ 5 rfl (N:=27) rfl 25 _ _ rfl t121 rfl rfl Try.underlying25 (.int .u8 0) 1 info5 rfl (by decide) (by omega) 0 (ok:=fun _=>True) (okp:=fun _=>True) rfl (fun _ hk=>hk) trivial (of_decide_eq_true (by first|(with_reducible assumption)|assumption)) (Nat.le_trans (Nat.mul_le_mul_right _ (of_decide_eq_true (by first|(with_reducible assumption)|assumption):t121.toNat≤281474976710656)) (by omega)) (Below.refl _ _) (Nat.le_refl _) ?_;intro v124 w8 ho9 hb hg_ hnew_;clear hg_ hnew_;(first|rw [← Ny123.out] at ho9|(simp only [Int.reduceToNat] at ho9;rw [← Ny123.out] at ho9));have n0_:=zm (Kd.R_lower ho9 (below_size (by repeat (first|(with_reducible first|exact HB.out|apply zlA|apply zlN|apply zlD)|exact HB.out))));have n1_:=zm (below_step (by repeat (first|(with_reducible first|exact HB.out|apply zlA|apply zlN|apply zlD)|exact HB.out)) hb);clear HB;have HO125:=n0_;have HB:=n1_;clear n0_ n1_;clear hb ho9))
     go_loopg [9,30] k (fun kq v9 v30 w'=>∃ (x8_1:List Int) (x9_1:Int) (x30_1:Int),v9=.int .i64 x9_1∧v30=.int .i64 x30_1∧Aside0 (seal_Pack.l0 kq l1 x8_1 x9_1 l0 (l0.length:Int) x30_1=some (r1,r2))∧Aside0 (kq≤k)∧Aside0 (Kd.R (Kd.int .u8) 5 w' w.heap.size (fun _=>True) v124 x8_1)∧Aside0 (Below w.heap.size w w'))
     case atStart=>exact ⟨(y123),(0),(0),(by first|rfl|(simp;done)|(simp [*];done)),(by first|rfl|(simp;done)|(simp [*];done)),H',⟨Nat.le_refl _⟩,⟨by (with_reducible repeat (first|apply zrA|apply zrN|apply zrD));exact HO125.out⟩,⟨by repeat (first|(with_reducible first|exact HB.out|apply zlA|apply zlN|apply zlD)|exact HB.out)⟩⟩
     case round =>
      clear H'
      try clear c1
      try clear p2
      try clear c3
      try clear c4
      try clear c4b0
      try clear c4b1
      try clear c5
      try clear c5b0
      try clear c5b1
      try clear c5b2
      try clear c6
      try clear c6b0
      try clear c6b1
      try clear c7
      try clear c7b0
      try clear c7b1
      obtain ⟨x8_1,x9_1,x30_1,rfl,rfl,HA,HK1,HO_8,HB⟩:=hrel
      cases gk with
      | zero=>exact absurd HA.out (by simp [seal_Pack.l0])
      | succ k1 =>
       have H:=HA.out
       clear HA
       simp only [seal_Pack.l0] at H
       by_cases c10:x30_1 < (l0.length:Int)
       ·rw [if_pos c10] at H
        have c10b0:decide (x30_1 < (l0.length:Int))=true:=decide_eq_true c10
        clear c10
        by_cases c11:0≤x30_1
        ·rw [if_pos c11] at H
         have c11b0:decide (0≤x30_1)=true:=decide_eq_true c11
         clear c11
         by_cases c12:x30_1 < (l0.length:Int)
         ·rw [if_pos c12] at H
          have c12b0:decide (x30_1 < (l0.length:Int))=true:=decide_eq_true c12
          clear c12
          by_cases c13:x30_1 < (l1.length:Int)
          ·rw [if_pos c13] at H
           have c13b0:decide (x30_1 < (l1.length:Int))=true:=decide_eq_true c13
           clear c13
           replace H:=Option.bind_eq_some_iff.mp H
           obtain ⟨t128,A140,H⟩:=H
           replace H:(if t128 > (rd l0 x30_1) then (some (([]:List Int),1)) else (seal_Pack.l1 k1 l1 x8_1 x9_1 x30_1 (rd l0 x30_1) l0 (l0.length:Int) x30_1 (rd l0 x30_1) 0))=some (r1,r2):=H
           have A14:=zm A140
           clear A140
           by_cases c15:t128 > (rd l0 x30_1)
           ·rw [if_pos c15] at H
            have c15b0:decide ((rd l0 x30_1) < t128)=true:=decide_eq_true c15
            clear c15
            simp only [Option.some.injEq,Prod.mk.injEq] at H
            obtain ⟨rfl,rfl⟩:=H
            have p126:0≤(x30_1:Int):=of_decide_eq_true (by first|(with_reducible assumption)|assumption)
            have q126:x30_1 < (l0.length:Int):=of_decide_eq_true (by first|(with_reducible assumption)|assumption)
            obtain ⟨ad126,e126,hx126_0⟩:=Kd.at_int HR0.out x30_1 p126 q126
            cases e126
            replace hx126_0:=(HB.out.cell (World.block_lt_of_cell? w _ hx126_0)).trans hx126_0
            replace p126:=eq_true p126
            replace q126:=eq_true q126
            have p127:0≤(x30_1:Int):=of_decide_eq_true (by first|(with_reducible assumption)|assumption)
            have q127:x30_1 < (l1.length:Int):=of_decide_eq_true (by first|(with_reducible assumption)|assumption)
            obtain ⟨ad127,e127,hx127_0⟩:=Kd.at_int HR1.out x30_1 p127 q127
            cases e127
            replace hx127_0:=(HB.out.cell (World.block_lt_of_cell? w _ hx127_0)).trans hx127_0
            replace p127:=eq_true p127
            replace q127:=eq_true q127
            go_wp2_with (first|((with_reducible refine gate_callee (f:=48) rfl ?_);refine goesL_ (some 39) rfl rfl Try.func48 (by kernel_rfl) rfl #[.int .u64 (rd l1 x30_1)] rfl (by (try simp only [List.map_toArray,List.map_cons,List.map_nil]);first|done|rfl|(simp only [List.length_drop,List.length_take];rfl)) ?_;(with_reducible refine (bits_Len64.calls k1 (rd l1 x30_1) t128 _ A14.out).mono ?_);rintro e w' ⟨rfl,⟨nd,rfl⟩⟩;refine ⟨_,rfl,?_⟩))
            go_ret2
            exact ⟨_,by first|rfl|(simp [errW_none,errW_some] <;> rfl)|(simp [*,errW_none,errW_some] <;> rfl),by first|exact Kd.R_nil _ _ _ _ _|exact Kd.N_nil _ _ _ _ _|exact Kd.V_nil _ _ _ _ _|exact Kd.Q_nil _ _ _ _ _|exact Kd.S_nil _ _ _ _ _,by repeat (first|(with_reducible first|exact HB.out|apply zlA|apply zlN|apply zlD)|exact HB.out)⟩
           ·rw [if_neg c15] at H
            have c15b0:decide ((rd l0 x30_1) < t128)=false:=decide_eq_false c15
            clear c15
            have H':=zm H
            clear H
            have p126:0≤(x30_1:Int):=of_decide_eq_true (by first|(with_reducible assumption)|assumption)
            have q126:x30_1 < (l0.length:Int):=of_decide_eq_true (by first|(with_reducible assumption)|assumption)
            obtain ⟨ad126,e126,hx126_0⟩:=Kd.at_int HR0.out x30_1 p126 q126
            cases e126
            replace hx126_0:=(HB.out.cell (World.block_lt_of_cell? w _ hx126_0)).trans hx126_0
            replace p126:=eq_true p126
            replace q126:=eq_true q126
            have p127:0≤(x30_1:Int):=of_decide_eq_true (by first|(with_reducible assumption)|assumption)
            have q127:x30_1 < (l1.length:Int):=of_decide_eq_true (by first|(with_reducible assumption)|assumption)
            obtain ⟨ad127,e127,hx127_0⟩:=Kd.at_int HR1.out x30_1 p127 q127
            cases e127
            replace hx127_0:=(HB.out.cell (World.block_lt_of_cell? w _ hx127_0)).trans hx127_0
            replace p127:=eq_true p127
            replace q127:=eq_true q127
            go_wp2_with (first|((with_reducible refine gate_callee (f:=48) rfl ?_);refine goesL_ (some 39) rfl rfl Try.func48 (by kernel_rfl) rfl #[.int .u64 (rd l1 x30_1)] rfl (by (try simp only [List.map_toArray,List.map_cons,List.map_nil]);first|done|rfl|(simp only [List.length_drop,List.length_take];rfl)) ?_;(with_reducible refine (bits_Len64.calls k1 (rd l1 x30_1) t128 _ A14.out).mono ?_);rintro e w' ⟨rfl,⟨nd,rfl⟩⟩;refine ⟨_,rfl,?_⟩))
            go_loopg [9,43] k1 (fun kq v9 v43 w'=>∃ (x8_2:List Int) (x9_2:Int) (x43_2:Int),v9=.int .i64 x9_2∧v43=.int .i64 x43_2∧Aside0 (seal_Pack.l1 kq l1 x8_2 x9_2 x30_1 (rd l0 x30_1) l0 (l0.length:Int) x30_1 (rd l0 x30_1) x43_2=some (r1,r2))∧Aside0 (kq≤k1)∧Aside0 (Kd.R (Kd.int .u8) 5 w' w.heap.size (fun _=>True) v124 x8_2)∧Aside0 (Below w.heap.size w w'))
            case atStart=>exact ⟨(x8_1),(x9_1),(0),(by first|rfl|(simp;done)|(simp [*];done)),(by first|rfl|(simp;done)|(simp [*];done)),H',⟨Nat.le_refl _⟩,⟨by (with_reducible repeat (first|apply zrA|apply zrN|apply zrD));exact HO_8.out⟩,⟨by repeat (first|(with_reducible first|exact HB.out|apply zlA|apply zlN|apply zlD)|exact HB.out)⟩⟩
            case round =>
             clear H'
             try clear c1
             try clear p1
             try clear q1
             try clear hx1
             try clear p2
             try clear c3
             try clear c4
             try clear c4b0
             try clear c4b1
             try clear c5
             try clear c5b0
             try clear c5b1
             try clear c5b2
             try clear c6
             try clear c6b0
             try clear c6b1
             try clear c7
             try clear c7b0
             try clear c7b1
             try clear c10
             try clear c10b0
             try clear c11
             try clear c11b0
             try clear c12
             try clear c12b0
             try clear p12
             try clear q12
             try clear hx12
             try clear c13
             try clear c13b0
             try clear c15
             try clear c15b0
             try clear hx126_0
             try clear hx127_0
             try clear p126
             try clear p127
             try clear p2
             try clear q126
             try clear q127
             obtain ⟨x8_2,x9_2,x43_2,rfl,rfl,HA,HK2,HO_8,HB⟩:=hrel
             cases gk with
             | zero=>exact absurd HA.out (by simp [seal_Pack.l1])
             | succ k2 =>
              have H:=HA.out
              clear HA
              simp only [seal_Pack.l1] at H
              by_cases c16:x43_2 < (rd l0 x30_1)
              ·rw [if_pos c16] at H
               have c16b0:decide (x43_2 < (rd l0 x30_1))=true:=decide_eq_true c16
               clear c16
               obtain ⟨ji17,hji17⟩:∃ j_:Int,(wrap64 (Int.tdiv x9_2 8))=j_:=⟨_,rfl⟩
               replace H:(if 0≤(ji17) then (if (ji17) < (x8_2.length:Int) then (if 0≤x30_1 then (if x30_1 < (l1.length:Int) then (if 0≤(wrap64 ((wrap64 ((rd l0 x30_1) - 1)) - x43_2)) then (if 0≤(wrap64 (7 - (Int.tmod x9_2 8))) then (seal_Pack.l1 k2 l1 (x8_2.set ((ji17):Int).toNat (Go.bits .or .u8 (rd x8_2 (ji17)) (shl .u8 ((Go.bits .and .u64 (shr .u64 (rd l1 x30_1) (wrap64 ((wrap64 ((rd l0 x30_1) - 1)) - x43_2))) 1) % 256) (wrap64 (7 - (Int.tmod x9_2 8)))))) (wrap64 (x9_2 + 1)) x30_1 (rd l0 x30_1) l0 (l0.length:Int) x30_1 (rd l0 x30_1) (wrap64 (x43_2 + 1))) else (none)) else (none)) else (none)) else (none)) else (none)) else (none))=some (r1,r2):=by first|(rw [hji17] at H;exact H)|(simp only [hji17] at H ⊢;exact H)
               have hji17w:(IntKind.i64.wrap (Int.tdiv x9_2 8))=ji17:=(i64_w _).trans hji17
               by_cases c18:0≤(ji17)
               ·rw [if_pos c18] at H
                have c18b0:decide (0≤(ji17))=true:=decide_eq_true c18
                clear c18
                by_cases c19:(ji17) < (x8_2.length:Int)
                ·rw [if_pos c19] at H
                 have c19b0:decide ((ji17) < (x8_2.length:Int))=true:=decide_eq_true c19
                 clear c19
                 by_cases c20:0≤x30_1
                 ·rw [if_pos c20] at H
                  have c20b0:decide (0≤x30_1)=true:=decide_eq_true c20
                  clear c20
                  by_cases c21:x30_1 < (l1.length:Int)
                  ·rw [if_pos c21] at H
                   have c21b0:decide (x30_1 < (l1.length:Int))=true:=decide_eq_true c21
                   clear c21
                   obtain ⟨ji22,hji22⟩:∃ j_:Int,(wrap64 ((wrap64 ((rd l0 x30_1) - 1)) - x43_2))=j_:=⟨_,rfl⟩
                   replace H:(if 0≤(ji22) then (if 0≤(wrap64 (7 - (Int.tmod x9_2 8))) then (seal_Pack.l1 k2 l1 (x8_2.set ((ji17):Int).toNat (Go.bits .or .u8 (rd x8_2 (ji17)) (shl .u8 ((Go.bits .and .u64 (shr .u64 (rd l1 x30_1) (ji22)) 1) % 256) (wrap64 (7 - (Int.tmod x9_2 8)))))) (wrap64 (x9_2 + 1)) x30_1 (rd l0 x30_1) l0 (l0.length:Int) x30_1 (rd l0 x30_1) (wrap64 (x43_2 + 1))) else (none)) else (none))=some (r1,r2):=by first|(rw [hji22] at H;exact H)|(simp only [hji22] at H ⊢;exact H)
                   have hji22w:(IntKind.i64.wrap ((wrap64 ((rd l0 x30_1) - 1)) - x43_2))=ji22:=(i64_w _).trans hji22
                   by_cases c23:0≤(ji22)
                   ·rw [if_pos c23] at H
                    have c23b0:=eq_true c23
                    have c23b1:decide (0≤(ji22))=true:=decide_eq_true c23
                    clear c23
                    obtain ⟨ji24,hji24⟩:∃ j_:Int,(shr .u64 (rd l1 x30_1) (ji22))=j_:=⟨_,rfl⟩
                    replace H:(if 0≤(wrap64 (7 - (Int.tmod x9_2 8))) then (seal_Pack.l1 k2 l1 (x8_2.set ((ji17):Int).toNat (Go.bits .or .u8 (rd x8_2 (ji17)) (shl .u8 ((Go.bits .and .u64 (ji24) 1) % 256) (wrap64 (7 - (Int.tmod x9_2 8)))))) (wrap64 (x9_2 + 1)) x30_1 (rd l0 x30_1) l0 (l0.length:Int) x30_1 (rd l0 x30_1) (wrap64 (x43_2 + 1))) else (none))=some (r1,r2):=by first|(rw [hji24] at H;exact H)|(simp only [hji24] at H ⊢;exact H)
                    have hji24_:((rd l1 x30_1) / 2 ^ min (ji22).toNat 64)=ji24:=hji24
                    have hji24z:(ji22)≤64 → ((rd l1 x30_1) / 2 ^ (ji22).toNat)=ji24:=shr_small hji24
                    obtain ⟨ji25,hji25⟩:∃ j_:Int,(wrap64 (7 - (Int.tmod x9_2 8)))=j_:=⟨_,rfl⟩
                    replace H:(if 0≤(ji25) then (seal_Pack.l1 k2 l1 (x8_2.set ((ji17):Int).toNat (Go.bits .or .u8 (rd x8_2 (ji17)) (shl .u8 ((Go.bits .and .u64 (ji24) 1) % 256) (ji25)))) (wrap64 (x9_2 + 1)) x30_1 (rd l0 x30_1) l0 (l0.length:Int) x30_1 (rd l0 x30_1) (wrap64 (x43_2 + 1))) else (none))=some (r1,r2):=by first|(rw [hji25] at H;exact H)|(simp only [hji25] at H ⊢;exact H)
                    have hji25w:(IntKind.i64.wrap (7 - (Int.tmod x9_2 8)))=ji25:=(i64_w _).trans hji25
                    by_cases c26:0≤(ji25)
                    ·rw [if_pos c26] at H
                     have c26b0:=eq_true c26
                     have c26b1:decide (0≤(ji25))=true:=decide_eq_true c26
                     clear c26
                     obtain ⟨ji27,hji27⟩:∃ j_:Int,(shl .u8 ((Go.bits .and .u64 (ji24) 1) % 256) (ji25))=j_:=⟨_,rfl⟩
                     replace H:(seal_Pack.l1 k2 l1 (x8_2.set ((ji17):Int).toNat (Go.bits .or .u8 (rd x8_2 (ji17)) (ji27))) (wrap64 (x9_2 + 1)) x30_1 (rd l0 x30_1) l0 (l0.length:Int) x30_1 (rd l0 x30_1) (wrap64 (x43_2 + 1)))=some (r1,r2):=by first|(rw [hji27] at H;exact H)|(simp only [hji27] at H ⊢;exact H)
                     have hji27_:(IntKind.u8.wrap (((Go.bits .and .u64 (ji24) 1) % 256) * 2 ^ min (ji25).toNat 8))=ji27:=hji27
                     have hji27z:(ji25)≤8 → (IntKind.u8.wrap (((Go.bits .and .u64 (ji24) 1) % 256) * 2 ^ (ji25).toNat))=ji27:=shl_small hji27
                     have hji27m:(((Go.bits .and .u64 (ji24) 1) % 256) * 2 ^ min (ji25).toNat 8) % 256=ji27:=(IntKind.wrap_u8 _).symm.trans hji27_
                     have hji27n:(ji25)≤8 → (((Go.bits .and .u64 (ji24) 1) % 256) * 2 ^ (ji25).toNat) % 256=ji27:=fun hle_=>(IntKind.wrap_u8 _).symm.trans (hji27z hle_)
                     obtain ⟨y131,hy131⟩:∃ y_:List Int,y_=(x8_2.set ((ji17):Int).toNat (Go.bits .or .u8 (rd x8_2 (ji17)) (ji27))):=⟨_,rfl⟩
                     replace H:(seal_Pack.l1 k2 l1 y131 (wrap64 (x9_2 + 1)) x30_1 (rd l0 x30_1) l0 (l0.length:Int) x30_1 (rd l0 x30_1) (wrap64 (x43_2 + 1)))=some (r1,r2):=by first|(rw [hy131];with_reducible exact H)|(have H2_:=(Option.bind_some _ _).symm.trans H;rw [hy131];with_reducible exact H2_)|(have H2_:=(Option.bind_some _ _).symm.trans H;with_reducible exact H2_)|with_reducible exact H|(rw [hy131];exact H)|exact H
                     have Ny131:=zm hy131
                     clear hy131
                     have H':=zm H
                     clear H
                     try go_wp2
                     have n0_:=zm (zrD HO_8.out)
                     have n1_:=zm (zlD HB.out)
                     clear HO_8 HB
                     have HO_8:=n0_
                     have HB:=n1_
                     clear n0_ n1_
                     obtain ⟨Ao30,co30,eo30⟩:=Kd.R_slice HO_8.out
                     (first|subst eo30|(injection eo30 with f1_ f2_ f3_;have f4_:=f1_.symm;have f5_:=f3_.symm;clear f1_ f2_ f3_;subst f4_;subst f5_))
                     have p129:0≤((ji17):Int):=of_decide_eq_true (by first|(with_reducible assumption)|assumption)
                     have q129:(ji17) < (x8_2.length:Int):=of_decide_eq_true (by first|(with_reducible assumption)|assumption)
                     obtain ⟨ad129,e129,hx129_0⟩:=Kd.at_int (Kd.R_reads' HO_8.out).2.2 (ji17) p129 q129
                     cases e129
                     replace p129:=eq_true p129
                     replace q129:=eq_true q129
                     have p130:0≤(x30_1:Int):=of_decide_eq_true (by first|(with_reducible assumption)|assumption)
                     have q130:x30_1 < (l1.length:Int):=of_decide_eq_true (by first|(with_reducible assumption)|assumption)
                     obtain ⟨ad130,e130,hx130_0⟩:=Kd.at_int HR1.out x30_1 p130 q130
                     have hw130_0:=hx130_0
                     obtain rfl:ad127=ad130:=(by injection e130)
                     replace hx130_0:=(HB.out.cell (World.block_lt_of_cell? w _ hx130_0)).trans hx130_0
                     replace p130:=eq_true p130
                     replace q130:=eq_true q130
                     have p28:0≤((ji17):Int):=of_decide_eq_true (by first|(with_reducible assumption)|assumption)
                     have q28:((ji17):Int) < ((x8_2.length:Int):Int):=of_decide_eq_true (by first|(with_reducible assumption)|assumption)
                     obtain ⟨go28,co28,eo28,gb28,gl28,cl28,HG28⟩:=Kd.R_form HO_8.out (by omega)
                     (first|cases eo28|(injection eo28 with ea_ en_ ec_;(first|subst ea_|(injection ea_ with ea_;subst ea_));subst ec_;clear en_))
                     have GB28:=zm gb28
                     have GG28:=zm HG28
                     clear gb28 gl28 HG28
                     (first|simp only [add_plain] at hx129_0|skip)
                     obtain ⟨hx28_0,hf28_0⟩:=Kd.R_celln 0 HO_8.out ((ji17):Int) p28 q28
                     replace p28:=eq_true p28
                     replace q28:=eq_true q28
                     have HP31:=Kd.R_putn HO_8.out ((ji17):Int) (Go.bits .or .u8 (rd x8_2 (ji17)) (ji27))
                     rw [← Ny131.out] at HP31
                     have HQ31:=zm HP31
                     clear HP31
                     refine start_ (n:=23) (S:=fun w'=>w'.cell? ⟨go28,((ji17)).toNat,none⟩=some (.int .u8 (rd x8_2 (ji17)))∧w'.cell? (ad127.add (x30_1).toNat)=some (.int .u64 (rd l1 x30_1))) (ds:=[22]) #[false,false,false,false,false,false,false,false,false,false,false,false,false,false,false,false,false,false,false,false,false,false,false] (by kernel_rfl) rfl rfl ⟨hx129_0,((HB.out.cell (World.block_lt_of_cell? w _ hw130_0)).trans hw130_0)⟩ (fun hHeld=>?_);refine with_tabW seal_Pack.tab16 seal_Pack.bits16 (fun HT_ HW_=>?_)
                     generalize wr.drew=w29 at HO_8 HB GG28 HQ31 hf28_0 hx129_0 hx130_0 hx28_0 hHeld ⊢
                     refine pure_ (i:=0) (N:=some 46) (v:=?_) (a':=?_) #[true,false,false,false,false,false,false,false,false,false,false,false,false,false,false,false,false,false,false,false,false,false,false] rfl rfl (any_of HT_.out (by kernel_rfl)) (fun _ _ _ h=>h) (Or.inl ⟨by rfl,?_⟩) ?_ ?_
                     rotate_left
                     ·intro w'
                      go_simp
                      with_reducible rfl
                     rotate_left
                     ·simp only [Act.put,List.setIfInBounds_toArray,List.set_cons_zero,List.set_cons_succ,i64_w,i32_w]
                      rfl
                     refine pure_ (i:=1) (N:=some 47) (v:=?_) (a':=?_) #[true,true,false,false,false,false,false,false,false,false,false,false,false,false,false,false,false,false,false,false,false,false,false] rfl rfl (any_of HT_.out (by kernel_rfl)) (fun _ _ _ h=>h) (Or.inl ⟨by rfl,?_⟩) ?_ ?_
                     rotate_left
                     ·intro w'
                      go_simp
                      with_reducible rfl
                     rotate_left
                     ·simp only [Act.put,List.setIfInBounds_toArray,List.set_cons_zero,List.set_cons_succ,i64_w,i32_w]
                      rfl
                     refine pure_ (i:=2) (N:=some 48) (v:=?_) (a':=?_) #[true,true,true,false,false,false,false,false,false,false,false,false,false,false,false,false,false,false,false,false,false,false,false] rfl rfl (any_of HT_.out (by kernel_rfl)) (fun _ _ _ h=>h) (Or.inl ⟨by rfl,?_⟩) ?_ ?_
                     rotate_left
                     ·intro w'
                      go_simp
                      with_reducible rfl
                     rotate_left
                     ·simp only [Act.put,List.setIfInBounds_toArray,List.set_cons_zero,List.set_cons_succ,i64_w,i32_w]
                      rfl
                     refine pure_ (i:=3) (N:=some 49) (v:=?_) (a':=?_) #[true,true,true,true,false,false,false,false,false,false,false,false,false,false,false,false,false,false,false,false,false,false,false] rfl rfl (any_of HT_.out (by kernel_rfl)) (fun _ _ _ h=>h) (Or.inl ⟨by rfl,?_⟩) ?_ ?_
                     rotate_left
                     ·intro w'
                      go_simp
                      with_reducible rfl
                     rotate_left
                     ·simp only [Act.put,List.setIfInBounds_toArray,List.set_cons_zero,List.set_cons_succ,i64_w,i32_w]
                      rfl
                     refine pure_ (i:=5) (N:=some 51) (v:=?_) (a':=?_) #[true,true,true,true,false,true,false,false,false,false,false,false,false,false,false,false,false,false,false,false,false,false,false] rfl rfl (any_of HT_.out (by kernel_rfl)) (fun _ _ _ h=>h) (Or.inl ⟨by rfl,?_⟩) ?_ ?_
                     rotate_left
                     ·intro w'
                      go_simp
                      with_reducible rfl
                     rotate_left
                     ·simp only [Act.put,List.setIfInBounds_toArray,List.set_cons_zero,List.set_cons_succ,i64_w,i32_w]
                      rfl
                     refine pure_ (i:=6) (N:=some 52) (v:=?_) (a':=?_) #[true,true,true,true,false,true,true,false,false,false,false,false,false,false,false,false,false,false,false,false,false,false,false] rfl rfl (any_of HT_.out (by kernel_rfl)) (fun _ _ _ h=>h) (Or.inl ⟨by rfl,?_⟩) ?_ ?_
                     rotate_left
                     ·intro w'
                      go_simp
                      with_reducible rfl
                     rotate_left
                     ·simp only [Act.put,List.setIfInBounds_toArray,List.set_cons_zero,List.set_cons_succ,i64_w,i32_w]
                      rfl
                     refine pure_ (i:=7) (N:=some 53) (v:=?_) (a':=?_) #[true,true,true,true,false,true,true,true,false,false,false,false,false,false,false,false,false,false,false,false,false,false,false] rfl rfl (any_of HT_.out (by kernel_rfl)) (fun _ _ _ h=>h) (Or.inl ⟨by rfl,?_⟩) ?_ ?_
                     rotate_left
                     ·intro w'
                      go_simp
                      with_reducible rfl
                     rotate_left
                     ·simp only [Act.put,List.setIfInBounds_toArray,List.set_cons_zero,List.set_cons_succ,i64_w,i32_w]
                      rfl
                     refine pure_ (i:=9) (N:=some 55) (v:=?_) (a':=?_) #[true,true,true,true,false,true,true,true,false,true,false,false,false,false,false,false,false,false,false,false,false,false,false] rfl rfl (any_of HT_.out (by kernel_rfl)) (fun _ _ _ h=>h) (Or.inl ⟨by rfl,?_⟩) ?_ ?_
                     rotate_left
                     ·intro w'
                      go_simp
                      with_reducible rfl
                     rotate_left
                     ·simp only [Act.put,List.setIfInBounds_toArray,List.set_cons_zero,List.set_cons_succ,i64_w,i32_w]
                      rfl
                     refine pure_ (i:=10) (N:=some 56) (v:=?_) (a':=?_) #[true,true,true,true,false,true,true,true,false,true,true,false,false,false,false,false,false,false,false,false,false,false,false] rfl rfl (any_of HT_.out (by kernel_rfl)) (fun _ _ _ h=>h) (Or.inl ⟨by rfl,?_⟩) ?_ ?_
                     rotate_left
                     ·intro w'
                      go_simp
                      with_reducible rfl
                     rotate_left
                     ·simp only [Act.put,List.setIfInBounds_toArray,List.set_cons_zero,List.set_cons_succ,i64_w,i32_w]
                      rfl
                     refine pure_ (i:=11) (N:=some 57) (v:=?_) (a':=?_) #[true,true,true,true,false,true,true,true,false,true,true,true,false,false,false,false,false,false,false,false,false,false,false] rfl rfl (any_of HT_.out (by kernel_rfl)) (fun _ _ _ h=>h) (Or.inl ⟨by rfl,?_⟩) ?_ ?_
                     rotate_left
                     ·intro w'
                      go_simp
                      with_reducible rfl
                     rotate_left
                     ·simp only [Act.put,List.setIfInBounds_toArray,List.set_cons_zero,List.set_cons_succ,i64_w,i32_w]
                      rfl
                     refine pure_ (i:=12) (N:=some 58) (v:=?_) (a':=?_) #[true,true,true,true,false,true,true,true,false,true,true,true,true,false,false,false,false,false,false,false,false,false,false] rfl rfl (any_of HT_.out (by kernel_rfl)) (fun _ _ _ h=>h) (Or.inl ⟨by rfl,?_⟩) ?_ ?_
                     rotate_left
                     ·intro w'
                      go_simp
                      with_reducible rfl
                     rotate_left
                     ·simp only [Act.put,List.setIfInBounds_toArray,List.set_cons_zero,List.set_cons_succ,i64_w,i32_w]
                      rfl
                     refine pure_ (i:=16) (N:=some 62) (v:=?_) (a':=?_) #[true,true,true,true,false,true,true,true,false,true,true,true,true,false,false,false,true,false,false,false,false,false,false] rfl rfl (any_of HT_.out (by kernel_rfl)) (fun _ _ _ h=>h) (Or.inl ⟨by rfl,?_⟩) ?_ ?_
                     rotate_left
                     ·intro w'
                      go_simp
                      with_reducible rfl
                     rotate_left
                     ·simp only [Act.put,List.setIfInBounds_toArray,List.set_cons_zero,List.set_cons_succ,i64_w,i32_w]
                      rfl
                     refine pure_ (i:=17) (N:=some 63) (v:=?_) (a':=?_) #[true,true,true,true,false,true,true,true,false,true,true,true,true,false,false,false,true,true,false,false,false,false,false] rfl rfl (any_of HT_.out (by kernel_rfl)) (fun _ _ _ h=>h) (Or.inl ⟨by rfl,?_⟩) ?_ ?_
                     rotate_left
                     ·intro w'
                      go_simp
                      with_reducible rfl
                     rotate_left
                     ·simp only [Act.put,List.setIfInBounds_toArray,List.set_cons_zero,List.set_cons_succ,i64_w,i32_w]
                      rfl
                     refine pure_ (i:=18) (N:=some 64) (v:=?_) (a':=?_) #[true,true,true,true,false,true,true,true,false,true,true,true,true,false,false,false,true,true,true,false,false,false,false] rfl rfl (any_of HT_.out (by kernel_rfl)) (fun _ _ _ h=>h) (Or.inl ⟨by rfl,?_⟩) ?_ ?_
                     rotate_left
                     ·intro w'
                      go_simp
                      with_reducible rfl
                     rotate_left
                     ·simp only [Act.put,List.setIfInBounds_toArray,List.set_cons_zero,List.set_cons_succ,i64_w,i32_w]
                      rfl
                     refine take_ (i:=4) (N:=some 50) (v:=?_) (a':=?_) #[true,true,true,true,true,true,true,true,false,true,true,true,true,false,false,false,true,true,true,false,false,false,false] rfl rfl (take_ofW HT_.out HW_.out (by kernel_rfl)) (fun _ _ _ h=>h) (Or.inl ⟨by rfl,?_⟩) hHeld ?_ ?_
                     rotate_left
                     ·rintro w' ⟨s0,s1⟩
                      go_simp
                      with_reducible rfl
                     rotate_left
                     ·simp only [Act.put,List.setIfInBounds_toArray,List.set_cons_zero,List.set_cons_succ,i64_w,i32_w]
                      rfl
                     refine take_ (i:=8) (N:=some 54) (v:=?_) (a':=?_) #[true,true,true,true,true,true,true,true,true,true,true,true,true,false,false,false,true,true,true,false,false,false,false] rfl rfl (take_ofW HT_.out HW_.out (by kernel_rfl)) (fun _ _ _ h=>h) (Or.inl ⟨by rfl,?_⟩) hHeld ?_ ?_
                     rotate_left
                     ·rintro w' ⟨s0,s1⟩
                      go_simp
                      with_reducible rfl
                     rotate_left
                     ·simp only [Act.put,List.setIfInBounds_toArray,List.set_cons_zero,List.set_cons_succ,i64_w,i32_w]
                      rfl
                     refine pure_ (i:=13) (N:=some 59) (v:=?_) (a':=?_) #[true,true,true,true,true,true,true,true,true,true,true,true,true,true,false,false,true,true,true,false,false,false,false] rfl rfl (any_of HT_.out (by kernel_rfl)) (fun _ _ _ h=>h) (Or.inl ⟨by rfl,?_⟩) ?_ ?_
                     rotate_left
                     ·intro w'
                      go_simp
                      with_reducible rfl
                     rotate_left
                     ·simp only [Act.put,List.setIfInBounds_toArray,List.set_cons_zero,List.set_cons_succ,i64_w,i32_w]
                      rfl
                     refine pure_ (i:=14) (N:=some 60) (v:=?_) (a':=?_) #[true,true,true,true,true,true,true,true,true,true,true,true,true,true,true,false,true,true,true,false,false,false,false] rfl rfl (any_of HT_.out (by kernel_rfl)) (fun _ _ _ h=>h) (Or.inl ⟨by rfl,?_⟩) ?_ ?_
                     rotate_left
                     ·intro w'
                      go_simp
                      with_reducible rfl
                     rotate_left
                     ·simp only [Act.put,List.setIfInBounds_toArray,List.set_cons_zero,List.set_cons_succ,i64_w,i32_w]
                      rfl
                     refine pure_ (i:=15) (N:=some 61) (v:=?_) (a':=?_) #[true,true,true,true,true,true,true,true,true,true,true,true,true,true,true,true,true,true,true,false,false,false,false] rfl rfl (any_of HT_.out (by kernel_rfl)) (fun _ _ _ h=>h) (Or.inl ⟨by rfl,?_⟩) ?_ ?_
                     rotate_left
                     ·intro w'
                      go_simp
                      with_reducible rfl
                     rotate_left
                     ·simp only [Act.put,List.setIfInBounds_toArray,List.set_cons_zero,List.set_cons_succ,i64_w,i32_w]
                      rfl
                     refine pure_ (i:=19) (N:=some 65) (v:=?_) (a':=?_) #[true,true,true,true,true,true,true,true,true,true,true,true,true,true,true,true,true,true,true,true,false,false,false] rfl rfl (any_of HT_.out (by kernel_rfl)) (fun _ _ _ h=>h) (Or.inl ⟨by rfl,?_⟩) ?_ ?_
                     rotate_left
                     ·intro w'
                      go_simp
                      with_reducible rfl
                     rotate_left
                     ·simp only [Act.put,List.setIfInBounds_toArray,List.set_cons_zero,List.set_cons_succ,i64_w,i32_w]
                      rfl
                     refine pure_ (i:=20) (N:=some 66) (v:=?_) (a':=?_) #[true,true,true,true,true,true,true,true,true,true,true,true,true,true,true,true,true,true,true,true,true,false,false] rfl rfl (any_of HT_.out (by kernel_rfl)) (fun _ _ _ h=>h) (Or.inl ⟨by rfl,?_⟩) ?_ ?_
                     rotate_left
                     ·intro w'
                      go_simp
                      with_reducible rfl
                     rotate_left
                     ·simp only [Act.put,List.setIfInBounds_toArray,List.set_cons_zero,List.set_cons_succ,i64_w,i32_w]
                      rfl
                     refine pure_ (i:=21) (N:=some 67) (v:=?_) (a':=?_) #[true,true,true,true,true,true,true,true,true,true,true,true,true,true,true,true,true,true,true,true,true,true,false] rfl rfl (any_of HT_.out (by kernel_rfl)) (fun _ _ _ h=>h) (Or.inl ⟨by rfl,?_⟩) ?_ ?_
                     rotate_left
                     ·intro w'
                      go_simp
                      with_reducible rfl
                     rotate_left
                     ·simp only [Act.put,List.setIfInBounds_toArray,List.set_cons_zero,List.set_cons_succ,i64_w,i32_w]
                      rfl
                     refine last_ (i:=22) (N:=none) #[true,true,true,true,true,true,true,true,true,true,true,true,true,true,true,true,true,true,true,true,true,true,true] rfl rfl (one_of HT_.out (by kernel_rfl)) (by decide) (fun K hK=>?_)
                     refine skip_ (w1:=?_) (by rfl) rfl ?_ ?_
                     rotate_left
                     ·go_simp
                      rfl
                     refine hK.out _ _ ?_
                     clear hK K
                     refine done_ (done_of HT_.out (by kernel_rfl)) ?_
                     try go_wp2
                     go_roundg k2
                     case measure=>have:=HK1.out;have:=HK2.out;omega
                     case rel=>exact ⟨(y131),(wrap64 (x9_2 + 1)),(wrap64 (x43_2 + 1)),(by first|rfl|(simp;done)|(simp [*];done)),(by first|rfl|(simp;done)|(simp [*];done)),H',⟨by have:=HK1.out;have:=HK2.out;omega⟩,⟨by (with_reducible repeat (first|apply zrA|apply zrN|apply zrD));exact HQ31.out⟩,⟨by repeat (first|(with_reducible first|exact HB.out|apply zlA|apply zlN|apply zlD|refine zlS ?_ GB28.out)|exact HB.out)⟩⟩
                    ·rw [if_neg c26] at H
                     exact absurd H (by simp)
                   ·rw [if_neg c23] at H
                    exact absurd H (by simp)
                  ·rw [if_neg c21] at H
                   exact absurd H (by simp)
                 ·rw [if_neg c20] at H
                  exact absurd H (by simp)
                ·rw [if_neg c19] at H
                 exact absurd H (by simp)
               ·rw [if_neg c18] at H
                exact absurd H (by simp)
              ·rw [if_neg c16] at H
               have c16b0:decide (x43_2 < (rd l0 x30_1))=false:=decide_eq_false c16
               clear c16
               have H':=zm H
               clear H
               go_wp2
               go_roundg k2
               case measure=>have:=HK1.out;have:=HK2.out;omega
               case rel=>exact ⟨(x8_2),(x9_2),(wrap64 (x30_1 + 1)),(by first|rfl|(simp;done)|(simp [*];done)),(by first|rfl|(simp;done)|(simp [*];done)),H',⟨by have:=HK1.out;have:=HK2.out;omega⟩,⟨by (with_reducible repeat (first|apply zrA|apply zrN|apply zrD));exact HO_8.out⟩,⟨by repeat (first|(with_reducible first|exact HB.out|apply zlA|apply zlN|apply zlD)|exact HB.out)⟩⟩
          ·rw [if_neg c13] at H
           exact absurd H (by simp)
         ·rw [if_neg c12] at H
          exact absurd H (by simp)
        ·rw [if_neg c11] at H
         exact absurd H (by simp)
       ·rw [if_neg c10] at H
        have c10b0:decide (x30_1 < (l0.length:Int))=false:=decide_eq_false c10
        clear c10
        simp only [Option.some.injEq,Prod.mk.injEq] at H
        obtain ⟨rfl,rfl⟩:=H
        go_wp2
        go_ret2
        exact ⟨_,by first|rfl|(simp [errW_none,errW_some] <;> rfl)|(simp [*,errW_none,errW_some] <;> rfl),by (with_reducible repeat (first|apply zrA|apply zrN|apply zrD));exact HO_8.out,by repeat (first|(with_reducible first|exact HB.out|apply zlA|apply zlN|apply zlD)|exact HB.out)⟩
    ·rw [if_neg c7] at H
     exact absurd H (by simp)
   ·rw [if_neg c6] at H
    exact absurd H (by simp)
  ·rw [if_neg c5] at H
   have c5b0:((l1.length:Int) == (l0.length:Int))=false:=beq_eq_false_iff_ne.mpr c5
   have c5b1:((l1.length:Int) != (l0.length:Int))=true:=bne_iff_ne.mpr c5
   have c5b2:(l1.length == l0.length)=false:=by first|simpa using c5|(simp at c5 ⊢;omega)
   simp only [Option.some.injEq,Prod.mk.injEq] at H
   obtain ⟨rfl,rfl⟩:=H
   go_enter Try.func30,Try.ntmps30
   go_wp2_with (first|((with_reducible refine gate_callee (f:=31) rfl ?_);refine goesL_ (some 15) rfl rfl Try.func31 (by kernel_rfl) rfl #[.slice A0 l0.length c0] rfl (by (try simp only [List.map_toArray,List.map_cons,List.map_nil]);first|done|rfl|(simp only [List.length_drop,List.length_take];rfl)) ?_;(with_reducible refine (seal_Width.calls k _ _ l0 t121 t122 _ ?side1 ?side2 A3.out).mono ?_);(case side1=>repeat (first|exact HR0.out|(with_reducible refine Kd.C_alloc ?_ _)|(with_reducible refine Kd.C_drewN ?_ _)|(with_reducible refine Kd.C_drew ?_)));(case side2=>exact HC0.out);rintro e w' ⟨rfl,⟨nd,rfl⟩⟩;refine ⟨_,rfl,?_⟩))
   go_ret2
   exact ⟨_,by first|rfl|(simp [errW_none,errW_some] <;> rfl)|(simp [*,errW_none,errW_some] <;> rfl),by first|exact Kd.R_nil _ _ _ _ _|exact Kd.N_nil _ _ _ _ _|exact Kd.V_nil _ _ _ _ _|exact Kd.Q_nil _ _ _ _ _|exact Kd.S_nil _ _ _ _ _,by repeat (first|(with_reducible first|exact HB.out|apply zlA|apply zlN|apply zlD)|exact HB.out)⟩
 ·rw [if_neg c4] at H
  have c4b0:(t122 == 0)=false:=beq_eq_false_iff_ne.mpr c4
  have c4b1:(t122 != 0)=true:=bne_iff_ne.mpr c4
  simp only [Option.some.injEq,Prod.mk.injEq] at H
  obtain ⟨rfl,rfl⟩:=H
  go_enter Try.func30,Try.ntmps30
  go_wp2_with (first|((with_reducible refine gate_callee (f:=31) rfl ?_);refine goesL_ (some 15) rfl rfl Try.func31 (by kernel_rfl) rfl #[.slice A0 l0.length c0] rfl (by (try simp only [List.map_toArray,List.map_cons,List.map_nil]);first|done|rfl|(simp only [List.length_drop,List.length_take];rfl)) ?_;(with_reducible refine (seal_Width.calls k _ _ l0 t121 t122 _ ?side1 ?side2 A3.out).mono ?_);(case side1=>repeat (first|exact HR0.out|(with_reducible refine Kd.C_alloc ?_ _)|(with_reducible refine Kd.C_drewN ?_ _)|(with_reducible refine Kd.C_drew ?_)));(case side2=>exact HC0.out);rintro e w' ⟨rfl,⟨nd,rfl⟩⟩;refine ⟨_,rfl,?_⟩))
  go_ret2
  exact ⟨_,by first|rfl|(simp [errW_none,errW_some] <;> rfl)|(simp [*,errW_none,errW_some] <;> rfl),by first|exact Kd.R_nil _ _ _ _ _|exact Kd.N_nil _ _ _ _ _|exact Kd.V_nil _ _ _ _ _|exact Kd.Q_nil _ _ _ _ _|exact Kd.S_nil _ _ _ _ _,by repeat (first|(with_reducible first|exact HB.out|apply zlA|apply zlN|apply zlD)|exact HB.out)⟩
end Go.Proofs.Ytjoojmodghpimaa.Print
end
