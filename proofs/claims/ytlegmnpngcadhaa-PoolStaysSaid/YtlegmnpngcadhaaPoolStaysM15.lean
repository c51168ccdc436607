/- Texts of the proof of PoolStays, part 15. -/
import Derived.Test.YtlegmnpngcadhaaPoolStaysMA
import Derived.Test.YtlegmnpngcadhaaPoolStaysM14
section
namespace Go.Proofs.Ytlegmnpngcadhaa.Print
open Go.RowKit Go.Proofs.YtlegmnpngcadhaaW.PrintWords Go.Proofs.YtlegmnpngcadhaaW.PrintLast Go.Proofs.YtlegmnpngcadhaaW.PrintMore
attribute [local go_sem] max2_int min2_int max_two min_two max_three min_three max_four min_four   -- for this text's walks alone
attribute [local go_sem ↓] Go.Proofs.Ytlegmnpngcadhaa.Sem.isSome_setCell
attribute [local go_sem] Go.Instr.field Go.asAgg
set_option linter.unusedVariables false
set_option linter.unusedSimpArgs false
def pool_New.l0:Nat → Int → List Int → Int → Int → List Int → List Int → Option (List Int × List Int × Int)
 | 0,_,_,_,_,_,_=>none
 | k + 1,x0,x19,x20,x21,x118000,x118001=>if x21 < x20 then (if 0≤x21 then (if x21 < (x19.length:Int) then (if (rd x19 x21) < 0 then (some (([]:List Int),([]:List Int),22)) else (if (rd x19 x21) ≥ x0 then (some (([]:List Int),([]:List Int),22)) else (if 0≤(rd x19 x21) then (if (rd x19 x21) < (x118000.length:Int) then (if (rd x118000 (rd x19 x21))=6 then (some (([]:List Int),([]:List Int),22)) else (pool_New.l0 k x0 x19 x20 (wrap64 (x21 + 1)) (x118000.set ((rd x19 x21):Int).toNat 6) x118001)) else (none)) else (none)))) else (none)) else (none)) else (some (x118000,x118001,0))
def pool_New.f (k:Nat) (a0:Int) (l1:List Int):Option (List Int × List Int × Int):=(pool_blocks.f a0).bind fun t107=>(if t107=true then ((slices_Repeat_int_int.f (([1]:List Int)) a0).bind fun t111=>(if 0≤a0 then (if (a0:Int).toNat≤35184372088832 then (pool_New.l0 k a0 l1 (l1.length:Int) 0 t111 (List.replicate (a0:Int).toNat 0)) else (none)) else (none))) else (some (([]:List Int),([]:List Int),20)))
theorem pool_New.mono_l:∀ k,(∀ y0 y1 y2 y3 y4 y5,LeO (pool_New.l0 k y0 y1 y2 y3 y4 y5) (pool_New.l0 (k + 1) y0 y1 y2 y3 y4 y5))
 | 0=>fun _ _ _ _ _ _ r h=>by simp [pool_New.l0] at h
 | k + 1=>by
  have ih0:=pool_New.mono_l k
  ·intro y0 y1 y2 y3 y4 y5
   unfold pool_New.l0
   repeat' first
   | (with_reducible exact ih0 _ _ _ _ _ _)
   | (with_reducible exact LeO.refl _)
   | (with_reducible exact LeO.none _)
   | (with_reducible refine LeO.ite ?_ ?_)
   | (with_reducible refine LeO.bind ?_ (fun _=>?_))
   | exact ih0 _ _ _ _ _ _
   | exact LeO.none _
   | refine LeO.ite ?_ ?_
   | refine LeO.bind ?_ (fun _=>?_)
theorem pool_New.mono:∀ a0 a1 k,LeO (pool_New.f k a0 a1) (pool_New.f (k + 1) a0 a1):=by
 intro a0 a1 k
 have ih0:=pool_New.mono_l k
 unfold pool_New.f
 repeat' first
   | (with_reducible exact ih0 _ _ _ _ _ _)
   | (with_reducible exact LeO.refl _)
   | (with_reducible exact LeO.none _)
   | (with_reducible refine LeO.ite ?_ ?_)
   | (with_reducible refine LeO.bind ?_ (fun _=>?_))
   | exact ih0 _ _ _ _ _ _
   | exact LeO.none _
   | refine LeO.ite ?_ ?_
   | refine LeO.bind ?_ (fun _=>?_)
def pool_New.T3:Bool × List (List Nat × List Nat):=(true,[([],[]),([],[]),([0,1],[0,1]),([],[]),([3,3],[3]),([2,4],[2,4]),([],[]),([6,5,2,0,1,2,3,4,5,6],[5,6])])
def pool_New.B3:List Nat:=[0,0,3,0,8,31,0,127]
theorem pool_New.tab3:rtab .any (opsOf Try.f8 3)=pool_New.T3:=by kernel_rfl
theorem pool_New.bits3:waitsOk pool_New.T3.2 pool_New.B3=true:=by kernel_rfl
set_option maxHeartbeats 8000000 in
set_option maxRecDepth 100000 in
theorem pool_New.calls (k:Nat) (a0:Int) (A1:Option Addr) (c1:Nat) (l1:List Int) (r1:List Int) (r2:List Int) (r3:Int) (w:World) (hr1:Kd.C (Kd.int .i64) w A1 l1.length l1) (hc1:l1.length≤c1) (h:pool_New.f k a0 l1=some (r1,r2,r3)) :
  Calls Try.prog 8 #[.int .i64 a0,.slice A1 l1.length c1] w fun e w'=>∃ v0_ v1_:Value,e=.returned (.tuple #[.agg #[v0_,v1_],.int .i64 r3])∧Kd.R (Kd.int .i64) 3 w' w.heap.size (fun _=>True) v0_ r1∧Kd.R (Kd.int .i64) 2 w' w.heap.size (fun _=>True) v1_ r2∧Below w.heap.size w w':=by
 have hu25:=Try.underlying25
 have HR1:=zm hr1
 have HC1:=zm hc1
 clear hr1 hc1
 have HB:=zm (Below.refl w.heap.size w)
 have H:((pool_blocks.f a0).bind fun t107=>(if t107=true then ((slices_Repeat_int_int.f (([1]:List Int)) a0).bind fun t111=>(if 0≤a0 then (if (a0:Int).toNat≤35184372088832 then (pool_New.l0 k a0 l1 (l1.length:Int) 0 t111 (List.replicate (a0:Int).toNat 0)) else (none)) else (none))) else (some (([]:List Int),([]:List Int),20))))=some (r1,r2,r3):=h
 clear h
 replace H:=Option.bind_eq_some_iff.mp H
 obtain ⟨t107,A30,H⟩:=H
 replace H:(if t107=true then ((slices_Repeat_int_int.f (([1]:List Int)) a0).bind fun t111=>(if 0≤a0 then (if (a0:Int).toNat≤35184372088832 then (pool_New.l0 k a0 l1 (l1.length:Int) 0 t111 (List.replicate (a0:Int).toNat 0)) else (none)) else (none))) else (some (([]:List Int),([]:List Int),20)))=some (r1,r2,r3):=H
 have A3:=zm A30
 clear A30
 by_cases c4:t107=true
 ·subst c4
  have H1:((slices_Repeat_int_int.f (([1]:List Int)) a0).bind fun t111=>(if 0≤a0 then (if (a0:Int).toNat≤35184372088832 then (pool_New.l0 k a0 l1 (l1.length:Int) 0 t111 (List.replicate (a0:Int).toNat 0)) else (none)) else (none)))=some (r1,r2,r3):=by rw [if_pos rfl] at H;exact H
  clear H
  have H:=H1
  clear H1
  obtain ⟨y108,hy108⟩:∃ y_:List Int,y_=(([1]:List Int)):=⟨_,rfl⟩
  replace H:((slices_Repeat_int_int.f y108 a0).bind fun t111=>(if 0≤a0 then (if (a0:Int).toNat≤35184372088832 then (pool_New.l0 k a0 l1 (l1.length:Int) 0 t111 (List.replicate (a0:Int).toNat 0)) else (none)) else (none)))=some (r1,r2,r3):=by first|(rw [hy108];with_reducible exact H)|(have H2_:=(Option.bind_some _ _).symm.trans H;rw [hy108];with_reducible exact H2_)|(have H2_:=(Option.bind_some _ _).symm.trans H;with_reducible exact H2_)|with_reducible exact H|(rw [hy108];exact H)|exact H
  have Ny108:=zm hy108
  clear hy108
  replace H:=Option.bind_eq_some_iff.mp H
  obtain ⟨t111,A50,H⟩:=H
  replace H:(if 0≤a0 then (if (a0:Int).toNat≤35184372088832 then (pool_New.l0 k a0 l1 (l1.length:Int) 0 t111 (List.replicate (a0:Int).toNat 0)) else (none)) else (none))=some (r1,r2,r3):=H
  have A5:=zm A50
  clear A50
  by_cases c6:0≤a0
  ·rw [if_pos c6] at H
   have c6b0:=eq_true c6
   have c6b1:decide (0≤a0)=true:=decide_eq_true c6
   clear c6
   by_cases c7:(a0:Int).toNat≤35184372088832
   ·rw [if_pos c7] at H
    have c7b0:=eq_true c7
    have c7b1:decide ((a0:Int).toNat≤35184372088832)=true:=decide_eq_true c7
    clear c7
    obtain ⟨y114,hy114⟩:∃ y_:List Int,y_=(List.replicate (a0:Int).toNat 0):=⟨_,rfl⟩
    replace H:(pool_New.l0 k a0 l1 (l1.length:Int) 0 t111 y114)=some (r1,r2,r3):=by first|(rw [hy114];with_reducible exact H)|(have H2_:=(Option.bind_some _ _).symm.trans H;rw [hy114];with_reducible exact H2_)|(have H2_:=(Option.bind_some _ _).symm.trans H;with_reducible exact H2_)|with_reducible exact H|(rw [hy114];exact H)|exact H
    have Ny114:=zm hy114
    clear hy114
    have H':=zm H
    clear H
    go_enter Try.func8,Try.ntmps8
    try go_wp2_with (first|((with_reducible refine gate_dst (N:=4) rfl ?_);refine box_event ?hg (N:=4) ?hd (cs:=#[.slice none 0 0,.slice none 0 0]) (t:=25) ?hr ?_;(case hd=>rfl);(case hg=>rfl);(case hr=>first|(go_simp;done)|(go_simp;rfl));intro gb106 hg w8 hbox hb;have n0_:=zm (below_step (by repeat (first|(with_reducible first|exact HB.out|apply zlA|apply zlN|apply zlD)|exact HB.out)) hb);have n1_:=zm (hbox);have n2_:=zm ((by rw [hg];exact (below_size (by repeat (first|(with_reducible first|exact HB.out|apply zlA|apply zlN|apply zlD)|exact HB.out))):w.heap.size≤gb106));have n3_:=zm ((by rw [hg];exact (below_size (by repeat (first|(with_reducible first|exact HB.out|apply zlA|apply zlN|apply zlD)|exact HB.out))):w.heap.size≤gb106));clear HB;have HB:=n0_;have BK106:=n1_;have GW106:=n2_;have GE106:=n3_;clear n0_ n1_ n2_ n3_;clear hb hbox hg)|((with_reducible refine gate_callee (f:=35) rfl ?_);refine goesL_ (some 10) rfl rfl Try.func35 (by kernel_rfl) rfl #[.int .i64 a0] rfl (by (try simp only [List.map_toArray,List.map_cons,List.map_nil]);first|done|rfl|(simp only [List.length_drop,List.length_take];rfl)) ?_;(with_reducible refine (pool_blocks.calls a0 true _ A3.out).mono ?_);rintro e w' ⟨rfl,⟨nd,rfl⟩⟩;refine ⟨_,rfl,?_⟩;(try (rw [drewN_self w8];generalize hq_:World.drewN w8 _=w8;have n0_:Aside0 (w8.heap[gb106]?=some (.cells #[.slice none 0 0,.slice none 0 0] 25 (0,0))):=⟨by rw [← hq_];exact (by (with_reducible repeat (first|refine zbN ?_ _|refine zbD ?_|refine zbA ?_ _));exact BK106.out)⟩;have n1_:Aside0 (Below w.heap.size w w8):=⟨by rw [← hq_];exact (by repeat (first|(with_reducible first|exact HB.out|apply zlA|apply zlN|apply zlD|refine zlS ?_ GE106.out)|exact HB.out))⟩;clear BK106 HB hq_;have BK106:=n0_;have HB:=n1_;clear n0_ n1_))))
    have n0_:=zm (zbD BK106.out)
    have n1_:=zm (zlD HB.out)
    clear BK106 HB
    have BK106:=n0_
    have HB:=n1_
    clear n0_ n1_
    refine start_ (n:=8) (S:=fun w'=>True) (ds:=[]) #[false,false,false,false,false,false,false,false] (by kernel_rfl) rfl rfl trivial (fun hHeld=>?_);refine with_tabW pool_New.tab3 pool_New.bits3 (fun HT_ HW_=>?_)
    generalize w8.drew=w9 at BK106 HB hHeld ⊢
    refine pure_ (i:=1) (N:=some 14) (v:=?_) (a':=?_) #[false,true,false,false,false,false,false,false] rfl rfl (any_of HT_.out (by kernel_rfl)) (fun _ _ _ h=>h) (Or.inl ⟨by rfl,?_⟩) ?_ ?_
    rotate_left
    ·intro w'
     go_simp
     with_reducible rfl
    rotate_left
    ·simp only [Act.put,List.setIfInBounds_toArray,List.set_cons_zero,List.set_cons_succ,i64_w,i32_w]
     rfl
    refine pure_ (i:=3) (N:=some 16) (v:=?_) (a':=?_) #[false,true,false,true,false,false,false,false] rfl rfl (any_of HT_.out (by kernel_rfl)) (fun _ _ _ h=>h) (Or.inl ⟨by rfl,?_⟩) ?_ ?_
    rotate_left
    ·intro w'
     go_simp
     with_reducible rfl
    rotate_left
    ·simp only [Act.put,List.setIfInBounds_toArray,List.set_cons_zero,List.set_cons_succ,i64_w,i32_w]
     rfl
    refine join_ (σ:=Value × Value × Value × Nat) 1 #[true,true,true,true,true,true,true,false] (fun s_=>[(13,s_.1),(15,s_.2.1),(17,s_.2.2.1),(6,.pointer (some ⟨s_.2.2.2,0,none⟩)),(18,.agg #[s_.2.1,s_.2.2.1])]) (fun s_ w'=>(Kd.R (Kd.int .i64) 3 w' w.heap.size (fun k_=>some k_≠(s_.2.1:Value).ownBlock) s_.1 y108)∧(Kd.R (Kd.int .i64) 3 w' w.heap.size (fun k_=>some k_≠(s_.1:Value).ownBlock) s_.2.1 t111)∧(Kd.R (Kd.int .i64) 2 w' w.heap.size (fun _=>True) s_.2.2.1 y114)∧(w'.heap[gb106]?=some (.cells #[.slice none 0 0,.slice none 0 0] 25 (0,0)))∧(w'.heap[s_.2.2.2]?=some (.cells #[.slice none 0 0,.slice none 0 0] 25 (0,0)))∧(w.heap.size≤s_.2.2.2)∧(w.heap.size≤s_.2.2.2)∧(gb106≠s_.2.2.2)∧(s_.2.2.2≠gb106)∧(Below w.heap.size w w')) ?_ ?_
    rotate_left
    ·intro hJ0_2_4_6
     refine join_ (σ:=Value × Value × Value) 2 #[true,true,true,true,true,true,false,false] (fun s_=>[(13,s_.1),(15,s_.2.1),(17,s_.2.2),(18,.agg #[s_.2.1,s_.2.2])]) (fun s_ w'=>(Kd.R (Kd.int .i64) 3 w' w.heap.size (fun k_=>some k_≠(s_.2.1:Value).ownBlock) s_.1 y108)∧(Kd.R (Kd.int .i64) 3 w' w.heap.size (fun k_=>some k_≠(s_.1:Value).ownBlock) s_.2.1 t111)∧(Kd.R (Kd.int .i64) 2 w' w.heap.size (fun _=>True) s_.2.2 y114)∧(w'.heap[gb106]?=some (.cells #[.slice none 0 0,.slice none 0 0] 25 (0,0)))∧(Below w.heap.size w w')) ?_ ?_
     rotate_left
     ·intro hJ0_2_4
      refine join_ (σ:=Value × Value × Nat) 3 #[true,true,true,true,false,false,true,false] (fun s_=>[(13,s_.1),(15,s_.2.1),(6,.pointer (some ⟨s_.2.2,0,none⟩))]) (fun s_ w'=>(Kd.R (Kd.int .i64) 3 w' w.heap.size (fun k_=>some k_≠(s_.2.1:Value).ownBlock) s_.1 y108)∧(Kd.R (Kd.int .i64) 3 w' w.heap.size (fun k_=>some k_≠(s_.1:Value).ownBlock) s_.2.1 t111)∧(w'.heap[gb106]?=some (.cells #[.slice none 0 0,.slice none 0 0] 25 (0,0)))∧(w'.heap[s_.2.2]?=some (.cells #[.slice none 0 0,.slice none 0 0] 25 (0,0)))∧(w.heap.size≤s_.2.2)∧(w.heap.size≤s_.2.2)∧(gb106≠s_.2.2)∧(s_.2.2≠gb106)∧(Below w.heap.size w w')) ?_ ?_
      rotate_left
      ·intro hJ0_2_6
       refine join_ (σ:=Value × Value × Nat) 3 #[true,true,false,true,true,false,true,false] (fun s_=>[(13,s_.1),(17,s_.2.1),(6,.pointer (some ⟨s_.2.2,0,none⟩))]) (fun s_ w'=>(Kd.R (Kd.int .i64) 3 w' w.heap.size (fun _=>True) s_.1 y108)∧(Kd.R (Kd.int .i64) 2 w' w.heap.size (fun _=>True) s_.2.1 y114)∧(w'.heap[gb106]?=some (.cells #[.slice none 0 0,.slice none 0 0] 25 (0,0)))∧(w'.heap[s_.2.2]?=some (.cells #[.slice none 0 0,.slice none 0 0] 25 (0,0)))∧(w.heap.size≤s_.2.2)∧(w.heap.size≤s_.2.2)∧(gb106≠s_.2.2)∧(s_.2.2≠gb106)∧(Below w.heap.size w w')) ?_ ?_
       rotate_left
       ·intro hJ0_4_6
        refine join_ (σ:=Value × Value) 4 #[true,true,true,true,false,false,false,false] (fun s_=>[(13,s_.1),(15,s_.2)]) (fun s_ w'=>(Kd.R (Kd.int .i64) 3 w' w.heap.size (fun k_=>some k_≠(s_.2:Value).ownBlock) s_.1 y108)∧(Kd.R (Kd.int .i64) 3 w' w.heap.size (fun k_=>some k_≠(s_.1:Value).ownBlock) s_.2 t111)∧(w'.heap[gb106]?=some (.cells #[.slice none 0 0,.slice none 0 0] 25 (0,0)))∧(Below w.heap.size w w')) ?_ ?_
        rotate_left
        ·intro hJ0_2
         refine join_ (σ:=Value × Value) 4 #[true,true,false,true,true,false,false,false] (fun s_=>[(13,s_.1),(17,s_.2)]) (fun s_ w'=>(Kd.R (Kd.int .i64) 3 w' w.heap.size (fun _=>True) s_.1 y108)∧(Kd.R (Kd.int .i64) 2 w' w.heap.size (fun _=>True) s_.2 y114)∧(w'.heap[gb106]?=some (.cells #[.slice none 0 0,.slice none 0 0] 25 (0,0)))∧(Below w.heap.size w w')) ?_ ?_
         rotate_left
         ·intro hJ0_4
          refine join_ (σ:=Value × Nat) 4 #[true,true,false,true,false,false,true,false] (fun s_=>[(13,s_.1),(6,.pointer (some ⟨s_.2,0,none⟩))]) (fun s_ w'=>(Kd.R (Kd.int .i64) 3 w' w.heap.size (fun _=>True) s_.1 y108)∧(w'.heap[gb106]?=some (.cells #[.slice none 0 0,.slice none 0 0] 25 (0,0)))∧(w'.heap[s_.2]?=some (.cells #[.slice none 0 0,.slice none 0 0] 25 (0,0)))∧(w.heap.size≤s_.2)∧(w.heap.size≤s_.2)∧(gb106≠s_.2)∧(s_.2≠gb106)∧(Below w.heap.size w w')) ?_ ?_
          rotate_left
          ·intro hJ0_6
           refine join_ (σ:=Value × Nat) 4 #[false,true,false,true,true,false,true,false] (fun s_=>[(17,s_.1),(6,.pointer (some ⟨s_.2,0,none⟩))]) (fun s_ w'=>(Kd.R (Kd.int .i64) 2 w' w.heap.size (fun _=>True) s_.1 y114)∧(w'.heap[gb106]?=some (.cells #[.slice none 0 0,.slice none 0 0] 25 (0,0)))∧(w'.heap[s_.2]?=some (.cells #[.slice none 0 0,.slice none 0 0] 25 (0,0)))∧(w.heap.size≤s_.2)∧(w.heap.size≤s_.2)∧(gb106≠s_.2)∧(s_.2≠gb106)∧(Below w.heap.size w w')) ?_ ?_
           rotate_left
           ·intro hJ4_6
            refine join_ (σ:=Value) 5 #[true,true,false,true,false,false,false,false] (fun s_=>[(13,s_)]) (fun s_ w'=>(Kd.R (Kd.int .i64) 3 w' w.heap.size (fun _=>True) s_ y108)∧(w'.heap[gb106]?=some (.cells #[.slice none 0 0,.slice none 0 0] 25 (0,0)))∧(Below w.heap.size w w')) ?_ ?_
            rotate_left
            ·intro hJ0
             refine join_ (σ:=Value) 5 #[false,true,false,true,true,false,false,false] (fun s_=>[(17,s_)]) (fun s_ w'=>(Kd.R (Kd.int .i64) 2 w' w.heap.size (fun _=>True) s_ y114)∧(w'.heap[gb106]?=some (.cells #[.slice none 0 0,.slice none 0 0] 25 (0,0)))∧(Below w.heap.size w w')) ?_ ?_
             rotate_left
             ·intro hJ4
              refine join_ (σ:=Nat) 5 #[false,true,false,true,false,false,true,false] (fun s_=>[(6,.pointer (some ⟨s_,0,none⟩))]) (fun s_ w'=>(w'.heap[gb106]?=some (.cells #[.slice none 0 0,.slice none 0 0] 25 (0,0)))∧(w'.heap[s_]?=some (.cells #[.slice none 0 0,.slice none 0 0] 25 (0,0)))∧(w.heap.size≤s_)∧(w.heap.size≤s_)∧(gb106≠s_)∧(s_≠gb106)∧(Below w.heap.size w w')) ?_ ?_
              rotate_left
              ·intro hJ6
               refine three_ (i:=0) (j:=4) (k:=6) (Ni:=some 13) (Nj:=some 17) (Nk:=some 6) #[true,true,false,true,false,false,false,false] #[false,true,false,true,true,false,false,false] #[false,true,false,true,false,false,true,false] rfl rfl rfl rfl rfl rfl (three_of HT_.out (by kernel_rfl)) (by decide) (by decide) (by decide) (fun K hK=>?_) (fun K hK=>?_) (fun K hK=>?_)
               ·skip
                refine Kd.R_lit_step (Kd.int .i64) _ 3 ?hg (N:=13) ?hd (xs:=([1]:List Int)) (inner:=[.int .i64 1]) (ok:=fun _=>True) (okp:=fun _=>True) ?hr ?hp (fun _ hk=>hk) trivial (Below.refl _ _) (Nat.le_refl _) (by simp) ?_;(case hd=>rfl);(case hg=>rfl);(case hr=>first|(go_simp;done)|(go_simp;rfl));(case hp=>exact (Reps.one (show Kd.M (Kd.int .i64) _ _ _ 1 [.int .i64 1] from rfl) (Reps.none _ _)))
                intro v109 w10 ho11 hb hg_ hnew_
                clear hg_ hnew_
                (first|rw [← Ny108.out] at ho11|(simp only [Int.reduceToNat] at ho11;rw [← Ny108.out] at ho11))
                have n0_:=zm (Kd.R_lower ho11 (below_size (by repeat (first|(with_reducible first|exact HB.out|apply zlA|apply zlN|apply zlD|refine zlS ?_ GE106.out)|exact HB.out))))
                have n1_:=zm (zbB (g:=gb106) (o:=.cells #[.slice none 0 0,.slice none 0 0] 25 (0,0)) (by (with_reducible repeat (first|refine zbN ?_ _|refine zbD ?_|refine zbA ?_ _));exact BK106.out) hb)
                have n2_:=zm (below_step (by repeat (first|(with_reducible first|exact HB.out|apply zlA|apply zlN|apply zlD|refine zlS ?_ GE106.out)|exact HB.out)) hb)
                clear BK106 HB
                have HO110:=n0_
                have BK106:=n1_
                have HB:=n2_
                clear n0_ n1_ n2_ hb ho11
                refine hK.out _ _ trivial (fun hHeld=>?_)
                clear hK K
                refine norm_ (a':=?_) ?_ ?_
                rotate_left
                ·show Act.put _ (some 13) _=_
                 simp only [Act.put,List.setIfInBounds_toArray,List.set_cons_zero,List.set_cons_succ,i64_w,i32_w]
                 rfl
                exact norm_ (by first|(simp only [putAll,Act.put,List.setIfInBounds_toArray,List.set_cons_zero,List.set_cons_succ];done)|(simp only [putAll,Act.put,List.setIfInBounds_toArray,List.set_cons_zero,List.set_cons_succ];rfl)) (hJ0 (v109) _ ⟨(by (with_reducible repeat (first|apply zrA|apply zrN|apply zrD));exact HO110.out),(by (with_reducible repeat (first|refine zbN ?_ _|refine zbD ?_|refine zbA ?_ _));exact BK106.out),(by repeat (first|(with_reducible first|exact HB.out|apply zlA|apply zlN|apply zlD|refine zlS ?_ GE106.out)|exact HB.out))⟩)
               ·skip
                refine Kd.R_make_step (Kd.int .i64) _ 2 (by rfl) (N:=17) rfl 23 _ _ rfl a0 rfl rfl Try.underlying23 (.int .i64 0) 8 info2 rfl (by decide) (by omega) 0 (ok:=fun _=>True) (okp:=fun _=>True) rfl (fun _ hk=>hk) trivial (of_decide_eq_true (by first|(with_reducible assumption)|assumption)) (Nat.le_trans (Nat.mul_le_mul_right _ (of_decide_eq_true (by first|(with_reducible assumption)|assumption):a0.toNat≤35184372088832)) (by omega)) (Below.refl _ _) (Nat.le_refl _) ?_
                intro v115 w10 ho11 hb hg_ hnew_
                clear hg_ hnew_
                (first|rw [← Ny114.out] at ho11|(simp only [Int.reduceToNat] at ho11;rw [← Ny114.out] at ho11))
                have n0_:=zm (Kd.R_lower ho11 (below_size (by repeat (first|(with_reducible first|exact HB.out|apply zlA|apply zlN|apply zlD|refine zlS ?_ GE106.out)|exact HB.out))))
                have n1_:=zm (zbB (g:=gb106) (o:=.cells #[.slice none 0 0,.slice none 0 0] 25 (0,0)) (by (with_reducible repeat (first|refine zbN ?_ _|refine zbD ?_|refine zbA ?_ _));exact BK106.out) hb)
                have n2_:=zm (below_step (by repeat (first|(with_reducible first|exact HB.out|apply zlA|apply zlN|apply zlD|refine zlS ?_ GE106.out)|exact HB.out)) hb)
                clear BK106 HB
                have HO116:=n0_
                have BK106:=n1_
                have HB:=n2_
                clear n0_ n1_ n2_ hb ho11
                refine hK.out _ _ trivial (fun hHeld=>?_)
                clear hK K
                refine norm_ (a':=?_) ?_ ?_
                rotate_left
                ·show Act.put _ (some 17) _=_
                 simp only [Act.put,List.setIfInBounds_toArray,List.set_cons_zero,List.set_cons_succ,i64_w,i32_w]
                 rfl
                exact norm_ (by first|(simp only [putAll,Act.put,List.setIfInBounds_toArray,List.set_cons_zero,List.set_cons_succ];done)|(simp only [putAll,Act.put,List.setIfInBounds_toArray,List.set_cons_zero,List.set_cons_succ];rfl)) (hJ4 (v115) _ ⟨(by (with_reducible repeat (first|apply zrA|apply zrN|apply zrD));exact HO116.out),(by (with_reducible repeat (first|refine zbN ?_ _|refine zbD ?_|refine zbA ?_ _));exact BK106.out),(by repeat (first|(with_reducible first|exact HB.out|apply zlA|apply zlN|apply zlD|refine zlS ?_ GE106.out)|exact HB.out))⟩)
               ·skip
                refine box_step ?hg (N:=6) ?hd (cs:=#[.slice none 0 0,.slice none 0 0]) (t:=25) ?hr ?_;(case hd=>rfl);(case hg=>rfl);(case hr=>first|(go_simp;done)|(go_simp;rfl))
                intro gb117 hg w10 hbox hb
                have n0_:=zm (zbB (g:=gb106) (o:=.cells #[.slice none 0 0,.slice none 0 0] 25 (0,0)) (by (with_reducible repeat (first|refine zbN ?_ _|refine zbD ?_|refine zbA ?_ _));exact BK106.out) hb)
                have n1_:=zm (below_step (by repeat (first|(with_reducible first|exact HB.out|apply zlA|apply zlN|apply zlD|refine zlS ?_ GE106.out)|exact HB.out)) hb)
                have n2_:=zm (hbox)
                have n3_:=zm ((by rw [hg];exact (below_size (by repeat (first|(with_reducible first|exact HB.out|apply zlA|apply zlN|apply zlD|refine zlS ?_ GE106.out)|exact HB.out))):w.heap.size≤gb117))
                have n4_:=zm ((by rw [hg];exact (below_size (by repeat (first|(with_reducible first|exact HB.out|apply zlA|apply zlN|apply zlD|refine zlS ?_ GE106.out)|exact HB.out))):w.heap.size≤gb117))
                have n5_:=zm ((by rw [hg];exact Nat.ne_of_lt (blk_lt (g:=gb106) (o:=.cells #[.slice none 0 0,.slice none 0 0] 25 (0,0)) (by (with_reducible repeat (first|refine zbN ?_ _|refine zbD ?_|refine zbA ?_ _));exact BK106.out)):gb106≠gb117))
                have n6_:=zm ((by rw [hg];exact Nat.ne_of_gt (blk_lt (g:=gb106) (o:=.cells #[.slice none 0 0,.slice none 0 0] 25 (0,0)) (by (with_reducible repeat (first|refine zbN ?_ _|refine zbD ?_|refine zbA ?_ _));exact BK106.out)):gb117≠gb106))
                clear BK106 HB
                have BK106:=n0_
                have HB:=n1_
                have BK117:=n2_
                have GW117:=n3_
                have GE117:=n4_
                have NB106_117:=n5_
                have NB117_106:=n6_
                clear n0_ n1_ n2_ n3_ n4_ n5_ n6_ hb hbox hg
                refine hK.out _ _ trivial (fun hHeld=>?_)
                clear hK K
                refine norm_ (a':=?_) ?_ ?_
                rotate_left
                ·show Act.put _ (some 6) _=_
                 simp only [Act.put,List.setIfInBounds_toArray,List.set_cons_zero,List.set_cons_succ,i64_w,i32_w]
                 rfl
                exact norm_ (by first|(simp only [putAll,Act.put,List.setIfInBounds_toArray,List.set_cons_zero,List.set_cons_succ];done)|(simp only [putAll,Act.put,List.setIfInBounds_toArray,List.set_cons_zero,List.set_cons_succ];rfl)) (hJ6 (gb117) _ ⟨(by (with_reducible repeat (first|refine zbN ?_ _|refine zbD ?_|refine zbA ?_ _));exact BK106.out),(by (with_reducible repeat (first|refine zbN ?_ _|refine zbD ?_|refine zbA ?_ _));exact BK117.out),GW117.out,GE117.out,NB106_117.out,NB117_106.out,(by repeat (first|(with_reducible first|exact HB.out|apply zlA|apply zlN|apply zlD|refine zlS ?_ GE106.out|refine zlS ?_ GE117.out)|exact HB.out))⟩)
              ·skip
               rintro gb117 w11 ⟨h0_,h1_,h2_,h3_,h4_,h5_,h6_⟩
               have n0_:Aside0 (w11.heap[gb106]?=some (.cells #[.slice none 0 0,.slice none 0 0] 25 (0,0))):=⟨h0_⟩
               have n1_:Aside0 (w11.heap[gb117]?=some (.cells #[.slice none 0 0,.slice none 0 0] 25 (0,0))):=⟨h1_⟩
               have n2_:Aside0 (w.heap.size≤gb117):=⟨h2_⟩
               have n3_:Aside0 (w.heap.size≤gb117):=⟨h3_⟩
               have n4_:Aside0 (gb106≠gb117):=⟨h4_⟩
               have n5_:Aside0 (gb117≠gb106):=⟨h5_⟩
               have n6_:Aside0 (Below w.heap.size w w11):=⟨h6_⟩
               clear BK106 HB h0_ h1_ h2_ h3_ h4_ h5_ h6_
               have BK106:=n0_
               have BK117:=n1_
               have GW117:=n2_
               have GE117:=n3_
               have NB106_117:=n4_
               have NB117_106:=n5_
               have HB:=n6_
               clear n0_ n1_ n2_ n3_ n4_ n5_ n6_
               have hHeld:=trivial
               refine norm_ (a':=?_) ?_ ?_
               rotate_left
               ·simp only [putAll,Act.put,List.setIfInBounds_toArray,List.set_cons_zero,List.set_cons_succ]
                rfl
               refine two_ (i:=0) (j:=4) (Ni:=some 13) (Nj:=some 17) #[true,true,false,true,false,false,true,false] #[false,true,false,true,true,false,true,false] rfl rfl rfl rfl (two_of HT_.out (by kernel_rfl)) (by decide) (by decide) (fun K hK=>?_) (fun K hK=>?_)
               ·skip
                refine Kd.R_lit_step (Kd.int .i64) _ 3 ?hg (N:=13) ?hd (xs:=([1]:List Int)) (inner:=[.int .i64 1]) (ok:=fun _=>True) (okp:=fun _=>True) ?hr ?hp (fun _ hk=>hk) trivial (Below.refl _ _) (Nat.le_refl _) (by simp) ?_;(case hd=>rfl);(case hg=>rfl);(case hr=>first|(go_simp;done)|(go_simp;rfl));(case hp=>exact (Reps.one (show Kd.M (Kd.int .i64) _ _ _ 1 [.int .i64 1] from rfl) (Reps.none _ _)))
                intro v109 w12 ho13 hb hg_ hnew_
                clear hg_ hnew_
                (first|rw [← Ny108.out] at ho13|(simp only [Int.reduceToNat] at ho13;rw [← Ny108.out] at ho13))
                have n0_:=zm (Kd.R_lower ho13 (below_size (by repeat (first|(with_reducible first|exact HB.out|apply zlA|apply zlN|apply zlD|refine zlS ?_ GE106.out|refine zlS ?_ GE117.out)|exact HB.out))))
                have n1_:=zm (zbB (g:=gb106) (o:=.cells #[.slice none 0 0,.slice none 0 0] 25 (0,0)) (by (with_reducible repeat (first|refine zbN ?_ _|refine zbD ?_|refine zbA ?_ _));exact BK106.out) hb)
                have n2_:=zm (zbB (g:=gb117) (o:=.cells #[.slice none 0 0,.slice none 0 0] 25 (0,0)) (by (with_reducible repeat (first|refine zbN ?_ _|refine zbD ?_|refine zbA ?_ _));exact BK117.out) hb)
                have n3_:=zm (below_step (by repeat (first|(with_reducible first|exact HB.out|apply zlA|apply zlN|apply zlD|refine zlS ?_ GE106.out|refine zlS ?_ GE117.out)|exact HB.out)) hb)
                clear BK106 BK117 HB
                have HO110:=n0_
                have BK106:=n1_
                have BK117:=n2_
                have HB:=n3_
                clear n0_ n1_ n2_ n3_ hb ho13
                refine hK.out _ _ trivial (fun hHeld=>?_)
                clear hK K
                refine norm_ (a':=?_) ?_ ?_
                rotate_left
                ·show Act.put _ (some 13) _=_
                 simp only [Act.put,List.setIfInBounds_toArray,List.set_cons_zero,List.set_cons_succ,i64_w,i32_w]
                 rfl
                exact norm_ (by first|(simp only [putAll,Act.put,List.setIfInBounds_toArray,List.set_cons_zero,List.set_cons_succ];done)|(simp only [putAll,Act.put,List.setIfInBounds_toArray,List.set_cons_zero,List.set_cons_succ];rfl)) (hJ0_6 (v109,gb117) _ ⟨(by (with_reducible repeat (first|apply zrA|apply zrN|apply zrD));exact HO110.out),(by (with_reducible repeat (first|refine zbN ?_ _|refine zbD ?_|refine zbA ?_ _));exact BK106.out),(by (with_reducible repeat (first|refine zbN ?_ _|refine zbD ?_|refine zbA ?_ _));exact BK117.out),GW117.out,GE117.out,NB106_117.out,NB117_106.out,(by repeat (first|(with_reducible first|exact HB.out|apply zlA|apply zlN|apply zlD|refine zlS ?_ GE106.out|refine zlS ?_ GE117.out)|exact HB.out))⟩)
               ·skip
                refine Kd.R_make_step (Kd.int .i64) _ 2 (by rfl) (N:=17) rfl 23 _ _ rfl a0 rfl rfl Try.underlying23 (.int .i64 0) 8 info2 rfl (by decide) (by omega) 0 (ok:=fun _=>True) (okp:=fun _=>True) rfl (fun _ hk=>hk) trivial (of_decide_eq_true (by first|(with_reducible assumption)|assumption)) (Nat.le_trans (Nat.mul_le_mul_right _ (of_decide_eq_true (by first|(with_reducible assumption)|assumption):a0.toNat≤35184372088832)) (by omega)) (Below.refl _ _) (Nat.le_refl _) ?_
                intro v115 w12 ho13 hb hg_ hnew_
                clear hg_ hnew_
                (first|rw [← Ny114.out] at ho13|(simp only [Int.reduceToNat] at ho13;rw [← Ny114.out] at ho13))
                have n0_:=zm (Kd.R_lower ho13 (below_size (by repeat (first|(with_reducible first|exact HB.out|apply zlA|apply zlN|apply zlD|refine zlS ?_ GE106.out|refine zlS ?_ GE117.out)|exact HB.out))))
                have n1_:=zm (zbB (g:=gb106) (o:=.cells #[.slice none 0 0,.slice none 0 0] 25 (0,0)) (by (with_reducible repeat (first|refine zbN ?_ _|refine zbD ?_|refine zbA ?_ _));exact BK106.out) hb)
                have n2_:=zm (zbB (g:=gb117) (o:=.cells #[.slice none 0 0,.slice none 0 0] 25 (0,0)) (by (with_reducible repeat (first|refine zbN ?_ _|refine zbD ?_|refine zbA ?_ _));exact BK117.out) hb)
                have n3_:=zm (below_step (by repeat (first|(with_reducible first|exact HB.out|apply zlA|apply zlN|apply zlD|refine zlS ?_ GE106.out|refine zlS ?_ GE117.out)|exact HB.out)) hb)
                clear BK106 BK117 HB
                have HO116:=n0_
                have BK106:=n1_
                have BK117:=n2_
                have HB:=n3_
                clear n0_ n1_ n2_ n3_ hb ho13
                refine hK.out _ _ trivial (fun hHeld=>?_)
                clear hK K
                refine norm_ (a':=?_) ?_ ?_
                rotate_left
                ·show Act.put _ (some 17) _=_
                 simp only [Act.put,List.setIfInBounds_toArray,List.set_cons_zero,List.set_cons_succ,i64_w,i32_w]
                 rfl
                exact norm_ (by first|(simp only [putAll,Act.put,List.setIfInBounds_toArray,List.set_cons_zero,List.set_cons_succ];done)|(simp only [putAll,Act.put,List.setIfInBounds_toArray,List.set_cons_zero,List.set_cons_succ];rfl)) (hJ4_6 (v115,gb117) _ ⟨(by (with_reducible repeat (first|apply zrA|apply zrN|apply zrD));exact HO116.out),(by (with_reducible repeat (first|refine zbN ?_ _|refine zbD ?_|refine zbA ?_ _));exact BK106.out),(by (with_reducible repeat (first|refine zbN ?_ _|refine zbD ?_|refine zbA ?_ _));exact BK117.out),GW117.out,GE117.out,NB106_117.out,NB117_106.out,(by repeat (first|(with_reducible first|exact HB.out|apply zlA|apply zlN|apply zlD|refine zlS ?_ GE106.out|refine zlS ?_ GE117.out)|exact HB.out))⟩)
             ·skip
              rintro v115 w12 ⟨h0_,h1_,h2_⟩
              have n0_:Aside0 (Kd.R (Kd.int .i64) 2 w12 w.heap.size (fun _=>True) v115 y114):=⟨h0_⟩
              have n1_:Aside0 (w12.heap[gb106]?=some (.cells #[.slice none 0 0,.slice none 0 0] 25 (0,0))):=⟨h1_⟩
              have n2_:Aside0 (Below w.heap.size w w12):=⟨h2_⟩
              clear BK106 HB h0_ h1_ h2_
              have HO116:=n0_
              have BK106:=n1_
              have HB:=n2_
              clear n0_ n1_ n2_
              have hHeld:=trivial
              refine norm_ (a':=?_) ?_ ?_
              rotate_left
              ·simp only [putAll,Act.put,List.setIfInBounds_toArray,List.set_cons_zero,List.set_cons_succ]
               rfl
              refine two_ (i:=0) (j:=6) (Ni:=some 13) (Nj:=some 6) #[true,true,false,true,true,false,false,false] #[false,true,false,true,true,false,true,false] rfl rfl rfl rfl (two_of HT_.out (by kernel_rfl)) (by decide) (by decide) (fun K hK=>?_) (fun K hK=>?_)
              ·skip
               refine Kd.R_lit_step (Kd.int .i64) _ 3 ?hg (N:=13) ?hd (xs:=([1]:List Int)) (inner:=[.int .i64 1]) (ok:=fun _=>True) (okp:=fun _=>True) ?hr ?hp (fun _ hk=>hk) trivial (Below.refl _ _) (Nat.le_refl _) (by simp) ?_;(case hd=>rfl);(case hg=>rfl);(case hr=>first|(go_simp;done)|(go_simp;rfl));(case hp=>exact (Reps.one (show Kd.M (Kd.int .i64) _ _ _ 1 [.int .i64 1] from rfl) (Reps.none _ _)))
               intro v109 w13 ho14 hb hg_ hnew_
               clear hg_ hnew_
               (first|rw [← Ny108.out] at ho14|(simp only [Int.reduceToNat] at ho14;rw [← Ny108.out] at ho14))
               have n0_:=zm (Kd.R_below (by (with_reducible repeat (first|apply zrA|apply zrN|apply zrD));exact HO116.out) hb)
               have n1_:=zm (Kd.R_lower ho14 (below_size (by repeat (first|(with_reducible first|exact HB.out|apply zlA|apply zlN|apply zlD|refine zlS ?_ GE106.out)|exact HB.out))))
               have n2_:=zm (zbB (g:=gb106) (o:=.cells #[.slice none 0 0,.slice none 0 0] 25 (0,0)) (by (with_reducible repeat (first|refine zbN ?_ _|refine zbD ?_|refine zbA ?_ _));exact BK106.out) hb)
               have n3_:=zm (below_step (by repeat (first|(with_reducible first|exact HB.out|apply zlA|apply zlN|apply zlD|refine zlS ?_ GE106.out)|exact HB.out)) hb)
               clear HO116 BK106 HB
               have HO116:=n0_
               have HO110:=n1_
               have BK106:=n2_
               have HB:=n3_
               clear n0_ n1_ n2_ n3_ hb ho14
               refine hK.out _ _ trivial (fun hHeld=>?_)
               clear hK K
               refine norm_ (a':=?_) ?_ ?_
               rotate_left
               ·show Act.put _ (some 13) _=_
                simp only [Act.put,List.setIfInBounds_toArray,List.set_cons_zero,List.set_cons_succ,i64_w,i32_w]
                rfl
               exact norm_ (by first|(simp only [putAll,Act.put,List.setIfInBounds_toArray,List.set_cons_zero,List.set_cons_succ];done)|(simp only [putAll,Act.put,List.setIfInBounds_toArray,List.set_cons_zero,List.set_cons_succ];rfl)) (hJ0_4 (v109,v115) _ ⟨(by (with_reducible repeat (first|apply zrA|apply zrN|apply zrD));exact HO110.out),(by (with_reducible repeat (first|apply zrA|apply zrN|apply zrD));exact HO116.out),(by (with_reducible repeat (first|refine zbN ?_ _|refine zbD ?_|refine zbA ?_ _));exact BK106.out),(by repeat (first|(with_reducible first|exact HB.out|apply zlA|apply zlN|apply zlD|refine zlS ?_ GE106.out)|exact HB.out))⟩)
              ·skip
               refine box_step ?hg (N:=6) ?hd (cs:=#[.slice none 0 0,.slice none 0 0]) (t:=25) ?hr ?_;(case hd=>rfl);(case hg=>rfl);(case hr=>first|(go_simp;done)|(go_simp;rfl))
               intro gb117 hg w13 hbox hb
               have n0_:=zm (Kd.R_below (by (with_reducible repeat (first|apply zrA|apply zrN|apply zrD));exact HO116.out) hb)
               have n1_:=zm (zbB (g:=gb106) (o:=.cells #[.slice none 0 0,.slice none 0 0] 25 (0,0)) (by (with_reducible repeat (first|refine zbN ?_ _|refine zbD ?_|refine zbA ?_ _));exact BK106.out) hb)
               have n2_:=zm (below_step (by repeat (first|(with_reducible first|exact HB.out|apply zlA|apply zlN|apply zlD|refine zlS ?_ GE106.out)|exact HB.out)) hb)
               have n3_:=zm (hbox)
               have n4_:=zm ((by rw [hg];exact (below_size (by repeat (first|(with_reducible first|exact HB.out|apply zlA|apply zlN|apply zlD|refine zlS ?_ GE106.out)|exact HB.out))):w.heap.size≤gb117))
               have n5_:=zm ((by rw [hg];exact (below_size (by repeat (first|(with_reducible first|exact HB.out|apply zlA|apply zlN|apply zlD|refine zlS ?_ GE106.out)|exact HB.out))):w.heap.size≤gb117))
               have n6_:=zm ((by rw [hg];exact Nat.ne_of_lt (blk_lt (g:=gb106) (o:=.cells #[.slice none 0 0,.slice none 0 0] 25 (0,0)) (by (with_reducible repeat (first|refine zbN ?_ _|refine zbD ?_|refine zbA ?_ _));exact BK106.out)):gb106≠gb117))
               have n7_:=zm ((by rw [hg];exact Nat.ne_of_gt (blk_lt (g:=gb106) (o:=.cells #[.slice none 0 0,.slice none 0 0] 25 (0,0)) (by (with_reducible repeat (first|refine zbN ?_ _|refine zbD ?_|refine zbA ?_ _));exact BK106.out)):gb117≠gb106))
               clear HO116 BK106 HB
               have HO116:=n0_
               have BK106:=n1_
               have HB:=n2_
               have BK117:=n3_
               have GW117:=n4_
               have GE117:=n5_
               have NB106_117:=n6_
               have NB117_106:=n7_
               clear n0_ n1_ n2_ n3_ n4_ n5_ n6_ n7_ hb hbox hg
               refine hK.out _ _ trivial (fun hHeld=>?_)
               clear hK K
               refine norm_ (a':=?_) ?_ ?_
               rotate_left
               ·show Act.put _ (some 6) _=_
                simp only [Act.put,List.setIfInBounds_toArray,List.set_cons_zero,List.set_cons_succ,i64_w,i32_w]
                rfl
               exact norm_ (by first|(simp only [putAll,Act.put,List.setIfInBounds_toArray,List.set_cons_zero,List.set_cons_succ];done)|(simp only [putAll,Act.put,List.setIfInBounds_toArray,List.set_cons_zero,List.set_cons_succ];rfl)) (hJ4_6 (v115,gb117) _ ⟨(by (with_reducible repeat (first|apply zrA|apply zrN|apply zrD));exact HO116.out),(by (with_reducible repeat (first|refine zbN ?_ _|refine zbD ?_|refine zbA ?_ _));exact BK106.out),(by (with_reducible repeat (first|refine zbN ?_ _|refine zbD ?_|refine zbA ?_ _));exact BK117.out),GW117.out,GE117.out,NB106_117.out,NB117_106.out,(by repeat (first|(with_reducible first|exact HB.out|apply zlA|apply zlN|apply zlD|refine zlS ?_ GE106.out|refine zlS ?_ GE117.out)|exact HB.out))⟩)
            ·skip
             rintro v109 w12 ⟨h0_,h1_,h2_⟩
             have n0_:Aside0 (Kd.R (Kd.int .i64) 3 w12 w.heap.size (fun _=>True) v109 y108):=⟨h0_⟩
             have n1_:Aside0 (w12.heap[gb106]?=some (.cells #[.slice none 0 0,.slice none 0 0] 25 (0,0))):=⟨h1_⟩
             have n2_:Aside0 (Below w.heap.size w w12):=⟨h2_⟩
             clear BK106 HB h0_ h1_ h2_
             have HO110:=n0_
             have BK106:=n1_
             have HB:=n2_
             clear n0_ n1_ n2_
             have hHeld:=trivial
             obtain ⟨Ao13,co13,eo13⟩:=Kd.R_slice HO110.out
             (first|subst eo13|(injection eo13 with f1_ f2_ f3_;have f4_:=f1_.symm;have f5_:=f3_.symm;clear f1_ f2_ f3_;subst f4_;subst f5_))
             refine norm_ (a':=?_) ?_ ?_
             rotate_left
             ·simp only [putAll,Act.put,List.setIfInBounds_toArray,List.set_cons_zero,List.set_cons_succ]
              rfl
             refine three_ (i:=2) (j:=4) (k:=6) (Ni:=some 15) (Nj:=some 17) (Nk:=some 6) #[true,true,true,true,false,false,false,false] #[true,true,false,true,true,false,false,false] #[true,true,false,true,false,false,true,false] rfl rfl rfl rfl rfl rfl (three_of HT_.out (by kernel_rfl)) (by decide) (by decide) (by decide) (fun K hK=>?_) (fun K hK=>?_) (fun K hK=>?_)
             ·skip
              refine goes_ Try.func36 (by kernel_rfl) rfl #[.slice Ao13 y108.length co13,.int .i64 a0] (by rfl) rfl rfl (by (try simp only [List.map_toArray,List.map_cons,List.map_nil]);first|done|rfl|(simp only [List.length_drop,List.length_take];rfl)) ?_
              with_reducible refine (slices_Repeat_int_int.calls _ _ y108 a0 t111 _ ?side1 ?side2 A5.out).mono ?_
              (case side1=>repeat (first|exact (Kd.R_reads' HO110.out).2.2|(with_reducible refine Kd.C_alloc ?_ _)|(with_reducible refine Kd.C_drewN ?_ _)|(with_reducible refine Kd.C_drew ?_)))
              (case side2=>exact (Kd.R_reads' HO110.out).2.1)
              rintro e w14 ⟨v112,rfl,ho0,hb⟩
              refine ⟨_,rfl,?_⟩
              have n0_:=zm (Kd.R_elder' (by (with_reducible repeat (first|apply zrA|apply zrN|apply zrD));exact HO110.out) (Kd.R_base ho0) hb)
              have n1_:=zm (Kd.R_lower (Kd.R_new' ho0 (Kd.R_lt (by (with_reducible repeat (first|apply zrA|apply zrN|apply zrD));exact HO110.out))) (below_size (by repeat (first|(with_reducible first|exact HB.out|apply zlA|apply zlN|apply zlD|refine zlS ?_ GE106.out)|exact HB.out))))
              have n2_:=zm (zbB (g:=gb106) (o:=.cells #[.slice none 0 0,.slice none 0 0] 25 (0,0)) (by (with_reducible repeat (first|refine zbN ?_ _|refine zbD ?_|refine zbA ?_ _));exact BK106.out) hb)
              have n3_:=zm (below_step (by repeat (first|(with_reducible first|exact HB.out|apply zlA|apply zlN|apply zlD|refine zlS ?_ GE106.out)|exact HB.out)) hb)
              clear HO110 BK106 HB
              have HO110:=n0_
              have HO113:=n1_
              have BK106:=n2_
              have HB:=n3_
              clear n0_ n1_ n2_ n3_
              (try clear hb)
              (try clear hb2)
              (try clear hk)
              (try clear hi)
              (try clear ho0)
              refine hK.out _ _ trivial (fun hHeld=>?_)
              clear hK K
              refine norm_ (a':=?_) ?_ ?_
              rotate_left
              ·show Act.put _ (some 15) _=_
               simp only [Act.put,List.setIfInBounds_toArray,List.set_cons_zero,List.set_cons_succ,i64_w,i32_w]
               rfl
              exact norm_ (by first|(simp only [putAll,Act.put,List.setIfInBounds_toArray,List.set_cons_zero,List.set_cons_succ];done)|(simp only [putAll,Act.put,List.setIfInBounds_toArray,List.set_cons_zero,List.set_cons_succ];rfl)) (hJ0_2 (.slice Ao13 y108.length co13,v112) _ ⟨(by (with_reducible repeat (first|apply zrA|apply zrN|apply zrD));exact Kd.R_mono HO110.out (fun _ hk=>hk.2)),(by (with_reducible repeat (first|apply zrA|apply zrN|apply zrD));exact Kd.R_mono HO113.out (fun _ hk=>hk.2)),(by (with_reducible repeat (first|refine zbN ?_ _|refine zbD ?_|refine zbA ?_ _));exact BK106.out),(by repeat (first|(with_reducible first|exact HB.out|apply zlA|apply zlN|apply zlD|refine zlS ?_ GE106.out)|exact HB.out))⟩)
             ·skip
              refine Kd.R_make_step (Kd.int .i64) _ 2 (by rfl) (N:=17) rfl 23 _ _ rfl a0 rfl rfl Try.underlying23 (.int .i64 0) 8 info2 rfl (by decide) (by omega) 0 (ok:=fun _=>True) (okp:=fun _=>True) rfl (fun _ hk=>hk) trivial (of_decide_eq_true (by first|(with_reducible assumption)|assumption)) (Nat.le_trans (Nat.mul_le_mul_right _ (of_decide_eq_true (by first|(with_reducible assumption)|assumption):a0.toNat≤35184372088832)) (by omega)) (Below.refl _ _) (Nat.le_refl _) ?_
              intro v115 w13 ho14 hb hg_ hnew_
              clear hg_ hnew_
              (first|rw [← Ny114.out] at ho14|(simp only [Int.reduceToNat] at ho14;rw [← Ny114.out] at ho14))
              have n0_:=zm (Kd.R_below (by (with_reducible repeat (first|apply zrA|apply zrN|apply zrD));exact HO110.out) hb)
              have n1_:=zm (Kd.R_lower ho14 (below_size (by repeat (first|(with_reducible first|exact HB.out|apply zlA|apply zlN|apply zlD|refine zlS ?_ GE106.out)|exact HB.out))))
              have n2_:=zm (zbB (g:=gb106) (o:=.cells #[.slice none 0 0,.slice none 0 0] 25 (0,0)) (by (with_reducible repeat (first|refine zbN ?_ _|refine zbD ?_|refine zbA ?_ _));exact BK106.out) hb)
              have n3_:=zm (below_step (by repeat (first|(with_reducible first|exact HB.out|apply zlA|apply zlN|apply zlD|refine zlS ?_ GE106.out)|exact HB.out)) hb)
              clear HO110 BK106 HB
              have HO110:=n0_
              have HO116:=n1_
              have BK106:=n2_
              have HB:=n3_
              clear n0_ n1_ n2_ n3_ hb ho14
              refine hK.out _ _ trivial (fun hHeld=>?_)
              clear hK K
              refine norm_ (a':=?_) ?_ ?_
              rotate_left
              ·show Act.put _ (some 17) _=_
               simp only [Act.put,List.setIfInBounds_toArray,List.set_cons_zero,List.set_cons_succ,i64_w,i32_w]
               rfl
              exact norm_ (by first|(simp only [putAll,Act.put,List.setIfInBounds_toArray,List.set_cons_zero,List.set_cons_succ];done)|(simp only [putAll,Act.put,List.setIfInBounds_toArray,List.set_cons_zero,List.set_cons_succ];rfl)) (hJ0_4 ((.slice Ao13 y108.length co13),v115) _ ⟨(by (with_reducible repeat (first|apply zrA|apply zrN|apply zrD));exact HO110.out),(by (with_reducible repeat (first|apply zrA|apply zrN|apply zrD));exact HO116.out),(by (with_reducible repeat (first|refine zbN ?_ _|refine zbD ?_|refine zbA ?_ _));exact BK106.out),(by repeat (first|(with_reducible first|exact HB.out|apply zlA|apply zlN|apply zlD|refine zlS ?_ GE106.out)|exact HB.out))⟩)
             ·skip
              refine box_step ?hg (N:=6) ?hd (cs:=#[.slice none 0 0,.slice none 0 0]) (t:=25) ?hr ?_;(case hd=>rfl);(case hg=>rfl);(case hr=>first|(go_simp;done)|(go_simp;rfl))
              intro gb117 hg w13 hbox hb
              have n0_:=zm (Kd.R_below (by (with_reducible repeat (first|apply zrA|apply zrN|apply zrD));exact HO110.out) hb)
              have n1_:=zm (zbB (g:=gb106) (o:=.cells #[.slice none 0 0,.slice none 0 0] 25 (0,0)) (by (with_reducible repeat (first|refine zbN ?_ _|refine zbD ?_|refine zbA ?_ _));exact BK106.out) hb)
              have n2_:=zm (below_step (by repeat (first|(with_reducible first|exact HB.out|apply zlA|apply zlN|apply zlD|refine zlS ?_ GE106.out)|exact HB.out)) hb)
              have n3_:=zm (hbox)
              have n4_:=zm ((by rw [hg];exact (below_size (by repeat (first|(with_reducible first|exact HB.out|apply zlA|apply zlN|apply zlD|refine zlS ?_ GE106.out)|exact HB.out))):w.heap.size≤gb117))
              have n5_:=zm ((by rw [hg];exact (below_size (by repeat (first|(with_reducible first|exact HB.out|apply zlA|apply zlN|apply zlD|refine zlS ?_ GE106.out)|exact HB.out))):w.heap.size≤gb117))
              have n6_:=zm ((by rw [hg];exact Nat.ne_of_lt (blk_lt (g:=gb106) (o:=.cells #[.slice none 0 0,.slice none 0 0] 25 (0,0)) (by (with_reducible repeat (first|refine zbN ?_ _|refine zbD ?_|refine zbA ?_ _));exact BK106.out)):gb106≠gb117))
              have n7_:=zm ((by rw [hg];exact Nat.ne_of_gt (blk_lt (g:=gb106) (o:=.cells #[.slice none 0 0,.slice none 0 0] 25 (0,0)) (by (with_reducible repeat (first|refine zbN ?_ _|refine zbD ?_|refine zbA ?_ _));exact BK106.out)):gb117≠gb106))
              clear HO110 BK106 HB
              have HO110:=n0_
              have BK106:=n1_
              have HB:=n2_
              have BK117:=n3_
              have GW117:=n4_
              have GE117:=n5_
              have NB106_117:=n6_
              have NB117_106:=n7_
              clear n0_ n1_ n2_ n3_ n4_ n5_ n6_ n7_ hb hbox hg
              refine hK.out _ _ trivial (fun hHeld=>?_)
              clear hK K
              refine norm_ (a':=?_) ?_ ?_
              rotate_left
              ·show Act.put _ (some 6) _=_
               simp only [Act.put,List.setIfInBounds_toArray,List.set_cons_zero,List.set_cons_succ,i64_w,i32_w]
               rfl
              exact norm_ (by first|(simp only [putAll,Act.put,List.setIfInBounds_toArray,List.set_cons_zero,List.set_cons_succ];done)|(simp only [putAll,Act.put,List.setIfInBounds_toArray,List.set_cons_zero,List.set_cons_succ];rfl)) (hJ0_6 ((.slice Ao13 y108.length co13),gb117) _ ⟨(by (with_reducible repeat (first|apply zrA|apply zrN|apply zrD));exact HO110.out),(by (with_reducible repeat (first|refine zbN ?_ _|refine zbD ?_|refine zbA ?_ _));exact BK106.out),(by (with_reducible repeat (first|refine zbN ?_ _|refine zbD ?_|refine zbA ?_ _));exact BK117.out),GW117.out,GE117.out,NB106_117.out,NB117_106.out,(by repeat (first|(with_reducible first|exact HB.out|apply zlA|apply zlN|apply zlD|refine zlS ?_ GE106.out|refine zlS ?_ GE117.out)|exact HB.out))⟩)
           ·skip
            rintro ⟨v115,gb117⟩ w13 ⟨h0_,h1_,h2_,h3_,h4_,h5_,h6_,h7_⟩
            have n0_:Aside0 (Kd.R (Kd.int .i64) 2 w13 w.heap.size (fun _=>True) v115 y114):=⟨h0_⟩
            have n1_:Aside0 (w13.heap[gb106]?=some (.cells #[.slice none 0 0,.slice none 0 0] 25 (0,0))):=⟨h1_⟩
            have n2_:Aside0 (w13.heap[gb117]?=some (.cells #[.slice none 0 0,.slice none 0 0] 25 (0,0))):=⟨h2_⟩
            have n3_:Aside0 (w.heap.size≤gb117):=⟨h3_⟩
            have n4_:Aside0 (w.heap.size≤gb117):=⟨h4_⟩
            have n5_:Aside0 (gb106≠gb117):=⟨h5_⟩
            have n6_:Aside0 (gb117≠gb106):=⟨h6_⟩
            have n7_:Aside0 (Below w.heap.size w w13):=⟨h7_⟩
            clear BK106 HB h0_ h1_ h2_ h3_ h4_ h5_ h6_ h7_
            have HO116:=n0_
            have BK106:=n1_
            have BK117:=n2_
            have GW117:=n3_
            have GE117:=n4_
            have NB106_117:=n5_
            have NB117_106:=n6_
            have HB:=n7_
            clear n0_ n1_ n2_ n3_ n4_ n5_ n6_ n7_
            have hHeld:=trivial
            refine norm_ (a':=?_) ?_ ?_
            rotate_left
            ·simp only [putAll,Act.put,List.setIfInBounds_toArray,List.set_cons_zero,List.set_cons_succ]
             rfl
            refine one_ (i:=0) (N:=some 13) #[true,true,false,true,true,false,true,false] rfl rfl (one_of HT_.out (by kernel_rfl)) (by decide) (fun K hK=>?_)
            refine Kd.R_lit_step (Kd.int .i64) _ 3 ?hg (N:=13) ?hd (xs:=([1]:List Int)) (inner:=[.int .i64 1]) (ok:=fun _=>True) (okp:=fun _=>True) ?hr ?hp (fun _ hk=>hk) trivial (Below.refl _ _) (Nat.le_refl _) (by simp) ?_;(case hd=>rfl);(case hg=>rfl);(case hr=>first|(go_simp;done)|(go_simp;rfl));(case hp=>exact (Reps.one (show Kd.M (Kd.int .i64) _ _ _ 1 [.int .i64 1] from rfl) (Reps.none _ _)))
            intro v109 w14 ho15 hb hg_ hnew_
            clear hg_ hnew_
            (first|rw [← Ny108.out] at ho15|(simp only [Int.reduceToNat] at ho15;rw [← Ny108.out] at ho15))
            have n0_:=zm (Kd.R_below (by (with_reducible repeat (first|apply zrA|apply zrN|apply zrD));exact HO116.out) hb)
            have n1_:=zm (Kd.R_lower ho15 (below_size (by repeat (first|(with_reducible first|exact HB.out|apply zlA|apply zlN|apply zlD|refine zlS ?_ GE106.out|refine zlS ?_ GE117.out)|exact HB.out))))
            have n2_:=zm (zbB (g:=gb106) (o:=.cells #[.slice none 0 0,.slice none 0 0] 25 (0,0)) (by (with_reducible repeat (first|refine zbN ?_ _|refine zbD ?_|refine zbA ?_ _));exact BK106.out) hb)
            have n3_:=zm (zbB (g:=gb117) (o:=.cells #[.slice none 0 0,.slice none 0 0] 25 (0,0)) (by (with_reducible repeat (first|refine zbN ?_ _|refine zbD ?_|refine zbA ?_ _));exact BK117.out) hb)
            have n4_:=zm (below_step (by repeat (first|(with_reducible first|exact HB.out|apply zlA|apply zlN|apply zlD|refine zlS ?_ GE106.out|refine zlS ?_ GE117.out)|exact HB.out)) hb)
            clear HO116 BK106 BK117 HB
            have HO116:=n0_
            have HO110:=n1_
            have BK106:=n2_
            have BK117:=n3_
            have HB:=n4_
            clear n0_ n1_ n2_ n3_ n4_ hb ho15
            refine hK.out _ _ trivial (fun hHeld=>?_)
            clear hK K
            refine norm_ (a':=?_) ?_ ?_
            rotate_left
            ·show Act.put _ (some 13) _=_
             simp only [Act.put,List.setIfInBounds_toArray,List.set_cons_zero,List.set_cons_succ,i64_w,i32_w]
             rfl
            exact norm_ (by first|(simp only [putAll,Act.put,List.setIfInBounds_toArray,List.set_cons_zero,List.set_cons_succ];done)|(simp only [putAll,Act.put,List.setIfInBounds_toArray,List.set_cons_zero,List.set_cons_succ];rfl)) (hJ0_4_6 (v109,v115,gb117) _ ⟨(by (with_reducible repeat (first|apply zrA|apply zrN|apply zrD));exact HO110.out),(by (with_reducible repeat (first|apply zrA|apply zrN|apply zrD));exact HO116.out),(by (with_reducible repeat (first|refine zbN ?_ _|refine zbD ?_|refine zbA ?_ _));exact BK106.out),(by (with_reducible repeat (first|refine zbN ?_ _|refine zbD ?_|refine zbA ?_ _));exact BK117.out),GW117.out,GE117.out,NB106_117.out,NB117_106.out,(by repeat (first|(with_reducible first|exact HB.out|apply zlA|apply zlN|apply zlD|refine zlS ?_ GE106.out|refine zlS ?_ GE117.out)|exact HB.out))⟩)
          ·skip
           rintro ⟨v109,gb117⟩ w13 ⟨h0_,h1_,h2_,h3_,h4_,h5_,h6_,h7_⟩
           have n0_:Aside0 (Kd.R (Kd.int .i64) 3 w13 w.heap.size (fun _=>True) v109 y108):=⟨h0_⟩
           have n1_:Aside0 (w13.heap[gb106]?=some (.cells #[.slice none 0 0,.slice none 0 0] 25 (0,0))):=⟨h1_⟩
           have n2_:Aside0 (w13.heap[gb117]?=some (.cells #[.slice none 0 0,.slice none 0 0] 25 (0,0))):=⟨h2_⟩
           have n3_:Aside0 (w.heap.size≤gb117):=⟨h3_⟩
           have n4_:Aside0 (w.heap.size≤gb117):=⟨h4_⟩
           have n5_:Aside0 (gb106≠gb117):=⟨h5_⟩
           have n6_:Aside0 (gb117≠gb106):=⟨h6_⟩
           have n7_:Aside0 (Below w.heap.size w w13):=⟨h7_⟩
           clear BK106 HB h0_ h1_ h2_ h3_ h4_ h5_ h6_ h7_
           have HO110:=n0_
           have BK106:=n1_
           have BK117:=n2_
           have GW117:=n3_
           have GE117:=n4_
           have NB106_117:=n5_
           have NB117_106:=n6_
           have HB:=n7_
           clear n0_ n1_ n2_ n3_ n4_ n5_ n6_ n7_
           have hHeld:=trivial
           obtain ⟨Ao14,co14,eo14⟩:=Kd.R_slice HO110.out
           (first|subst eo14|(injection eo14 with f1_ f2_ f3_;have f4_:=f1_.symm;have f5_:=f3_.symm;clear f1_ f2_ f3_;subst f4_;subst f5_))
           refine norm_ (a':=?_) ?_ ?_
           rotate_left
           ·simp only [putAll,Act.put,List.setIfInBounds_toArray,List.set_cons_zero,List.set_cons_succ]
            rfl
           refine two_ (i:=2) (j:=4) (Ni:=some 15) (Nj:=some 17) #[true,true,true,true,false,false,true,false] #[true,true,false,true,true,false,true,false] rfl rfl rfl rfl (two_of HT_.out (by kernel_rfl)) (by decide) (by decide) (fun K hK=>?_) (fun K hK=>?_)
           ·skip
            refine goes_ Try.func36 (by kernel_rfl) rfl #[.slice Ao14 y108.length co14,.int .i64 a0] (by rfl) rfl rfl (by (try simp only [List.map_toArray,List.map_cons,List.map_nil]);first|done|rfl|(simp only [List.length_drop,List.length_take];rfl)) ?_
            with_reducible refine (slices_Repeat_int_int.calls _ _ y108 a0 t111 _ ?side1 ?side2 A5.out).mono ?_
            (case side1=>repeat (first|exact (Kd.R_reads' HO110.out).2.2|(with_reducible refine Kd.C_alloc ?_ _)|(with_reducible refine Kd.C_drewN ?_ _)|(with_reducible refine Kd.C_drew ?_)))
            (case side2=>exact (Kd.R_reads' HO110.out).2.1)
            rintro e w15 ⟨v112,rfl,ho0,hb⟩
            refine ⟨_,rfl,?_⟩
            have n0_:=zm (Kd.R_elder' (by (with_reducible repeat (first|apply zrA|apply zrN|apply zrD));exact HO110.out) (Kd.R_base ho0) hb)
            have n1_:=zm (Kd.R_lower (Kd.R_new' ho0 (Kd.R_lt (by (with_reducible repeat (first|apply zrA|apply zrN|apply zrD));exact HO110.out))) (below_size (by repeat (first|(with_reducible first|exact HB.out|apply zlA|apply zlN|apply zlD|refine zlS ?_ GE106.out|refine zlS ?_ GE117.out)|exact HB.out))))
            have n2_:=zm (zbB (g:=gb106) (o:=.cells #[.slice none 0 0,.slice none 0 0] 25 (0,0)) (by (with_reducible repeat (first|refine zbN ?_ _|refine zbD ?_|refine zbA ?_ _));exact BK106.out) hb)
            have n3_:=zm (zbB (g:=gb117) (o:=.cells #[.slice none 0 0,.slice none 0 0] 25 (0,0)) (by (with_reducible repeat (first|refine zbN ?_ _|refine zbD ?_|refine zbA ?_ _));exact BK117.out) hb)
            have n4_:=zm (below_step (by repeat (first|(with_reducible first|exact HB.out|apply zlA|apply zlN|apply zlD|refine zlS ?_ GE106.out|refine zlS ?_ GE117.out)|exact HB.out)) hb)
            clear HO110 BK106 BK117 HB
            have HO110:=n0_
            have HO113:=n1_
            have BK106:=n2_
            have BK117:=n3_
            have HB:=n4_
            clear n0_ n1_ n2_ n3_ n4_
            (try clear hb)
            (try clear hb2)
            (try clear hk)
            (try clear hi)
            (try clear ho0)
            refine hK.out _ _ trivial (fun hHeld=>?_)
            clear hK K
            refine norm_ (a':=?_) ?_ ?_
            rotate_left
            ·show Act.put _ (some 15) _=_
             simp only [Act.put,List.setIfInBounds_toArray,List.set_cons_zero,List.set_cons_succ,i64_w,i32_w]
             rfl
            exact norm_ (by first|(simp only [putAll,Act.put,List.setIfInBounds_toArray,List.set_cons_zero,List.set_cons_succ];done)|(simp only [putAll,Act.put,List.setIfInBounds_toArray,List.set_cons_zero,List.set_cons_succ];rfl)) (hJ0_2_6 (.slice Ao14 y108.length co14,v112,gb117) _ ⟨(by (with_reducible repeat (first|apply zrA|apply zrN|apply zrD));exact Kd.R_mono HO110.out (fun _ hk=>hk.2)),(by (with_reducible repeat (first|apply zrA|apply zrN|apply zrD));exact Kd.R_mono HO113.out (fun _ hk=>hk.2)),(by (with_reducible repeat (first|refine zbN ?_ _|refine zbD ?_|refine zbA ?_ _));exact BK106.out),(by (with_reducible repeat (first|refine zbN ?_ _|refine zbD ?_|refine zbA ?_ _));exact BK117.out),GW117.out,GE117.out,NB106_117.out,NB117_106.out,(by repeat (first|(with_reducible first|exact HB.out|apply zlA|apply zlN|apply zlD|refine zlS ?_ GE106.out|refine zlS ?_ GE117.out)|exact HB.out))⟩)
           ·skip
            refine Kd.R_make_step (Kd.int .i64) _ 2 (by rfl) (N:=17) rfl 23 _ _ rfl a0 rfl rfl Try.underlying23 (.int .i64 0) 8 info2 rfl (by decide) (by omega) 0 (ok:=fun _=>True) (okp:=fun _=>True) rfl (fun _ hk=>hk) trivial (of_decide_eq_true (by first|(with_reducible assumption)|assumption)) (Nat.le_trans (Nat.mul_le_mul_right _ (of_decide_eq_true (by first|(with_reducible assumption)|assumption):a0.toNat≤35184372088832)) (by omega)) (Below.refl _ _) (Nat.le_refl _) ?_
            intro v115 w14 ho15 hb hg_ hnew_
            clear hg_ hnew_
            (first|rw [← Ny114.out] at ho15|(simp only [Int.reduceToNat] at ho15;rw [← Ny114.out] at ho15))
            have n0_:=zm (Kd.R_below (by (with_reducible repeat (first|apply zrA|apply zrN|apply zrD));exact HO110.out) hb)
            have n1_:=zm (Kd.R_lower ho15 (below_size (by repeat (first|(with_reducible first|exact HB.out|apply zlA|apply zlN|apply zlD|refine zlS ?_ GE106.out|refine zlS ?_ GE117.out)|exact HB.out))))
            have n2_:=zm (zbB (g:=gb106) (o:=.cells #[.slice none 0 0,.slice none 0 0] 25 (0,0)) (by (with_reducible repeat (first|refine zbN ?_ _|refine zbD ?_|refine zbA ?_ _));exact BK106.out) hb)
            have n3_:=zm (zbB (g:=gb117) (o:=.cells #[.slice none 0 0,.slice none 0 0] 25 (0,0)) (by (with_reducible repeat (first|refine zbN ?_ _|refine zbD ?_|refine zbA ?_ _));exact BK117.out) hb)
            have n4_:=zm (below_step (by repeat (first|(with_reducible first|exact HB.out|apply zlA|apply zlN|apply zlD|refine zlS ?_ GE106.out|refine zlS ?_ GE117.out)|exact HB.out)) hb)
            clear HO110 BK106 BK117 HB
            have HO110:=n0_
            have HO116:=n1_
            have BK106:=n2_
            have BK117:=n3_
            have HB:=n4_
            clear n0_ n1_ n2_ n3_ n4_ hb ho15
            refine hK.out _ _ trivial (fun hHeld=>?_)
            clear hK K
            refine norm_ (a':=?_) ?_ ?_
            rotate_left
            ·show Act.put _ (some 17) _=_
             simp only [Act.put,List.setIfInBounds_toArray,List.set_cons_zero,List.set_cons_succ,i64_w,i32_w]
             rfl
            exact norm_ (by first|(simp only [putAll,Act.put,List.setIfInBounds_toArray,List.set_cons_zero,List.set_cons_succ];done)|(simp only [putAll,Act.put,List.setIfInBounds_toArray,List.set_cons_zero,List.set_cons_succ];rfl)) (hJ0_4_6 ((.slice Ao14 y108.length co14),v115,gb117) _ ⟨(by (with_reducible repeat (first|apply zrA|apply zrN|apply zrD));exact HO110.out),(by (with_reducible repeat (first|apply zrA|apply zrN|apply zrD));exact HO116.out),(by (with_reducible repeat (first|refine zbN ?_ _|refine zbD ?_|refine zbA ?_ _));exact BK106.out),(by (with_reducible repeat (first|refine zbN ?_ _|refine zbD ?_|refine zbA ?_ _));exact BK117.out),GW117.out,GE117.out,NB106_117.out,NB117_106.out,(by repeat (first|(with_reducible first|exact HB.out|apply zlA|apply zlN|apply zlD|refine zlS ?_ GE106.out|refine zlS ?_ GE117.out)|exact HB.out))⟩)
         ·skip
          rintro ⟨v109,v115⟩ w14 ⟨h0_,h1_,h2_,h3_⟩
          have n0_:Aside0 (Kd.R (Kd.int .i64) 3 w14 w.heap.size (fun _=>True) v109 y108):=⟨h0_⟩
          have n1_:Aside0 (Kd.R (Kd.int .i64) 2 w14 w.heap.size (fun _=>True) v115 y114):=⟨h1_⟩
          have n2_:Aside0 (w14.heap[gb106]?=some (.cells #[.slice none 0 0,.slice none 0 0] 25 (0,0))):=⟨h2_⟩
          have n3_:Aside0 (Below w.heap.size w w14):=⟨h3_⟩
          clear BK106 HB h0_ h1_ h2_ h3_
          have HO110:=n0_
          have HO116:=n1_
          have BK106:=n2_
          have HB:=n3_
          clear n0_ n1_ n2_ n3_
          have hHeld:=trivial
          obtain ⟨Ao15,co15,eo15⟩:=Kd.R_slice HO110.out
          (first|subst eo15|(injection eo15 with f1_ f2_ f3_;have f4_:=f1_.symm;have f5_:=f3_.symm;clear f1_ f2_ f3_;subst f4_;subst f5_))
          refine norm_ (a':=?_) ?_ ?_
          rotate_left
          ·simp only [putAll,Act.put,List.setIfInBounds_toArray,List.set_cons_zero,List.set_cons_succ]
           rfl
          refine two_ (i:=2) (j:=6) (Ni:=some 15) (Nj:=some 6) #[true,true,true,true,true,false,false,false] #[true,true,false,true,true,false,true,false] rfl rfl rfl rfl (two_of HT_.out (by kernel_rfl)) (by decide) (by decide) (fun K hK=>?_) (fun K hK=>?_)
          ·skip
           refine goes_ Try.func36 (by kernel_rfl) rfl #[.slice Ao15 y108.length co15,.int .i64 a0] (by rfl) rfl rfl (by (try simp only [List.map_toArray,List.map_cons,List.map_nil]);first|done|rfl|(simp only [List.length_drop,List.length_take];rfl)) ?_
           with_reducible refine (slices_Repeat_int_int.calls _ _ y108 a0 t111 _ ?side1 ?side2 A5.out).mono ?_
           (case side1=>repeat (first|exact (Kd.R_reads' HO110.out).2.2|(with_reducible refine Kd.C_alloc ?_ _)|(with_reducible refine Kd.C_drewN ?_ _)|(with_reducible refine Kd.C_drew ?_)))
           (case side2=>exact (Kd.R_reads' HO110.out).2.1)
           rintro e w16 ⟨v112,rfl,ho0,hb⟩
           refine ⟨_,rfl,?_⟩
           have n0_:=zm (Kd.R_elder' (by (with_reducible repeat (first|apply zrA|apply zrN|apply zrD));exact HO110.out) (Kd.R_base ho0) hb)
           have n1_:=zm (Kd.R_below (by (with_reducible repeat (first|apply zrA|apply zrN|apply zrD));exact HO116.out) hb)
           have n2_:=zm (Kd.R_lower (Kd.R_new' ho0 (Kd.R_lt (by (with_reducible repeat (first|apply zrA|apply zrN|apply zrD));exact HO110.out))) (below_size (by repeat (first|(with_reducible first|exact HB.out|apply zlA|apply zlN|apply zlD|refine zlS ?_ GE106.out)|exact HB.out))))
           have n3_:=zm (zbB (g:=gb106) (o:=.cells #[.slice none 0 0,.slice none 0 0] 25 (0,0)) (by (with_reducible repeat (first|refine zbN ?_ _|refine zbD ?_|refine zbA ?_ _));exact BK106.out) hb)
           have n4_:=zm (below_step (by repeat (first|(with_reducible first|exact HB.out|apply zlA|apply zlN|apply zlD|refine zlS ?_ GE106.out)|exact HB.out)) hb)
           clear HO110 HO116 BK106 HB
           have HO110:=n0_
           have HO116:=n1_
           have HO113:=n2_
           have BK106:=n3_
           have HB:=n4_
           clear n0_ n1_ n2_ n3_ n4_
           (try clear hb)
           (try clear hb2)
           (try clear hk)
           (try clear hi)
           (try clear ho0)
           obtain ⟨Ao17,co17,eo17⟩:=Kd.R_slice HO116.out
           (first|subst eo17|(injection eo17 with f1_ f2_ f3_;have f4_:=f1_.symm;have f5_:=f3_.symm;clear f1_ f2_ f3_;subst f4_;subst f5_))
           obtain ⟨Ao18,co18,eo18⟩:=Kd.R_slice HO113.out
           (first|subst eo18|(injection eo18 with f1_ f2_ f3_;have f4_:=f1_.symm;have f5_:=f3_.symm;clear f1_ f2_ f3_;subst f4_;subst f5_))
           refine hK.out _ _ trivial (fun hHeld=>?_)
           clear hK K
           refine norm_ (a':=?_) ?_ ?_
           rotate_left
           ·show Act.put _ (some 15) _=_
            simp only [Act.put,List.setIfInBounds_toArray,List.set_cons_zero,List.set_cons_succ,i64_w,i32_w]
            rfl
           refine pure_ (i:=5) (N:=some 18) (v:=?_) (a':=?_) #[true,true,true,true,true,true,false,false] rfl rfl (any_of HT_.out (by kernel_rfl)) (fun _ _ _ h=>h) (Or.inl ⟨by rfl,?_⟩) ?_ ?_
           rotate_left
           ·intro w'
            go_simp
            with_reducible rfl
           rotate_left
           ·simp only [Act.put,List.setIfInBounds_toArray,List.set_cons_zero,List.set_cons_succ,i64_w,i32_w]
            rfl
           exact norm_ (by first|(simp only [putAll,Act.put,List.setIfInBounds_toArray,List.set_cons_zero,List.set_cons_succ];done)|(simp only [putAll,Act.put,List.setIfInBounds_toArray,List.set_cons_zero,List.set_cons_succ];rfl)) (hJ0_2_4 (.slice Ao15 y108.length co15,.slice Ao18 t111.length co18,.slice Ao17 y114.length co17) _ ⟨(by (with_reducible repeat (first|apply zrA|apply zrN|apply zrD));exact Kd.R_mono HO110.out (fun _ hk=>hk.2)),(by (with_reducible repeat (first|apply zrA|apply zrN|apply zrD));exact Kd.R_mono HO113.out (fun _ hk=>hk.2)),(by (with_reducible repeat (first|apply zrA|apply zrN|apply zrD));exact HO116.out),(by (with_reducible repeat (first|refine zbN ?_ _|refine zbD ?_|refine zbA ?_ _));exact BK106.out),(by repeat (first|(with_reducible first|exact HB.out|apply zlA|apply zlN|apply zlD|refine zlS ?_ GE106.out)|exact HB.out))⟩)
          ·skip
           refine box_step ?hg (N:=6) ?hd (cs:=#[.slice none 0 0,.slice none 0 0]) (t:=25) ?hr ?_;(case hd=>rfl);(case hg=>rfl);(case hr=>first|(go_simp;done)|(go_simp;rfl))
           intro gb117 hg w15 hbox hb
           have n0_:=zm (Kd.R_below (by (with_reducible repeat (first|apply zrA|apply zrN|apply zrD));exact HO110.out) hb)
           have n1_:=zm (Kd.R_below (by (with_reducible repeat (first|apply zrA|apply zrN|apply zrD));exact HO116.out) hb)
           have n2_:=zm (zbB (g:=gb106) (o:=.cells #[.slice none 0 0,.slice none 0 0] 25 (0,0)) (by (with_reducible repeat (first|refine zbN ?_ _|refine zbD ?_|refine zbA ?_ _));exact BK106.out) hb)
           have n3_:=zm (below_step (by repeat (first|(with_reducible first|exact HB.out|apply zlA|apply zlN|apply zlD|refine zlS ?_ GE106.out)|exact HB.out)) hb)
           have n4_:=zm (hbox)
           have n5_:=zm ((by rw [hg];exact (below_size (by repeat (first|(with_reducible first|exact HB.out|apply zlA|apply zlN|apply zlD|refine zlS ?_ GE106.out)|exact HB.out))):w.heap.size≤gb117))
           have n6_:=zm ((by rw [hg];exact (below_size (by repeat (first|(with_reducible first|exact HB.out|apply zlA|apply zlN|apply zlD|refine zlS ?_ GE106.out)|exact HB.out))):w.heap.size≤gb117))
           have n7_:=zm ((by rw [hg];exact Nat.ne_of_lt (blk_lt (g:=gb106) (o:=.cells #[.slice none 0 0,.slice none 0 0] 25 (0,0)) (by (with_reducible repeat (first|refine zbN ?_ _|refine zbD ?_|refine zbA ?_ _));exact BK106.out)):gb106≠gb117))
           have n8_:=zm ((by rw [hg];exact Nat.ne_of_gt (blk_lt (g:=gb106) (o:=.cells #[.slice none 0 0,.slice none 0 0] 25 (0,0)) (by (with_reducible repeat (first|refine zbN ?_ _|refine zbD ?_|refine zbA ?_ _));exact BK106.out)):gb117≠gb106))
           clear HO110 HO116 BK106 HB
           have HO110:=n0_
           have HO116:=n1_
           have BK106:=n2_
           have HB:=n3_
           have BK117:=n4_
           have GW117:=n5_
           have GE117:=n6_
           have NB106_117:=n7_
           have NB117_106:=n8_
           clear n0_ n1_ n2_ n3_ n4_ n5_ n6_ n7_ n8_ hb hbox hg
           refine hK.out _ _ trivial (fun hHeld=>?_)
           clear hK K
           refine norm_ (a':=?_) ?_ ?_
           rotate_left
           ·show Act.put _ (some 6) _=_
            simp only [Act.put,List.setIfInBounds_toArray,List.set_cons_zero,List.set_cons_succ,i64_w,i32_w]
            rfl
           exact norm_ (by first|(simp only [putAll,Act.put,List.setIfInBounds_toArray,List.set_cons_zero,List.set_cons_succ];done)|(simp only [putAll,Act.put,List.setIfInBounds_toArray,List.set_cons_zero,List.set_cons_succ];rfl)) (hJ0_4_6 ((.slice Ao15 y108.length co15),v115,gb117) _ ⟨(by (with_reducible repeat (first|apply zrA|apply zrN|apply zrD));exact HO110.out),(by (with_reducible repeat (first|apply zrA|apply zrN|apply zrD));exact HO116.out),(by (with_reducible repeat (first|refine zbN ?_ _|refine zbD ?_|refine zbA ?_ _));exact BK106.out),(by (with_reducible repeat (first|refine zbN ?_ _|refine zbD ?_|refine zbA ?_ _));exact BK117.out),GW117.out,GE117.out,NB106_117.out,NB117_106.out,(by repeat (first|(with_reducible first|exact HB.out|apply zlA|apply zlN|apply zlD|refine zlS ?_ GE106.out|refine zlS ?_ GE117.out)|exact HB.out))⟩)
        ·skip
         rintro ⟨v109,v112⟩ w14 ⟨h0_,h1_,h2_,h3_⟩
         have n0_:Aside0 (Kd.R (Kd.int .i64) 3 w14 w.heap.size (fun k_=>some k_≠(v112:Value).ownBlock) v109 y108):=⟨h0_⟩
         have n1_:Aside0 (Kd.R (Kd.int .i64) 3 w14 w.heap.size (fun k_=>some k_≠(v109:Value).ownBlock) v112 t111):=⟨h1_⟩
         have n2_:Aside0 (w14.heap[gb106]?=some (.cells #[.slice none 0 0,.slice none 0 0] 25 (0,0))):=⟨h2_⟩
         have n3_:Aside0 (Below w.heap.size w w14):=⟨h3_⟩
         clear BK106 HB h0_ h1_ h2_ h3_
         have HO110:=n0_
         have HO113:=n1_
         have BK106:=n2_
         have HB:=n3_
         clear n0_ n1_ n2_ n3_
         have hHeld:=trivial
         refine norm_ (a':=?_) ?_ ?_
         rotate_left
         ·simp only [putAll,Act.put,List.setIfInBounds_toArray,List.set_cons_zero,List.set_cons_succ]
          rfl
         refine two_ (i:=4) (j:=6) (Ni:=some 17) (Nj:=some 6) #[true,true,true,true,true,false,false,false] #[true,true,true,true,false,false,true,false] rfl rfl rfl rfl (two_of HT_.out (by kernel_rfl)) (by decide) (by decide) (fun K hK=>?_) (fun K hK=>?_)
         ·skip
          refine Kd.R_make_step (Kd.int .i64) _ 2 (by rfl) (N:=17) rfl 23 _ _ rfl a0 rfl rfl Try.underlying23 (.int .i64 0) 8 info2 rfl (by decide) (by omega) 0 (ok:=fun _=>True) (okp:=fun _=>True) rfl (fun _ hk=>hk) trivial (of_decide_eq_true (by first|(with_reducible assumption)|assumption)) (Nat.le_trans (Nat.mul_le_mul_right _ (of_decide_eq_true (by first|(with_reducible assumption)|assumption):a0.toNat≤35184372088832)) (by omega)) (Below.refl _ _) (Nat.le_refl _) ?_
          intro v115 w15 ho16 hb hg_ hnew_
          clear hg_ hnew_
          (first|rw [← Ny114.out] at ho16|(simp only [Int.reduceToNat] at ho16;rw [← Ny114.out] at ho16))
          have n0_:=zm (Kd.R_below (by (with_reducible repeat (first|apply zrA|apply zrN|apply zrD));exact HO110.out) hb)
          have n1_:=zm (Kd.R_below (by (with_reducible repeat (first|apply zrA|apply zrN|apply zrD));exact HO113.out) hb)
          have n2_:=zm (Kd.R_lower ho16 (below_size (by repeat (first|(with_reducible first|exact HB.out|apply zlA|apply zlN|apply zlD|refine zlS ?_ GE106.out)|exact HB.out))))
          have n3_:=zm (zbB (g:=gb106) (o:=.cells #[.slice none 0 0,.slice none 0 0] 25 (0,0)) (by (with_reducible repeat (first|refine zbN ?_ _|refine zbD ?_|refine zbA ?_ _));exact BK106.out) hb)
          have n4_:=zm (below_step (by repeat (first|(with_reducible first|exact HB.out|apply zlA|apply zlN|apply zlD|refine zlS ?_ GE106.out)|exact HB.out)) hb)
          clear HO110 HO113 BK106 HB
          have HO110:=n0_
          have HO113:=n1_
          have HO116:=n2_
          have BK106:=n3_
          have HB:=n4_
          clear n0_ n1_ n2_ n3_ n4_ hb ho16
          obtain ⟨Ao17,co17,eo17⟩:=Kd.R_slice HO116.out
          (first|subst eo17|(injection eo17 with f1_ f2_ f3_;have f4_:=f1_.symm;have f5_:=f3_.symm;clear f1_ f2_ f3_;subst f4_;subst f5_))
          obtain ⟨Ao18,co18,eo18⟩:=Kd.R_slice HO113.out
          (first|subst eo18|(injection eo18 with f1_ f2_ f3_;have f4_:=f1_.symm;have f5_:=f3_.symm;clear f1_ f2_ f3_;subst f4_;subst f5_))
          refine hK.out _ _ trivial (fun hHeld=>?_)
          clear hK K
          refine norm_ (a':=?_) ?_ ?_
          rotate_left
          ·show Act.put _ (some 17) _=_
           simp only [Act.put,List.setIfInBounds_toArray,List.set_cons_zero,List.set_cons_succ,i64_w,i32_w]
           rfl
          refine pure_ (i:=5) (N:=some 18) (v:=?_) (a':=?_) #[true,true,true,true,true,true,false,false] rfl rfl (any_of HT_.out (by kernel_rfl)) (fun _ _ _ h=>h) (Or.inl ⟨by rfl,?_⟩) ?_ ?_
          rotate_left
          ·intro w'
           go_simp
           with_reducible rfl
          rotate_left
          ·simp only [Act.put,List.setIfInBounds_toArray,List.set_cons_zero,List.set_cons_succ,i64_w,i32_w]
           rfl
          exact norm_ (by first|(simp only [putAll,Act.put,List.setIfInBounds_toArray,List.set_cons_zero,List.set_cons_succ];done)|(simp only [putAll,Act.put,List.setIfInBounds_toArray,List.set_cons_zero,List.set_cons_succ];rfl)) (hJ0_2_4 (v109,.slice Ao18 t111.length co18,.slice Ao17 y114.length co17) _ ⟨(by (with_reducible repeat (first|apply zrA|apply zrN|apply zrD));exact HO110.out),(by (with_reducible repeat (first|apply zrA|apply zrN|apply zrD));exact HO113.out),(by (with_reducible repeat (first|apply zrA|apply zrN|apply zrD));exact HO116.out),(by (with_reducible repeat (first|refine zbN ?_ _|refine zbD ?_|refine zbA ?_ _));exact BK106.out),(by repeat (first|(with_reducible first|exact HB.out|apply zlA|apply zlN|apply zlD|refine zlS ?_ GE106.out)|exact HB.out))⟩)
         ·skip
          refine box_step ?hg (N:=6) ?hd (cs:=#[.slice none 0 0,.slice none 0 0]) (t:=25) ?hr ?_;(case hd=>rfl);(case hg=>rfl);(case hr=>first|(go_simp;done)|(go_simp;rfl))
          intro gb117 hg w15 hbox hb
          have n0_:=zm (Kd.R_below (by (with_reducible repeat (first|apply zrA|apply zrN|apply zrD));exact HO110.out) hb)
          have n1_:=zm (Kd.R_below (by (with_reducible repeat (first|apply zrA|apply zrN|apply zrD));exact HO113.out) hb)
          have n2_:=zm (zbB (g:=gb106) (o:=.cells #[.slice none 0 0,.slice none 0 0] 25 (0,0)) (by (with_reducible repeat (first|refine zbN ?_ _|refine zbD ?_|refine zbA ?_ _));exact BK106.out) hb)
          have n3_:=zm (below_step (by repeat (first|(with_reducible first|exact HB.out|apply zlA|apply zlN|apply zlD|refine zlS ?_ GE106.out)|exact HB.out)) hb)
          have n4_:=zm (hbox)
          have n5_:=zm ((by rw [hg];exact (below_size (by repeat (first|(with_reducible first|exact HB.out|apply zlA|apply zlN|apply zlD|refine zlS ?_ GE106.out)|exact HB.out))):w.heap.size≤gb117))
          have n6_:=zm ((by rw [hg];exact (below_size (by repeat (first|(with_reducible first|exact HB.out|apply zlA|apply zlN|apply zlD|refine zlS ?_ GE106.out)|exact HB.out))):w.heap.size≤gb117))
          have n7_:=zm ((by rw [hg];exact Nat.ne_of_lt (blk_lt (g:=gb106) (o:=.cells #[.slice none 0 0,.slice none 0 0] 25 (0,0)) (by (with_reducible repeat (first|refine zbN ?_ _|refine zbD ?_|refine zbA ?_ _));exact BK106.out)):gb106≠gb117))
          have n8_:=zm ((by rw [hg];exact Nat.ne_of_gt (blk_lt (g:=gb106) (o:=.cells #[.slice none 0 0,.slice none 0 0] 25 (0,0)) (by (with_reducible repeat (first|refine zbN ?_ _|refine zbD ?_|refine zbA ?_ _));exact BK106.out)):gb117≠gb106))
          clear HO110 HO113 BK106 HB
          have HO110:=n0_
          have HO113:=n1_
          have BK106:=n2_
          have HB:=n3_
          have BK117:=n4_
          have GW117:=n5_
          have GE117:=n6_
          have NB106_117:=n7_
          have NB117_106:=n8_
          clear n0_ n1_ n2_ n3_ n4_ n5_ n6_ n7_ n8_ hb hbox hg
          refine hK.out _ _ trivial (fun hHeld=>?_)
          clear hK K
          refine norm_ (a':=?_) ?_ ?_
          rotate_left
          ·show Act.put _ (some 6) _=_
           simp only [Act.put,List.setIfInBounds_toArray,List.set_cons_zero,List.set_cons_succ,i64_w,i32_w]
           rfl
          exact norm_ (by first|(simp only [putAll,Act.put,List.setIfInBounds_toArray,List.set_cons_zero,List.set_cons_succ];done)|(simp only [putAll,Act.put,List.setIfInBounds_toArray,List.set_cons_zero,List.set_cons_succ];rfl)) (hJ0_2_6 (v109,v112,gb117) _ ⟨(by (with_reducible repeat (first|apply zrA|apply zrN|apply zrD));exact HO110.out),(by (with_reducible repeat (first|apply zrA|apply zrN|apply zrD));exact HO113.out),(by (with_reducible repeat (first|refine zbN ?_ _|refine zbD ?_|refine zbA ?_ _));exact BK106.out),(by (with_reducible repeat (first|refine zbN ?_ _|refine zbD ?_|refine zbA ?_ _));exact BK117.out),GW117.out,GE117.out,NB106_117.out,NB117_106.out,(by repeat (first|(with_reducible first|exact HB.out|apply zlA|apply zlN|apply zlD|refine zlS ?_ GE106.out|refine zlS ?_ GE117.out)|exact HB.out))⟩)
       ·skip
        rintro ⟨v109,v115,gb117⟩ w15 ⟨h0_,h1_,h2_,h3_,h4_,h5_,h6_,h7_,h8_⟩
        have n0_:Aside0 (Kd.R (Kd.int .i64) 3 w15 w.heap.size (fun _=>True) v109 y108):=⟨h0_⟩
        have n1_:Aside0 (Kd.R (Kd.int .i64) 2 w15 w.heap.size (fun _=>True) v115 y114):=⟨h1_⟩
        have n2_:Aside0 (w15.heap[gb106]?=some (.cells #[.slice none 0 0,.slice none 0 0] 25 (0,0))):=⟨h2_⟩
        have n3_:Aside0 (w15.heap[gb117]?=some (.cells #[.slice none 0 0,.slice none 0 0] 25 (0,0))):=⟨h3_⟩
        have n4_:Aside0 (w.heap.size≤gb117):=⟨h4_⟩
        have n5_:Aside0 (w.heap.size≤gb117):=⟨h5_⟩
        have n6_:Aside0 (gb106≠gb117):=⟨h6_⟩
        have n7_:Aside0 (gb117≠gb106):=⟨h7_⟩
        have n8_:Aside0 (Below w.heap.size w w15):=⟨h8_⟩
        clear BK106 HB h0_ h1_ h2_ h3_ h4_ h5_ h6_ h7_ h8_
        have HO110:=n0_
        have HO116:=n1_
        have BK106:=n2_
        have BK117:=n3_
        have GW117:=n4_
        have GE117:=n5_
        have NB106_117:=n6_
        have NB117_106:=n7_
        have HB:=n8_
        clear n0_ n1_ n2_ n3_ n4_ n5_ n6_ n7_ n8_
        have hHeld:=trivial
        obtain ⟨Ao16,co16,eo16⟩:=Kd.R_slice HO110.out
        (first|subst eo16|(injection eo16 with f1_ f2_ f3_;have f4_:=f1_.symm;have f5_:=f3_.symm;clear f1_ f2_ f3_;subst f4_;subst f5_))
        refine norm_ (a':=?_) ?_ ?_
        rotate_left
        ·simp only [putAll,Act.put,List.setIfInBounds_toArray,List.set_cons_zero,List.set_cons_succ]
         rfl
        refine one_ (i:=2) (N:=some 15) #[true,true,true,true,true,false,true,false] rfl rfl (one_of HT_.out (by kernel_rfl)) (by decide) (fun K hK=>?_)
        refine goes_ Try.func36 (by kernel_rfl) rfl #[.slice Ao16 y108.length co16,.int .i64 a0] (by rfl) rfl rfl (by (try simp only [List.map_toArray,List.map_cons,List.map_nil]);first|done|rfl|(simp only [List.length_drop,List.length_take];rfl)) ?_
        with_reducible refine (slices_Repeat_int_int.calls _ _ y108 a0 t111 _ ?side1 ?side2 A5.out).mono ?_
        (case side1=>repeat (first|exact (Kd.R_reads' HO110.out).2.2|(with_reducible refine Kd.C_alloc ?_ _)|(with_reducible refine Kd.C_drewN ?_ _)|(with_reducible refine Kd.C_drew ?_)))
        (case side2=>exact (Kd.R_reads' HO110.out).2.1)
        rintro e w17 ⟨v112,rfl,ho0,hb⟩
        refine ⟨_,rfl,?_⟩
        have n0_:=zm (Kd.R_elder' (by (with_reducible repeat (first|apply zrA|apply zrN|apply zrD));exact HO110.out) (Kd.R_base ho0) hb)
        have n1_:=zm (Kd.R_below (by (with_reducible repeat (first|apply zrA|apply zrN|apply zrD));exact HO116.out) hb)
        have n2_:=zm (Kd.R_lower (Kd.R_new' ho0 (Kd.R_lt (by (with_reducible repeat (first|apply zrA|apply zrN|apply zrD));exact HO110.out))) (below_size (by repeat (first|(with_reducible first|exact HB.out|apply zlA|apply zlN|apply zlD|refine zlS ?_ GE106.out|refine zlS ?_ GE117.out)|exact HB.out))))
        have n3_:=zm (zbB (g:=gb106) (o:=.cells #[.slice none 0 0,.slice none 0 0] 25 (0,0)) (by (with_reducible repeat (first|refine zbN ?_ _|refine zbD ?_|refine zbA ?_ _));exact BK106.out) hb)
        have n4_:=zm (zbB (g:=gb117) (o:=.cells #[.slice none 0 0,.slice none 0 0] 25 (0,0)) (by (with_reducible repeat (first|refine zbN ?_ _|refine zbD ?_|refine zbA ?_ _));exact BK117.out) hb)
        have n5_:=zm (below_step (by repeat (first|(with_reducible first|exact HB.out|apply zlA|apply zlN|apply zlD|refine zlS ?_ GE106.out|refine zlS ?_ GE117.out)|exact HB.out)) hb)
        clear HO110 HO116 BK106 BK117 HB
        have HO110:=n0_
        have HO116:=n1_
        have HO113:=n2_
        have BK106:=n3_
        have BK117:=n4_
        have HB:=n5_
        clear n0_ n1_ n2_ n3_ n4_ n5_
        (try clear hb)
        (try clear hb2)
        (try clear hk)
        (try clear hi)
        (try clear ho0)
        obtain ⟨Ao18,co18,eo18⟩:=Kd.R_slice HO116.out
        (first|subst eo18|(injection eo18 with f1_ f2_ f3_;have f4_:=f1_.symm;have f5_:=f3_.symm;clear f1_ f2_ f3_;subst f4_;subst f5_))
        obtain ⟨Ao19,co19,eo19⟩:=Kd.R_slice HO113.out
        (first|subst eo19|(injection eo19 with f1_ f2_ f3_;have f4_:=f1_.symm;have f5_:=f3_.symm;clear f1_ f2_ f3_;subst f4_;subst f5_))
        refine hK.out _ _ trivial (fun hHeld=>?_)
        clear hK K
        refine norm_ (a':=?_) ?_ ?_
        rotate_left
        ·show Act.put _ (some 15) _=_
         simp only [Act.put,List.setIfInBounds_toArray,List.set_cons_zero,List.set_cons_succ,i64_w,i32_w]
         rfl
        refine pure_ (i:=5) (N:=some 18) (v:=?_) (a':=?_) #[true,true,true,true,true,true,true,false] rfl rfl (any_of HT_.out (by kernel_rfl)) (fun _ _ _ h=>h) (Or.inl ⟨by rfl,?_⟩) ?_ ?_
        rotate_left
        ·intro w'
         go_simp
         with_reducible rfl
        rotate_left
        ·simp only [Act.put,List.setIfInBounds_toArray,List.set_cons_zero,List.set_cons_succ,i64_w,i32_w]
         rfl
        exact norm_ (by first|(simp only [putAll,Act.put,List.setIfInBounds_toArray,List.set_cons_zero,List.set_cons_succ];done)|(simp only [putAll,Act.put,List.setIfInBounds_toArray,List.set_cons_zero,List.set_cons_succ];rfl)) (hJ0_2_4_6 (.slice Ao16 y108.length co16,.slice Ao19 t111.length co19,.slice Ao18 y114.length co18,gb117) _ ⟨(by (with_reducible repeat (first|apply zrA|apply zrN|apply zrD));exact Kd.R_mono HO110.out (fun _ hk=>hk.2)),(by (with_reducible repeat (first|apply zrA|apply zrN|apply zrD));exact Kd.R_mono HO113.out (fun _ hk=>hk.2)),(by (with_reducible repeat (first|apply zrA|apply zrN|apply zrD));exact HO116.out),(by (with_reducible repeat (first|refine zbN ?_ _|refine zbD ?_|refine zbA ?_ _));exact BK106.out),(by (with_reducible repeat (first|refine zbN ?_ _|refine zbD ?_|refine zbA ?_ _));exact BK117.out),GW117.out,GE117.out,NB106_117.out,NB117_106.out,(by repeat (first|(with_reducible first|exact HB.out|apply zlA|apply zlN|apply zlD|refine zlS ?_ GE106.out|refine zlS ?_ GE117.out)|exact HB.out))⟩)
      ·skip
       rintro ⟨v109,v112,gb117⟩ w15 ⟨h0_,h1_,h2_,h3_,h4_,h5_,h6_,h7_,h8_⟩
       have n0_:Aside0 (Kd.R (Kd.int .i64) 3 w15 w.heap.size (fun k_=>some k_≠(v112:Value).ownBlock) v109 y108):=⟨h0_⟩
       have n1_:Aside0 (Kd.R (Kd.int .i64) 3 w15 w.heap.size (fun k_=>some k_≠(v109:Value).ownBlock) v112 t111):=⟨h1_⟩
       have n2_:Aside0 (w15.heap[gb106]?=some (.cells #[.slice none 0 0,.slice none 0 0] 25 (0,0))):=⟨h2_⟩
       have n3_:Aside0 (w15.heap[gb117]?=some (.cells #[.slice none 0 0,.slice none 0 0] 25 (0,0))):=⟨h3_⟩
       have n4_:Aside0 (w.heap.size≤gb117):=⟨h4_⟩
       have n5_:Aside0 (w.heap.size≤gb117):=⟨h5_⟩
       have n6_:Aside0 (gb106≠gb117):=⟨h6_⟩
       have n7_:Aside0 (gb117≠gb106):=⟨h7_⟩
       have n8_:Aside0 (Below w.heap.size w w15):=⟨h8_⟩
       clear BK106 HB h0_ h1_ h2_ h3_ h4_ h5_ h6_ h7_ h8_
       have HO110:=n0_
       have HO113:=n1_
       have BK106:=n2_
       have BK117:=n3_
       have GW117:=n4_
       have GE117:=n5_
       have NB106_117:=n6_
       have NB117_106:=n7_
       have HB:=n8_
       clear n0_ n1_ n2_ n3_ n4_ n5_ n6_ n7_ n8_
       have hHeld:=trivial
       refine norm_ (a':=?_) ?_ ?_
       rotate_left
       ·simp only [putAll,Act.put,List.setIfInBounds_toArray,List.set_cons_zero,List.set_cons_succ]
        rfl
       refine one_ (i:=4) (N:=some 17) #[true,true,true,true,true,false,true,false] rfl rfl (one_of HT_.out (by kernel_rfl)) (by decide) (fun K hK=>?_)
       refine Kd.R_make_step (Kd.int .i64) _ 2 (by rfl) (N:=17) rfl 23 _ _ rfl a0 rfl rfl Try.underlying23 (.int .i64 0) 8 info2 rfl (by decide) (by omega) 0 (ok:=fun _=>True) (okp:=fun _=>True) rfl (fun _ hk=>hk) trivial (of_decide_eq_true (by first|(with_reducible assumption)|assumption)) (Nat.le_trans (Nat.mul_le_mul_right _ (of_decide_eq_true (by first|(with_reducible assumption)|assumption):a0.toNat≤35184372088832)) (by omega)) (Below.refl _ _) (Nat.le_refl _) ?_
       intro v115 w16 ho17 hb hg_ hnew_
       clear hg_ hnew_
       (first|rw [← Ny114.out] at ho17|(simp only [Int.reduceToNat] at ho17;rw [← Ny114.out] at ho17))
       have n0_:=zm (Kd.R_below (by (with_reducible repeat (first|apply zrA|apply zrN|apply zrD));exact HO110.out) hb)
       have n1_:=zm (Kd.R_below (by (with_reducible repeat (first|apply zrA|apply zrN|apply zrD));exact HO113.out) hb)
       have n2_:=zm (Kd.R_lower ho17 (below_size (by repeat (first|(with_reducible first|exact HB.out|apply zlA|apply zlN|apply zlD|refine zlS ?_ GE106.out|refine zlS ?_ GE117.out)|exact HB.out))))
       have n3_:=zm (zbB (g:=gb106) (o:=.cells #[.slice none 0 0,.slice none 0 0] 25 (0,0)) (by (with_reducible repeat (first|refine zbN ?_ _|refine zbD ?_|refine zbA ?_ _));exact BK106.out) hb)
       have n4_:=zm (zbB (g:=gb117) (o:=.cells #[.slice none 0 0,.slice none 0 0] 25 (0,0)) (by (with_reducible repeat (first|refine zbN ?_ _|refine zbD ?_|refine zbA ?_ _));exact BK117.out) hb)
       have n5_:=zm (below_step (by repeat (first|(with_reducible first|exact HB.out|apply zlA|apply zlN|apply zlD|refine zlS ?_ GE106.out|refine zlS ?_ GE117.out)|exact HB.out)) hb)
       clear HO110 HO113 BK106 BK117 HB
       have HO110:=n0_
       have HO113:=n1_
       have HO116:=n2_
       have BK106:=n3_
       have BK117:=n4_
       have HB:=n5_
       clear n0_ n1_ n2_ n3_ n4_ n5_ hb ho17
       obtain ⟨Ao18,co18,eo18⟩:=Kd.R_slice HO116.out
       (first|subst eo18|(injection eo18 with f1_ f2_ f3_;have f4_:=f1_.symm;have f5_:=f3_.symm;clear f1_ f2_ f3_;subst f4_;subst f5_))
       obtain ⟨Ao19,co19,eo19⟩:=Kd.R_slice HO113.out
       (first|subst eo19|(injection eo19 with f1_ f2_ f3_;have f4_:=f1_.symm;have f5_:=f3_.symm;clear f1_ f2_ f3_;subst f4_;subst f5_))
       refine hK.out _ _ trivial (fun hHeld=>?_)
       clear hK K
       refine norm_ (a':=?_) ?_ ?_
       rotate_left
       ·show Act.put _ (some 17) _=_
        simp only [Act.put,List.setIfInBounds_toArray,List.set_cons_zero,List.set_cons_succ,i64_w,i32_w]
        rfl
       refine pure_ (i:=5) (N:=some 18) (v:=?_) (a':=?_) #[true,true,true,true,true,true,true,false] rfl rfl (any_of HT_.out (by kernel_rfl)) (fun _ _ _ h=>h) (Or.inl ⟨by rfl,?_⟩) ?_ ?_
       rotate_left
       ·intro w'
        go_simp
        with_reducible rfl
       rotate_left
       ·simp only [Act.put,List.setIfInBounds_toArray,List.set_cons_zero,List.set_cons_succ,i64_w,i32_w]
        rfl
       exact norm_ (by first|(simp only [putAll,Act.put,List.setIfInBounds_toArray,List.set_cons_zero,List.set_cons_succ];done)|(simp only [putAll,Act.put,List.setIfInBounds_toArray,List.set_cons_zero,List.set_cons_succ];rfl)) (hJ0_2_4_6 (v109,.slice Ao19 t111.length co19,.slice Ao18 y114.length co18,gb117) _ ⟨(by (with_reducible repeat (first|apply zrA|apply zrN|apply zrD));exact HO110.out),(by (with_reducible repeat (first|apply zrA|apply zrN|apply zrD));exact HO113.out),(by (with_reducible repeat (first|apply zrA|apply zrN|apply zrD));exact HO116.out),(by (with_reducible repeat (first|refine zbN ?_ _|refine zbD ?_|refine zbA ?_ _));exact BK106.out),(by (with_reducible repeat (first|refine zbN ?_ _|refine zbD ?_|refine zbA ?_ _));exact BK117.out),GW117.out,GE117.out,NB106_117.out,NB117_106.out,(by repeat (first|(with_reducible first|exact HB.out|apply zlA|apply zlN|apply zlD|refine zlS ?_ GE106.out|refine zlS ?_ GE117.out)|exact HB.out))⟩)
     ·skip
      rintro ⟨v109,v112,v115⟩ w18 ⟨h0_,h1_,h2_,h3_,h4_⟩
      have n0_:Aside0 (Kd.R (Kd.int .i64) 3 w18 w.heap.size (fun k_=>some k_≠(v112:Value).ownBlock) v109 y108):=⟨h0_⟩
      have n1_:Aside0 (Kd.R (Kd.int .i64) 3 w18 w.heap.size (fun k_=>some k_≠(v109:Value).ownBlock) v112 t111):=⟨h1_⟩
      have n2_:Aside0 (Kd.R (Kd.int .i64) 2 w18 w.heap.size (fun _=>True) v115 y114):=⟨h2_⟩
      have n3_:Aside0 (w18.heap[gb106]?=some (.cells #[.slice none 0 0,.slice none 0 0] 25 (0,0))):=⟨h3_⟩
      have n4_:Aside0 (Below w.heap.size w w18):=⟨h4_⟩
      clear BK106 HB h0_ h1_ h2_ h3_ h4_
      have HO110:=n0_
      have HO113:=n1_
      have HO116:=n2_
      have BK106:=n3_
      have HB:=n4_
      clear n0_ n1_ n2_ n3_ n4_
      have hHeld:=trivial
      obtain ⟨Ao19,co19,eo19⟩:=Kd.R_slice HO116.out
      (first|subst eo19|(injection eo19 with f1_ f2_ f3_;have f4_:=f1_.symm;have f5_:=f3_.symm;clear f1_ f2_ f3_;subst f4_;subst f5_))
      obtain ⟨Ao20,co20,eo20⟩:=Kd.R_slice HO113.out
      (first|subst eo20|(injection eo20 with f1_ f2_ f3_;have f4_:=f1_.symm;have f5_:=f3_.symm;clear f1_ f2_ f3_;subst f4_;subst f5_))
      refine norm_ (a':=?_) ?_ ?_
      rotate_left
      ·simp only [putAll,Act.put,List.setIfInBounds_toArray,List.set_cons_zero,List.set_cons_succ]
       rfl
      refine one_ (i:=6) (N:=some 6) #[true,true,true,true,true,true,true,false] rfl rfl (one_of HT_.out (by kernel_rfl)) (by decide) (fun K hK=>?_)
      refine box_step ?hg (N:=6) ?hd (cs:=#[.slice none 0 0,.slice none 0 0]) (t:=25) ?hr ?_;(case hd=>rfl);(case hg=>rfl);(case hr=>first|(go_simp;done)|(go_simp;rfl))
      intro gb117 hg w21 hbox hb
      have n0_:=zm (Kd.R_below (by (with_reducible repeat (first|apply zrA|apply zrN|apply zrD));exact HO110.out) hb)
      have n1_:=zm (Kd.R_below (by (with_reducible repeat (first|apply zrA|apply zrN|apply zrD));exact HO113.out) hb)
      have n2_:=zm (Kd.R_below (by (with_reducible repeat (first|apply zrA|apply zrN|apply zrD));exact HO116.out) hb)
      have n3_:=zm (zbB (g:=gb106) (o:=.cells #[.slice none 0 0,.slice none 0 0] 25 (0,0)) (by (with_reducible repeat (first|refine zbN ?_ _|refine zbD ?_|refine zbA ?_ _));exact BK106.out) hb)
      have n4_:=zm (below_step (by repeat (first|(with_reducible first|exact HB.out|apply zlA|apply zlN|apply zlD|refine zlS ?_ GE106.out)|exact HB.out)) hb)
      have n5_:=zm (hbox)
      have n6_:=zm ((by rw [hg];exact (below_size (by repeat (first|(with_reducible first|exact HB.out|apply zlA|apply zlN|apply zlD|refine zlS ?_ GE106.out)|exact HB.out))):w.heap.size≤gb117))
      have n7_:=zm ((by rw [hg];exact (below_size (by repeat (first|(with_reducible first|exact HB.out|apply zlA|apply zlN|apply zlD|refine zlS ?_ GE106.out)|exact HB.out))):w.heap.size≤gb117))
      have n8_:=zm ((by rw [hg];exact Nat.ne_of_lt (blk_lt (g:=gb106) (o:=.cells #[.slice none 0 0,.slice none 0 0] 25 (0,0)) (by (with_reducible repeat (first|refine zbN ?_ _|refine zbD ?_|refine zbA ?_ _));exact BK106.out)):gb106≠gb117))
      have n9_:=zm ((by rw [hg];exact Nat.ne_of_gt (blk_lt (g:=gb106) (o:=.cells #[.slice none 0 0,.slice none 0 0] 25 (0,0)) (by (with_reducible repeat (first|refine zbN ?_ _|refine zbD ?_|refine zbA ?_ _));exact BK106.out)):gb117≠gb106))
      clear HO110 HO113 HO116 BK106 HB
      have HO110:=n0_
      have HO113:=n1_
      have HO116:=n2_
      have BK106:=n3_
      have HB:=n4_
      have BK117:=n5_
      have GW117:=n6_
      have GE117:=n7_
      have NB106_117:=n8_
      have NB117_106:=n9_
      clear n0_ n1_ n2_ n3_ n4_ n5_ n6_ n7_ n8_ n9_ hb hbox hg
      refine hK.out _ _ trivial (fun hHeld=>?_)
      clear hK K
      refine norm_ (a':=?_) ?_ ?_
      rotate_left
      ·show Act.put _ (some 6) _=_
       simp only [Act.put,List.setIfInBounds_toArray,List.set_cons_zero,List.set_cons_succ,i64_w,i32_w]
       rfl
      exact norm_ (by first|(simp only [putAll,Act.put,List.setIfInBounds_toArray,List.set_cons_zero,List.set_cons_succ];done)|(simp only [putAll,Act.put,List.setIfInBounds_toArray,List.set_cons_zero,List.set_cons_succ];rfl)) (hJ0_2_4_6 (v109,.slice Ao20 t111.length co20,.slice Ao19 y114.length co19,gb117) _ ⟨(by (with_reducible repeat (first|apply zrA|apply zrN|apply zrD));exact HO110.out),(by (with_reducible repeat (first|apply zrA|apply zrN|apply zrD));exact HO113.out),(by (with_reducible repeat (first|apply zrA|apply zrN|apply zrD));exact HO116.out),(by (with_reducible repeat (first|refine zbN ?_ _|refine zbD ?_|refine zbA ?_ _));exact BK106.out),(by (with_reducible repeat (first|refine zbN ?_ _|refine zbD ?_|refine zbA ?_ _));exact BK117.out),GW117.out,GE117.out,NB106_117.out,NB117_106.out,(by repeat (first|(with_reducible first|exact HB.out|apply zlA|apply zlN|apply zlD|refine zlS ?_ GE106.out|refine zlS ?_ GE117.out)|exact HB.out))⟩)
    rintro ⟨v109,v112,v115,gb117⟩ w19 ⟨h0_,h1_,h2_,h3_,h4_,h5_,h6_,h7_,h8_,h9_⟩
    have n0_:Aside0 (Kd.R (Kd.int .i64) 3 w19 w.heap.size (fun k_=>some k_≠(v112:Value).ownBlock) v109 y108):=⟨h0_⟩
    have n1_:Aside0 (Kd.R (Kd.int .i64) 3 w19 w.heap.size (fun k_=>some k_≠(v109:Value).ownBlock) v112 t111):=⟨h1_⟩
    have n2_:Aside0 (Kd.R (Kd.int .i64) 2 w19 w.heap.size (fun _=>True) v115 y114):=⟨h2_⟩
    have n3_:Aside0 (w19.heap[gb106]?=some (.cells #[.slice none 0 0,.slice none 0 0] 25 (0,0))):=⟨h3_⟩
    have n4_:Aside0 (w19.heap[gb117]?=some (.cells #[.slice none 0 0,.slice none 0 0] 25 (0,0))):=⟨h4_⟩
    have n5_:Aside0 (w.heap.size≤gb117):=⟨h5_⟩
    have n6_:Aside0 (w.heap.size≤gb117):=⟨h6_⟩
    have n7_:Aside0 (gb106≠gb117):=⟨h7_⟩
    have n8_:Aside0 (gb117≠gb106):=⟨h8_⟩
    have n9_:Aside0 (Below w.heap.size w w19):=⟨h9_⟩
    clear BK106 HB h0_ h1_ h2_ h3_ h4_ h5_ h6_ h7_ h8_ h9_
    have HO110:=n0_
    have HO113:=n1_
    have HO116:=n2_
    have BK106:=n3_
    have BK117:=n4_
    have GW117:=n5_
    have GE117:=n6_
    have NB106_117:=n7_
    have NB117_106:=n8_
    have HB:=n9_
    clear n0_ n1_ n2_ n3_ n4_ n5_ n6_ n7_ n8_ n9_
    have hHeld:=trivial
    obtain ⟨Ao20,co20,eo20⟩:=Kd.R_slice HO116.out
    (first|subst eo20|(injection eo20 with f1_ f2_ f3_;have f4_:=f1_.symm;have f5_:=f3_.symm;clear f1_ f2_ f3_;subst f4_;subst f5_))
    obtain ⟨Ao21,co21,eo21⟩:=Kd.R_slice HO113.out
    (first|subst eo21|(injection eo21 with f1_ f2_ f3_;have f4_:=f1_.symm;have f5_:=f3_.symm;clear f1_ f2_ f3_;subst f4_;subst f5_))
    refine norm_ (a':=?_) ?_ ?_
    rotate_left
    ·simp only [putAll,Act.put,List.setIfInBounds_toArray,List.set_cons_zero,List.set_cons_succ]
     rfl
    refine one_ (i:=7) (N:=none) #[true,true,true,true,true,true,true,true] rfl rfl (one_of HT_.out (by kernel_rfl)) (by decide) (fun K hK=>?_)
    have hs22:w19.cell? ⟨gb117,0,none⟩=some (.slice none 0 0):=(blk_cell BK117.out 0).trans rfl
    have hfs22:=blk_frozen BK117.out 0
    have hns22_0:=NB106_117.out
    have hms22_0:=NB117_106.out
    have hs23:w19.cell? ⟨gb117,1,none⟩=some (.slice none 0 0):=(blk_cell BK117.out 1).trans rfl
    have hfs23:=blk_frozen BK117.out 1
    have hns23_0:=NB106_117.out
    have hms23_0:=NB117_106.out
    refine skip_ (w1:=?_) (by rfl) rfl ?_ ?_
    rotate_left
    ·go_simp
     rfl
    refine hK.out _ _ trivial (fun hHeld=>?_)
    clear hK K
    refine done_ (done_of HT_.out (by kernel_rfl)) ?_
    try go_wp2
    go_loopg [21] k (fun kq v21 w'=>∃ (x21_1:Int) (x118000_1:List Int) (u118000:Value),v21=.int .i64 x21_1∧Aside0 (pool_New.l0 kq a0 l1 (l1.length:Int) x21_1 x118000_1 y114=some (r1,r2,r3))∧Aside0 (kq≤k)∧Aside0 (Kd.R (Kd.int .i64) 3 w' w.heap.size (fun _=>True) u118000 x118000_1)∧Aside0 (Kd.R (Kd.int .i64) 2 w' w.heap.size (fun _=>True) (.slice Ao20 y114.length co20) y114)∧Aside0 (w'.heap[gb106]?=some (.cells #[(.slice none 0 0),(.slice none 0 0)] 25 (0,0)))∧Aside0 (w'.heap[gb117]?=some (.cells #[u118000,(.slice Ao20 y114.length co20)] 25 (0,0)))∧Aside0 (Below w.heap.size w w'))
    case atStart=>exact ⟨(0),(t111),(.slice Ao21 t111.length co21),(by first|rfl|(simp;done)|(simp [*];done)),H',⟨Nat.le_refl _⟩,⟨by (with_reducible repeat (first|apply zrA|apply zrN|apply zrD));exact Kd.R_mono (Kd.R_far (p:=⟨gb117,1,none⟩) (Kd.R_far (p:=⟨gb117,0,none⟩) (Kd.R_types HO113.out BK117.out (by decide)) (fun _ hk=>hk.2) (.slice Ao21 t111.length co21)) (fun _ hk=>hk.2) (.slice Ao20 y114.length co20)) (fun _ hk=>trivial)⟩,⟨by (with_reducible repeat (first|apply zrA|apply zrN|apply zrD));exact Kd.R_mono (Kd.R_far (p:=⟨gb117,1,none⟩) (Kd.R_far (p:=⟨gb117,0,none⟩) (Kd.R_types HO116.out BK117.out (by decide)) (fun _ hk=>hk.2) (.slice Ao21 t111.length co21)) (fun _ hk=>hk.2) (.slice Ao20 y114.length co20)) (fun _ hk=>trivial)⟩,⟨by (with_reducible repeat (first|refine zbN ?_ _|refine zbD ?_|refine zbA ?_ _));refine blk_far ?_ NB106_117.out _;(with_reducible repeat (first|refine zbN ?_ _|refine zbD ?_|refine zbA ?_ _));refine blk_far ?_ NB106_117.out _;(with_reducible repeat (first|refine zbN ?_ _|refine zbD ?_|refine zbA ?_ _));exact BK106.out⟩,⟨by (with_reducible repeat (first|refine zbN ?_ _|refine zbD ?_|refine zbA ?_ _));refine blk_put (cs:=#[.slice Ao21 t111.length co21,.slice none 0 0]) ?_ 1 _ rfl;(with_reducible repeat (first|refine zbN ?_ _|refine zbD ?_|refine zbA ?_ _));refine blk_put (cs:=#[.slice none 0 0,.slice none 0 0]) ?_ 0 _ rfl;(with_reducible repeat (first|refine zbN ?_ _|refine zbD ?_|refine zbA ?_ _));exact BK117.out⟩,⟨by repeat (first|(with_reducible first|exact HB.out|apply zlA|apply zlN|apply zlD|refine zlS ?_ GE106.out|refine zlS ?_ GE117.out)|exact HB.out)⟩⟩
    case round =>
     clear H'
     try clear p2
     try clear c3
     obtain ⟨x21_1,x118000_1,u118000,rfl,HA,HK1,HO_118000,HO_118001,BK106,BK117,HB⟩:=hrel
     cases gk with
     | zero=>exact absurd HA.out (by simp [pool_New.l0])
     | succ k1 =>
      have H:=HA.out
      clear HA
      simp only [pool_New.l0] at H
      by_cases c24:x21_1 < (l1.length:Int)
      ·rw [if_pos c24] at H
       have c24b0:decide (x21_1 < (l1.length:Int))=true:=decide_eq_true c24
       clear c24
       by_cases c25:0≤x21_1
       ·rw [if_pos c25] at H
        have c25b0:decide (0≤x21_1)=true:=decide_eq_true c25
        clear c25
        by_cases c26:x21_1 < (l1.length:Int)
        ·rw [if_pos c26] at H
         have c26b0:decide (x21_1 < (l1.length:Int))=true:=decide_eq_true c26
         clear c26
         by_cases c27:(rd l1 x21_1) < 0
         ·rw [if_pos c27] at H
          have c27b0:decide ((rd l1 x21_1) < 0)=true:=decide_eq_true c27
          clear c27
          simp only [Option.some.injEq,Prod.mk.injEq] at H
          obtain ⟨rfl,rfl,rfl⟩:=H
          have p118:0≤(x21_1:Int):=of_decide_eq_true (by first|(with_reducible assumption)|assumption)
          have q118:x21_1 < (l1.length:Int):=of_decide_eq_true (by first|(with_reducible assumption)|assumption)
          obtain ⟨ad118,e118,hx118_0⟩:=Kd.at_int HR1.out x21_1 p118 q118
          cases e118
          replace hx118_0:=(HB.out.cell (World.block_lt_of_cell? w _ hx118_0)).trans hx118_0
          replace p118:=eq_true p118
          replace q118:=eq_true q118
          have hnb28:=NB106_117.out
          have hnc28:=NB117_106.out
          have hcz29_0:wr.cell? ⟨gb106,0,none⟩=some (.slice none 0 0):=(blk_cell BK106.out 0).trans rfl
          have hcz29_1:wr.cell? ⟨gb106,1,none⟩=some (.slice none 0 0):=(blk_cell BK106.out 1).trans rfl
          have hfz29_0:=blk_frozen BK106.out 0
          have hfz29_1:=blk_frozen BK106.out 1
          go_wp2
          refine bodyPost_ret (results_ct rfl _ _ gb106 25 #[.slice none 0 0,.slice none 0 0] (0,0) _ rfl (by (with_reducible repeat (first|refine zbN ?_ _|refine zbD ?_|refine zbA ?_ _));refine blk_put (cs:=#[.slice none 0 0,.slice none 0 0]) ?_ 1 _ rfl;(with_reducible repeat (first|refine zbN ?_ _|refine zbD ?_|refine zbA ?_ _));refine blk_put (cs:=#[.slice none 0 0,.slice none 0 0]) ?_ 0 _ rfl;(with_reducible repeat (first|refine zbN ?_ _|refine zbD ?_|refine zbA ?_ _));exact BK106.out) Try.underlying25 rfl (by kernel_rfl)) rfl ?_
          exact ⟨_,_,by first|rfl|(simp [errW_none,errW_some] <;> rfl)|(simp [*,errW_none,errW_some] <;> rfl),by first|exact Kd.R_nil _ _ _ _ _|exact Kd.N_nil _ _ _ _ _|exact Kd.V_nil _ _ _ _ _|exact Kd.Q_nil _ _ _ _ _|exact Kd.S_nil _ _ _ _ _,by first|exact Kd.R_nil _ _ _ _ _|exact Kd.N_nil _ _ _ _ _|exact Kd.V_nil _ _ _ _ _|exact Kd.Q_nil _ _ _ _ _|exact Kd.S_nil _ _ _ _ _,by repeat (first|(with_reducible first|exact HB.out|apply zlA|apply zlN|apply zlD|refine zlS ?_ GE106.out|refine zlS ?_ GE117.out)|exact HB.out)⟩
         ·rw [if_neg c27] at H
          have c27b0:decide ((rd l1 x21_1) < 0)=false:=decide_eq_false c27
          clear c27
          by_cases c30:(rd l1 x21_1) ≥ a0
          ·rw [if_pos c30] at H
           have c30b0:decide (a0≤(rd l1 x21_1))=true:=decide_eq_true c30
           clear c30
           simp only [Option.some.injEq,Prod.mk.injEq] at H
           obtain ⟨rfl,rfl,rfl⟩:=H
           have p118:0≤(x21_1:Int):=of_decide_eq_true (by first|(with_reducible assumption)|assumption)
           have q118:x21_1 < (l1.length:Int):=of_decide_eq_true (by first|(with_reducible assumption)|assumption)
           obtain ⟨ad118,e118,hx118_0⟩:=Kd.at_int HR1.out x21_1 p118 q118
           cases e118
           replace hx118_0:=(HB.out.cell (World.block_lt_of_cell? w _ hx118_0)).trans hx118_0
           replace p118:=eq_true p118
           replace q118:=eq_true q118
           have hnb31:=NB106_117.out
           have hnc31:=NB117_106.out
           have hcz32_0:wr.cell? ⟨gb106,0,none⟩=some (.slice none 0 0):=(blk_cell BK106.out 0).trans rfl
           have hcz32_1:wr.cell? ⟨gb106,1,none⟩=some (.slice none 0 0):=(blk_cell BK106.out 1).trans rfl
           have hfz32_0:=blk_frozen BK106.out 0
           have hfz32_1:=blk_frozen BK106.out 1
           go_wp2
           refine bodyPost_ret (results_ct rfl _ _ gb106 25 #[.slice none 0 0,.slice none 0 0] (0,0) _ rfl (by (with_reducible repeat (first|refine zbN ?_ _|refine zbD ?_|refine zbA ?_ _));refine blk_put (cs:=#[.slice none 0 0,.slice none 0 0]) ?_ 1 _ rfl;(with_reducible repeat (first|refine zbN ?_ _|refine zbD ?_|refine zbA ?_ _));refine blk_put (cs:=#[.slice none 0 0,.slice none 0 0]) ?_ 0 _ rfl;(with_reducible repeat (first|refine zbN ?_ _|refine zbD ?_|refine zbA ?_ _));exact BK106.out) Try.underlying25 rfl (by kernel_rfl)) rfl ?_
           exact ⟨_,_,by first|rfl|(simp [errW_none,errW_some] <;> rfl)|(simp [*,errW_none,errW_some] <;> rfl),by first|exact Kd.R_nil _ _ _ _ _|exact Kd.N_nil _ _ _ _ _|exact Kd.V_nil _ _ _ _ _|exact Kd.Q_nil _ _ _ _ _|exact Kd.S_nil _ _ _ _ _,by first|exact Kd.R_nil _ _ _ _ _|exact Kd.N_nil _ _ _ _ _|exact Kd.V_nil _ _ _ _ _|exact Kd.Q_nil _ _ _ _ _|exact Kd.S_nil _ _ _ _ _,by repeat (first|(with_reducible first|exact HB.out|apply zlA|apply zlN|apply zlD|refine zlS ?_ GE106.out|refine zlS ?_ GE117.out)|exact HB.out)⟩
          ·rw [if_neg c30] at H
           have c30b0:decide (a0≤(rd l1 x21_1))=false:=decide_eq_false c30
           clear c30
           by_cases c33:0≤(rd l1 x21_1)
           ·rw [if_pos c33] at H
            have c33b0:decide (0≤(rd l1 x21_1))=true:=decide_eq_true c33
            clear c33
            by_cases c34:(rd l1 x21_1) < (x118000_1.length:Int)
            ·rw [if_pos c34] at H
             have c34b0:decide ((rd l1 x21_1) < (x118000_1.length:Int))=true:=decide_eq_true c34
             clear c34
             by_cases c35:(rd x118000_1 (rd l1 x21_1))=6
             ·rw [if_pos c35] at H
              have c35b0:((rd x118000_1 (rd l1 x21_1)) == 6)=true:=beq_iff_eq.mpr c35
              have c35b1:((rd x118000_1 (rd l1 x21_1)) != 6)=false:=bne_eq_false_iff_eq.mpr c35
              clear c35
              simp only [Option.some.injEq,Prod.mk.injEq] at H
              obtain ⟨rfl,rfl,rfl⟩:=H
              have p118:0≤(x21_1:Int):=of_decide_eq_true (by first|(with_reducible assumption)|assumption)
              have q118:x21_1 < (l1.length:Int):=of_decide_eq_true (by first|(with_reducible assumption)|assumption)
              obtain ⟨ad118,e118,hx118_0⟩:=Kd.at_int HR1.out x21_1 p118 q118
              cases e118
              replace hx118_0:=(HB.out.cell (World.block_lt_of_cell? w _ hx118_0)).trans hx118_0
              replace p118:=eq_true p118
              replace q118:=eq_true q118
              have hnb36:=NB117_106.out
              have hnc36:=NB106_117.out
              have hcz37_0:wr.cell? ⟨gb117,0,none⟩=some (u118000):=(blk_cell BK117.out 0).trans rfl
              have hcz37_1:wr.cell? ⟨gb117,1,none⟩=some (.slice Ao20 y114.length co20):=(blk_cell BK117.out 1).trans rfl
              have hfz37_0:=blk_frozen BK117.out 0
              have hfz37_1:=blk_frozen BK117.out 1
              obtain ⟨Ao38,co38,eo38⟩:=Kd.R_slice HO_118000.out
              subst eo38
              have p119:0≤((rd l1 x21_1):Int):=of_decide_eq_true (by first|(with_reducible assumption)|assumption)
              have q119:(rd l1 x21_1) < (x118000_1.length:Int):=of_decide_eq_true (by first|(with_reducible assumption)|assumption)
              obtain ⟨ad119,e119,hx119_0⟩:=Kd.at_int (Kd.R_reads' HO_118000.out).2.2 (rd l1 x21_1) p119 q119
              cases e119
              replace p119:=eq_true p119
              replace q119:=eq_true q119
              have hcz39_0:wr.cell? ⟨gb106,0,none⟩=some (.slice none 0 0):=(blk_cell BK106.out 0).trans rfl
              have hcz39_1:wr.cell? ⟨gb106,1,none⟩=some (.slice none 0 0):=(blk_cell BK106.out 1).trans rfl
              have hfz39_0:=blk_frozen BK106.out 0
              have hfz39_1:=blk_frozen BK106.out 1
              go_wp2
              refine bodyPost_ret (results_ct rfl _ _ gb106 25 #[.slice none 0 0,.slice none 0 0] (0,0) _ rfl (by (with_reducible repeat (first|refine zbN ?_ _|refine zbD ?_|refine zbA ?_ _));refine blk_put (cs:=#[.slice none 0 0,.slice none 0 0]) ?_ 1 _ rfl;(with_reducible repeat (first|refine zbN ?_ _|refine zbD ?_|refine zbA ?_ _));refine blk_put (cs:=#[.slice none 0 0,.slice none 0 0]) ?_ 0 _ rfl;(with_reducible repeat (first|refine zbN ?_ _|refine zbD ?_|refine zbA ?_ _));exact BK106.out) Try.underlying25 rfl (by kernel_rfl)) rfl ?_
              exact ⟨_,_,by first|rfl|(simp [errW_none,errW_some] <;> rfl)|(simp [*,errW_none,errW_some] <;> rfl),by first|exact Kd.R_nil _ _ _ _ _|exact Kd.N_nil _ _ _ _ _|exact Kd.V_nil _ _ _ _ _|exact Kd.Q_nil _ _ _ _ _|exact Kd.S_nil _ _ _ _ _,by first|exact Kd.R_nil _ _ _ _ _|exact Kd.N_nil _ _ _ _ _|exact Kd.V_nil _ _ _ _ _|exact Kd.Q_nil _ _ _ _ _|exact Kd.S_nil _ _ _ _ _,by repeat (first|(with_reducible first|exact HB.out|apply zlA|apply zlN|apply zlD|refine zlS ?_ GE106.out|refine zlS ?_ GE117.out)|exact HB.out)⟩
             ·rw [if_neg c35] at H
              have c35b0:((rd x118000_1 (rd l1 x21_1)) == 6)=false:=beq_eq_false_iff_ne.mpr c35
              have c35b1:((rd x118000_1 (rd l1 x21_1)) != 6)=true:=bne_iff_ne.mpr c35
              obtain ⟨y120,hy120⟩:∃ y_:List Int,y_=(x118000_1.set ((rd l1 x21_1):Int).toNat 6):=⟨_,rfl⟩
              replace H:(pool_New.l0 k1 a0 l1 (l1.length:Int) (wrap64 (x21_1 + 1)) y120 y114)=some (r1,r2,r3):=by first|(rw [hy120];with_reducible exact H)|(have H2_:=(Option.bind_some _ _).symm.trans H;rw [hy120];with_reducible exact H2_)|(have H2_:=(Option.bind_some _ _).symm.trans H;with_reducible exact H2_)|with_reducible exact H|(rw [hy120];exact H)|exact H
              have Ny120:=zm hy120
              clear hy120
              have H':=zm H
              clear H
              have p118:0≤(x21_1:Int):=of_decide_eq_true (by first|(with_reducible assumption)|assumption)
              have q118:x21_1 < (l1.length:Int):=of_decide_eq_true (by first|(with_reducible assumption)|assumption)
              obtain ⟨ad118,e118,hx118_0⟩:=Kd.at_int HR1.out x21_1 p118 q118
              cases e118
              replace hx118_0:=(HB.out.cell (World.block_lt_of_cell? w _ hx118_0)).trans hx118_0
              replace p118:=eq_true p118
              replace q118:=eq_true q118
              have hnb41:=NB117_106.out
              have hnc41:=NB106_117.out
              have hcz42_0:wr.cell? ⟨gb117,0,none⟩=some (u118000):=(blk_cell BK117.out 0).trans rfl
              have hcz42_1:wr.cell? ⟨gb117,1,none⟩=some (.slice Ao20 y114.length co20):=(blk_cell BK117.out 1).trans rfl
              have hfz42_0:=blk_frozen BK117.out 0
              have hfz42_1:=blk_frozen BK117.out 1
              obtain ⟨Ao43,co43,eo43⟩:=Kd.R_slice HO_118000.out
              subst eo43
              have p119:0≤((rd l1 x21_1):Int):=of_decide_eq_true (by first|(with_reducible assumption)|assumption)
              have q119:(rd l1 x21_1) < (x118000_1.length:Int):=of_decide_eq_true (by first|(with_reducible assumption)|assumption)
              obtain ⟨ad119,e119,hx119_0⟩:=Kd.at_int (Kd.R_reads' HO_118000.out).2.2 (rd l1 x21_1) p119 q119
              cases e119
              replace p119:=eq_true p119
              replace q119:=eq_true q119
              have p40:0≤((rd l1 x21_1):Int):=of_decide_eq_true (by first|(with_reducible assumption)|assumption)
              have q40:((rd l1 x21_1):Int) < ((x118000_1.length:Int):Int):=of_decide_eq_true (by first|(with_reducible assumption)|assumption)
              obtain ⟨go40,co40,eo40,gb40,gl40,cl40,HG40⟩:=Kd.R_form HO_118000.out (by omega)
              (first|cases eo40|(injection eo40 with ea_ en_ ec_;(first|subst ea_|(injection ea_ with ea_;subst ea_));subst ec_;clear en_))
              have GB40:=zm gb40
              have GG40:=zm HG40
              clear gb40 gl40 HG40
              (first|simp only [add_plain] at hx119_0|skip)
              obtain ⟨hx40_0,hf40_0⟩:=Kd.R_celln 0 HO_118000.out ((rd l1 x21_1):Int) p40 q40
              replace p40:=eq_true p40
              replace q40:=eq_true q40
              have HP44:=Kd.R_putg HO_118000.out ((rd l1 x21_1):Int) 6
              go_wp2_with (first|((with_reducible refine gate_store (t:=3) (p:=44) rfl ?_);refine store_event (t:=3) (p:=44) (v:=?vo_w45) (w1:=(wr.setCell ⟨go40,((rd l1 x21_1):Int).toNat,none⟩ (.int .i64 6))) ?hg ?ho ?hn ?hr ?_;(case ho=>rfl);(case hg=>rfl);(case hn=>rfl);(case hr=>first|(go_simp;done)|(go_simp;rfl));intro w45 hw;have hg:wr.grownBy w45 (some go40):=(by rw [hw];exact HP44.2);have hp_:Kd.R (Kd.int .i64) 3 w45 w.heap.size (fun _=>True) (.slice (some ⟨go40,0,none⟩) x118000_1.length co43) y120:=(by rw [hw,Ny120.out];exact HP44.1);clear HP44;have n0_:=zm (hp_);have n1_:=zm (Kd.R_over' (v:=(.slice (some ⟨go40,0,none⟩) x118000_1.length co43)) (by (with_reducible repeat (first|apply zrA|apply zrN|apply zrD));exact HO_118001.out) (Kd.R_typed HO_118000.out) (by decide) hg);have n2_:=zm (blk_grown (g:=gb106) (o:=.cells #[.slice none 0 0,.slice none 0 0] 25 (0,0)) (by (with_reducible repeat (first|refine zbN ?_ _|refine zbD ?_|refine zbA ?_ _));exact BK106.out) hg (Kd.R_ne HO_118000.out BK106.out (by decide)));have n3_:=zm (blk_grown (g:=gb117) (o:=.cells #[.slice (some ⟨go40,0,none⟩) x118000_1.length co43,.slice Ao20 y114.length co20] 25 (0,0)) (by (with_reducible repeat (first|refine zbN ?_ _|refine zbD ?_|refine zbA ?_ _));exact BK117.out) hg (Kd.R_ne HO_118000.out BK117.out (by decide)));have n4_:=zm ((by rw [hw];exact zlS (HB.out) GB40.out:Below w.heap.size w w45));clear HO_118000 HO_118001 BK106 BK117 HB;have HO_118000:=n0_;have HO_118001:=n1_;have BK106:=n2_;have BK117:=n3_;have HB:=n4_;clear n0_ n1_ n2_ n3_ n4_;clear hg hw hp_))
              go_roundg k1
              case measure=>have:=HK1.out;omega
              case rel=>exact ⟨(wrap64 (x21_1 + 1)),(y120),(.slice (some ⟨go40,0,none⟩) x118000_1.length co43),(by first|rfl|(simp;done)|(simp [*];done)),H',⟨by have:=HK1.out;omega⟩,⟨by (with_reducible repeat (first|apply zrA|apply zrN|apply zrD));exact HO_118000.out⟩,⟨by (with_reducible repeat (first|apply zrA|apply zrN|apply zrD));exact HO_118001.out⟩,⟨by (with_reducible repeat (first|refine zbN ?_ _|refine zbD ?_|refine zbA ?_ _));exact BK106.out⟩,⟨by (with_reducible repeat (first|refine zbN ?_ _|refine zbD ?_|refine zbA ?_ _));exact BK117.out⟩,⟨by repeat (first|(with_reducible first|exact HB.out|apply zlA|apply zlN|apply zlD|refine zlS ?_ GE106.out|refine zlS ?_ GE117.out)|exact HB.out)⟩⟩
            ·rw [if_neg c34] at H
             exact absurd H (by simp)
           ·rw [if_neg c33] at H
            exact absurd H (by simp)
        ·rw [if_neg c26] at H
         exact absurd H (by simp)
       ·rw [if_neg c25] at H
        exact absurd H (by simp)
      ·rw [if_neg c24] at H
       have c24b0:decide (x21_1 < (l1.length:Int))=false:=decide_eq_false c24
       clear c24
       simp only [Option.some.injEq,Prod.mk.injEq] at H
       obtain ⟨rfl,rfl,rfl⟩:=H
       have hnb46:=NB117_106.out
       have hnc46:=NB106_117.out
       have hcz47_0:wr.cell? ⟨gb117,0,none⟩=some (u118000):=(blk_cell BK117.out 0).trans rfl
       have hcz47_1:wr.cell? ⟨gb117,1,none⟩=some (.slice Ao20 y114.length co20):=(blk_cell BK117.out 1).trans rfl
       have hfz47_0:=blk_frozen BK117.out 0
       have hfz47_1:=blk_frozen BK117.out 1
       obtain ⟨Ao48,co48,eo48⟩:=Kd.R_slice HO_118000.out
       subst eo48
       have hcz49_0:wr.cell? ⟨gb106,0,none⟩=some (.slice none 0 0):=(blk_cell BK106.out 0).trans rfl
       have hcz49_1:wr.cell? ⟨gb106,1,none⟩=some (.slice none 0 0):=(blk_cell BK106.out 1).trans rfl
       have hfz49_0:=blk_frozen BK106.out 0
       have hfz49_1:=blk_frozen BK106.out 1
       go_wp2
       refine bodyPost_ret (results_ct rfl _ _ gb106 25 #[.slice Ao48 x118000_1.length co48,.slice Ao20 y114.length co20] (0,0) _ rfl (by (with_reducible repeat (first|refine zbN ?_ _|refine zbD ?_|refine zbA ?_ _));refine blk_put (cs:=#[.slice Ao48 x118000_1.length co48,.slice none 0 0]) ?_ 1 _ rfl;(with_reducible repeat (first|refine zbN ?_ _|refine zbD ?_|refine zbA ?_ _));refine blk_put (cs:=#[.slice none 0 0,.slice none 0 0]) ?_ 0 _ rfl;(with_reducible repeat (first|refine zbN ?_ _|refine zbD ?_|refine zbA ?_ _));exact BK106.out) Try.underlying25 rfl (by kernel_rfl)) rfl ?_
       exact ⟨_,_,by first|rfl|(simp [errW_none,errW_some] <;> rfl)|(simp [*,errW_none,errW_some] <;> rfl),by (with_reducible repeat (first|apply zrA|apply zrN|apply zrD));exact Kd.R_mono (Kd.R_far (p:=⟨gb106,1,none⟩) (Kd.R_far (p:=⟨gb106,0,none⟩) (Kd.R_types HO_118000.out BK106.out (by decide)) (fun _ hk=>hk.2) (.slice Ao48 x118000_1.length co48)) (fun _ hk=>hk.2) (.slice Ao20 y114.length co20)) (fun _ hk=>trivial),by (with_reducible repeat (first|apply zrA|apply zrN|apply zrD));exact Kd.R_mono (Kd.R_far (p:=⟨gb106,1,none⟩) (Kd.R_far (p:=⟨gb106,0,none⟩) (Kd.R_types HO_118001.out BK106.out (by decide)) (fun _ hk=>hk.2) (.slice Ao48 x118000_1.length co48)) (fun _ hk=>hk.2) (.slice Ao20 y114.length co20)) (fun _ hk=>trivial),by repeat (first|(with_reducible first|exact HB.out|apply zlA|apply zlN|apply zlD|refine zlS ?_ GE106.out|refine zlS ?_ GE117.out)|exact HB.out)⟩
   ·rw [if_neg c7] at H
    exact absurd H (by simp)
  ·rw [if_neg c6] at H
   exact absurd H (by simp)
 ·replace c4:=Bool.eq_false_iff.mpr c4
  subst c4
  have H1:(some (([]:List Int),([]:List Int),20))=some (r1,r2,r3):=by rw [if_neg (show ¬ (false=true) by decide)] at H;exact H
  clear H
  have H:=H1
  clear H1
  simp only [Option.some.injEq,Prod.mk.injEq] at H
  obtain ⟨rfl,rfl,rfl⟩:=H
  go_enter Try.func8,Try.ntmps8
  go_wp2_with (first|((with_reducible refine gate_dst (N:=4) rfl ?_);refine box_event ?hg (N:=4) ?hd (cs:=#[.slice none 0 0,.slice none 0 0]) (t:=25) ?hr ?_;(case hd=>rfl);(case hg=>rfl);(case hr=>first|(go_simp;done)|(go_simp;rfl));intro gb106 hg w50 hbox hb;have n0_:=zm (below_step (by repeat (first|(with_reducible first|exact HB.out|apply zlA|apply zlN|apply zlD)|exact HB.out)) hb);have n1_:=zm (hbox);have n2_:=zm ((by rw [hg];exact (below_size (by repeat (first|(with_reducible first|exact HB.out|apply zlA|apply zlN|apply zlD)|exact HB.out))):w.heap.size≤gb106));have n3_:=zm ((by rw [hg];exact (below_size (by repeat (first|(with_reducible first|exact HB.out|apply zlA|apply zlN|apply zlD)|exact HB.out))):w.heap.size≤gb106));clear HB;have HB:=n0_;have BK106:=n1_;have GW106:=n2_;have GE106:=n3_;clear n0_ n1_ n2_ n3_;clear hb hbox hg)|((with_reducible refine gate_callee (f:=35) rfl ?_);refine goesL_ (some 10) rfl rfl Try.func35 (by kernel_rfl) rfl #[.int .i64 a0] rfl (by (try simp only [List.map_toArray,List.map_cons,List.map_nil]);first|done|rfl|(simp only [List.length_drop,List.length_take];rfl)) ?_;(with_reducible refine (pool_blocks.calls a0 false _ A3.out).mono ?_);rintro e w' ⟨rfl,⟨nd,rfl⟩⟩;refine ⟨_,rfl,?_⟩;(try (rw [drewN_self w50];generalize hq_:World.drewN w50 _=w50;have n0_:Aside0 (w50.heap[gb106]?=some (.cells #[.slice none 0 0,.slice none 0 0] 25 (0,0))):=⟨by rw [← hq_];exact (by (with_reducible repeat (first|refine zbN ?_ _|refine zbD ?_|refine zbA ?_ _));exact BK106.out)⟩;have n1_:Aside0 (Below w.heap.size w w50):=⟨by rw [← hq_];exact (by repeat (first|(with_reducible first|exact HB.out|apply zlA|apply zlN|apply zlD|refine zlS ?_ GE106.out)|exact HB.out))⟩;clear BK106 HB hq_;have BK106:=n0_;have HB:=n1_;clear n0_ n1_));have hcz51_0:w50.cell? ⟨gb106,0,none⟩=some (.slice none 0 0):=(blk_cell BK106.out 0).trans rfl;have hcz51_1:w50.cell? ⟨gb106,1,none⟩=some (.slice none 0 0):=(blk_cell BK106.out 1).trans rfl;have hfz51_0:=blk_frozen BK106.out 0;have hfz51_1:=blk_frozen BK106.out 1))
  refine bodyPost_ret (results_ct rfl _ _ gb106 25 #[.slice none 0 0,.slice none 0 0] (0,0) _ rfl (by (with_reducible repeat (first|refine zbN ?_ _|refine zbD ?_|refine zbA ?_ _));refine blk_put (cs:=#[.slice none 0 0,.slice none 0 0]) ?_ 1 _ rfl;(with_reducible repeat (first|refine zbN ?_ _|refine zbD ?_|refine zbA ?_ _));refine blk_put (cs:=#[.slice none 0 0,.slice none 0 0]) ?_ 0 _ rfl;(with_reducible repeat (first|refine zbN ?_ _|refine zbD ?_|refine zbA ?_ _));exact BK106.out) Try.underlying25 rfl (by kernel_rfl)) rfl ?_
  exact ⟨_,_,by first|rfl|(simp [errW_none,errW_some] <;> rfl)|(simp [*,errW_none,errW_some] <;> rfl),by first|exact Kd.R_nil _ _ _ _ _|exact Kd.N_nil _ _ _ _ _|exact Kd.V_nil _ _ _ _ _|exact Kd.Q_nil _ _ _ _ _|exact Kd.S_nil _ _ _ _ _,by first|exact Kd.R_nil _ _ _ _ _|exact Kd.N_nil _ _ _ _ _|exact Kd.V_nil _ _ _ _ _|exact Kd.Q_nil _ _ _ _ _|exact Kd.S_nil _ _ _ _ _,by repeat (first|(with_reducible first|exact HB.out|apply zlA|apply zlN|apply zlD|refine zlS ?_ GE106.out)|exact HB.out)⟩
end Go.Proofs.Ytlegmnpngcadhaa.Print
end
section
namespace Go.Proofs.Ytlegmnpngcadhaa.Print
open Go.RowKit Go.Proofs.YtlegmnpngcadhaaW.PrintWords Go.Proofs.YtlegmnpngcadhaaW.PrintLast Go.Proofs.YtlegmnpngcadhaaW.PrintMore
attribute [local go_sem] max2_int min2_int max_two min_two max_three min_three max_four min_four   -- for this text's walks alone
attribute [local go_sem ↓] Go.Proofs.Ytlegmnpngcadhaa.Sem.isSome_setCell
attribute [local go_sem] Go.Instr.field Go.asAgg
set_option linter.unusedVariables false
set_option linter.unusedSimpArgs false
mutual
def pool_Capacity.j0:Nat → Int → Int → Int → Bool → Int → Int → Option (Int × Int)
 | 0,_,_,_,_,_,_=>none
 | k + 1,x1,x2,x3,x11,x136000,x136001=>if x11=true then (some (0,20)) else (if x1 < 0 then (pool_Capacity.j1 k x1 x2 x3 true x136000 x136001) else (if x1 > x136000 then (pool_Capacity.j1 k x1 x2 x3 true x136000 x136001) else (if x2 < 1 then (pool_Capacity.j1 k x1 x2 x3 true x136000 x136001) else (if x2 > 8 then (pool_Capacity.j1 k x1 x2 x3 true x136000 x136001) else (if x3 < 0 then (pool_Capacity.j1 k x1 x2 x3 true x136000 x136001) else (pool_Capacity.j1 k x1 x2 x3 (decide (x3 > x136000)) x136000 x136001))))))
def pool_Capacity.j1:Nat → Int → Int → Int → Bool → Int → Int → Option (Int × Int)
 | 0,_,_,_,_,_,_=>none
 | k + 1,x1,x2,x3,x34,x136000,x136001=>if x34=true then (some (0,1)) else (if (wrap64 ((wrap64 ((wrap64 ((wrap64 ((wrap64 (x136000 - x1)) - x2)) - 1)) - 4)) - x3)) < 1 then (some (0,42)) else (some (wrap64 ((wrap64 ((wrap64 ((wrap64 ((wrap64 (x136000 - x1)) - x2)) - 1)) - 4)) - x3),0)))
end
def pool_Capacity.f (k:Nat) (a0_0:Int) (a0_1:Int) (a1:Int) (a2:Int) (a3:Int):Option (Int × Int):=(pool_blocks.f a0_0).bind fun t136=>(if t136=true then (if a0_1 < 4 then (pool_Capacity.j0 k a1 a2 a3 true a0_0 a0_1) else (if a0_1 > 32 then (pool_Capacity.j0 k a1 a2 a3 true a0_0 a0_1) else (pool_Capacity.j0 k a1 a2 a3 (decide (a0_0 > (wrap64 (16 * a0_1)))) a0_0 a0_1))) else (pool_Capacity.j0 k a1 a2 a3 true a0_0 a0_1))
theorem pool_Capacity.mono_l:∀ k,(∀ y0 y1 y2 y3 y4 y5,LeO (pool_Capacity.j0 k y0 y1 y2 y3 y4 y5) (pool_Capacity.j0 (k + 1) y0 y1 y2 y3 y4 y5))∧(∀ y0 y1 y2 y3 y4 y5,LeO (pool_Capacity.j1 k y0 y1 y2 y3 y4 y5) (pool_Capacity.j1 (k + 1) y0 y1 y2 y3 y4 y5))
 | 0=>⟨fun _ _ _ _ _ _ r h=>by simp [pool_Capacity.j0] at h,fun _ _ _ _ _ _ r h=>by simp [pool_Capacity.j1] at h⟩
 | k + 1=>by
  obtain ⟨ih0,ih1⟩:=pool_Capacity.mono_l k
  refine ⟨?_,?_⟩
  ·intro y0 y1 y2 y3 y4 y5
   unfold pool_Capacity.j0
   repeat' first
   | (with_reducible exact ih0 _ _ _ _ _ _)
   | (with_reducible exact ih1 _ _ _ _ _ _)
   | (with_reducible exact LeO.refl _)
   | (with_reducible exact LeO.none _)
   | (with_reducible refine LeO.ite ?_ ?_)
   | (with_reducible refine LeO.bind ?_ (fun _=>?_))
   | exact ih0 _ _ _ _ _ _
   | exact ih1 _ _ _ _ _ _
   | exact LeO.none _
   | refine LeO.ite ?_ ?_
   | refine LeO.bind ?_ (fun _=>?_)
  ·intro y0 y1 y2 y3 y4 y5
   unfold pool_Capacity.j1
   repeat' first
   | (with_reducible exact ih0 _ _ _ _ _ _)
   | (with_reducible exact ih1 _ _ _ _ _ _)
   | (with_reducible exact LeO.refl _)
   | (with_reducible exact LeO.none _)
   | (with_reducible refine LeO.ite ?_ ?_)
   | (with_reducible refine LeO.bind ?_ (fun _=>?_))
   | exact ih0 _ _ _ _ _ _
   | exact ih1 _ _ _ _ _ _
   | exact LeO.none _
   | refine LeO.ite ?_ ?_
   | refine LeO.bind ?_ (fun _=>?_)
theorem pool_Capacity.mono:∀ a0 a1 a2 a3 a4 k,LeO (pool_Capacity.f k a0 a1 a2 a3 a4) (pool_Capacity.f (k + 1) a0 a1 a2 a3 a4):=by
 intro a0 a1 a2 a3 a4 k
 obtain ⟨ih0,ih1⟩:=pool_Capacity.mono_l k
 unfold pool_Capacity.f
 repeat' first
   | (with_reducible exact ih0 _ _ _ _ _ _)
   | (with_reducible exact ih1 _ _ _ _ _ _)
   | (with_reducible exact LeO.refl _)
   | (with_reducible exact LeO.none _)
   | (with_reducible refine LeO.ite ?_ ?_)
   | (with_reducible refine LeO.bind ?_ (fun _=>?_))
   | exact ih0 _ _ _ _ _ _
   | exact ih1 _ _ _ _ _ _
   | exact LeO.none _
   | refine LeO.ite ?_ ?_
   | refine LeO.bind ?_ (fun _=>?_)
set_option maxHeartbeats 8000000 in
set_option maxRecDepth 100000 in
theorem pool_Capacity.calls (k:Nat) (a0_0:Int) (a0_1:Int) (a1:Int) (a2:Int) (a3:Int) (r1:Int) (r2:Int) (w:World) (h:pool_Capacity.f k a0_0 a0_1 a1 a2 a3=some (r1,r2)) :
  Calls Try.prog 10 #[.agg #[.int .i64 a0_0,.int .i64 a0_1],.int .i64 a1,.int .i64 a2,.int .i64 a3] w fun e w'=>e=.returned (.tuple #[.int .i64 r1,.int .i64 r2])∧Below w.heap.size w w':=by
 have hu27:=Try.underlying27
 have HB:=zm (Below.refl w.heap.size w)
 have H:((pool_blocks.f a0_0).bind fun t136=>(if t136=true then (if a0_1 < 4 then (pool_Capacity.j0 k a1 a2 a3 true a0_0 a0_1) else (if a0_1 > 32 then (pool_Capacity.j0 k a1 a2 a3 true a0_0 a0_1) else (pool_Capacity.j0 k a1 a2 a3 (decide (a0_0 > (wrap64 (16 * a0_1)))) a0_0 a0_1))) else (pool_Capacity.j0 k a1 a2 a3 true a0_0 a0_1)))=some (r1,r2):=h
 clear h
 have HC5:=zm H
 clear H
 go_enter Try.func10,Try.ntmps10
 go_upto_region 1 with (first|((with_reducible refine gate_dst (N:=4) rfl ?_);refine box_event ?hg (N:=4) ?hd (cs:=#[.int .i64 a0_0,.int .i64 a0_1]) (t:=27) ?hr ?_;(case hd=>rfl);(case hg=>rfl);(case hr=>first|(go_simp;done)|(go_simp;rfl));intro gb135 hg w6 hbox hb;have n0_:=zm (below_step (by repeat (first|(with_reducible first|exact HB.out|apply zlA|apply zlN|apply zlD)|exact HB.out)) hb);have n1_:=zm (hbox);have n2_:=zm ((by rw [hg];exact (below_size (by repeat (first|(with_reducible first|exact HB.out|apply zlA|apply zlN|apply zlD)|exact HB.out))):w.heap.size≤gb135));have n3_:=zm ((by rw [hg];exact (below_size (by repeat (first|(with_reducible first|exact HB.out|apply zlA|apply zlN|apply zlD)|exact HB.out))):w.heap.size≤gb135));clear HB;have HB:=n0_;have BK135:=n1_;have GW135:=n2_;have GE135:=n3_;clear n0_ n1_ n2_ n3_;clear hb hbox hg))
 (try simp only [Act.put,List.setIfInBounds_toArray,List.set_cons_zero,List.set_cons_succ])
 go_cut [11] (fun v11 wc=>∃ (kq:Nat) (x11_4:Bool),v11=.bool x11_4∧Aside0 (pool_Capacity.j0 kq a1 a2 a3 x11_4 a0_0 a0_1=some (r1,r2))∧Aside0 (kq≤k)∧Aside0 (wc.heap[gb135]?=some (.cells #[.int .i64 a0_0,.int .i64 a0_1] 27 (0,0)))∧Aside0 (Below w.heap.size w wc))
 case first =>
  have H:=HC5.out
  clear HC5
  replace H:=Option.bind_eq_some_iff.mp H
  obtain ⟨t136,A70,H⟩:=H
  replace H:(if t136=true then (if a0_1 < 4 then (pool_Capacity.j0 k a1 a2 a3 true a0_0 a0_1) else (if a0_1 > 32 then (pool_Capacity.j0 k a1 a2 a3 true a0_0 a0_1) else (pool_Capacity.j0 k a1 a2 a3 (decide (a0_0 > (wrap64 (16 * a0_1)))) a0_0 a0_1))) else (pool_Capacity.j0 k a1 a2 a3 true a0_0 a0_1))=some (r1,r2):=H
  have A7:=zm A70
  clear A70
  by_cases c8:t136=true
  ·subst c8
   have H1:(if a0_1 < 4 then (pool_Capacity.j0 k a1 a2 a3 true a0_0 a0_1) else (if a0_1 > 32 then (pool_Capacity.j0 k a1 a2 a3 true a0_0 a0_1) else (pool_Capacity.j0 k a1 a2 a3 (decide (a0_0 > (wrap64 (16 * a0_1)))) a0_0 a0_1)))=some (r1,r2):=by rw [if_pos rfl] at H;exact H
   clear H
   have H:=H1
   clear H1
   by_cases c9:a0_1 < 4
   ·rw [if_pos c9] at H
    have c9b0:decide (a0_1 < 4)=true:=decide_eq_true c9
    clear c9
    (first|rw [c9b0]|(simp only [i64_w,i32_w];rw [c9b0])|skip)
    have H':=zm H
    clear H
    have hcz10_0:w6.cell? ⟨gb135,0,none⟩=some (.int .i64 a0_0):=(blk_cell BK135.out 0).trans rfl
    have hcz10_1:w6.cell? ⟨gb135,1,none⟩=some (.int .i64 a0_1):=(blk_cell BK135.out 1).trans rfl
    have hfz10_0:=blk_frozen BK135.out 0
    have hfz10_1:=blk_frozen BK135.out 1
    go_wp2_with (first|((with_reducible refine gate_callee (f:=35) rfl ?_);refine goesL_ (some 14) rfl rfl Try.func35 (by kernel_rfl) rfl #[.int .i64 a0_0] rfl (by (try simp only [List.map_toArray,List.map_cons,List.map_nil]);first|done|rfl|(simp only [List.length_drop,List.length_take];rfl)) ?_;(with_reducible refine (pool_blocks.calls a0_0 true _ A7.out).mono ?_);rintro e w' ⟨rfl,⟨nd,rfl⟩⟩;refine ⟨_,rfl,?_⟩))
    go_meet
    case rel=>exact ⟨_,(true),(by first|rfl|(simp;done)|(simp [*];done)),H',⟨by first|omega|exact Nat.le_refl _⟩,⟨by (with_reducible repeat (first|refine zbN ?_ _|refine zbD ?_|refine zbA ?_ _));exact BK135.out⟩,⟨by repeat (first|(with_reducible first|exact HB.out|apply zlA|apply zlN|apply zlD|refine zlS ?_ GE135.out)|exact HB.out)⟩⟩
   ·rw [if_neg c9] at H
    have c9b0:decide (a0_1 < 4)=false:=decide_eq_false c9
    clear c9
    (first|rw [c9b0]|(simp only [i64_w,i32_w];rw [c9b0])|skip)
    by_cases c11:a0_1 > 32
    ·rw [if_pos c11] at H
     have c11b0:decide (32 < a0_1)=true:=decide_eq_true c11
     clear c11
     have H':=zm H
     clear H
     have hcz12_0:w6.cell? ⟨gb135,0,none⟩=some (.int .i64 a0_0):=(blk_cell BK135.out 0).trans rfl
     have hcz12_1:w6.cell? ⟨gb135,1,none⟩=some (.int .i64 a0_1):=(blk_cell BK135.out 1).trans rfl
     have hfz12_0:=blk_frozen BK135.out 0
     have hfz12_1:=blk_frozen BK135.out 1
     go_wp2_with (first|((with_reducible refine gate_callee (f:=35) rfl ?_);refine goesL_ (some 14) rfl rfl Try.func35 (by kernel_rfl) rfl #[.int .i64 a0_0] rfl (by (try simp only [List.map_toArray,List.map_cons,List.map_nil]);first|done|rfl|(simp only [List.length_drop,List.length_take];rfl)) ?_;(with_reducible refine (pool_blocks.calls a0_0 true _ A7.out).mono ?_);rintro e w' ⟨rfl,⟨nd,rfl⟩⟩;refine ⟨_,rfl,?_⟩))
     go_meet
     case rel=>exact ⟨_,(true),(by first|rfl|(simp;done)|(simp [*];done)),H',⟨by first|omega|exact Nat.le_refl _⟩,⟨by (with_reducible repeat (first|refine zbN ?_ _|refine zbD ?_|refine zbA ?_ _));exact BK135.out⟩,⟨by repeat (first|(with_reducible first|exact HB.out|apply zlA|apply zlN|apply zlD|refine zlS ?_ GE135.out)|exact HB.out)⟩⟩
    ·rw [if_neg c11] at H
     have c11b0:decide (32 < a0_1)=false:=decide_eq_false c11
     clear c11
     have H':=zm H
     clear H
     have hcz13_0:w6.cell? ⟨gb135,0,none⟩=some (.int .i64 a0_0):=(blk_cell BK135.out 0).trans rfl
     have hcz13_1:w6.cell? ⟨gb135,1,none⟩=some (.int .i64 a0_1):=(blk_cell BK135.out 1).trans rfl
     have hfz13_0:=blk_frozen BK135.out 0
     have hfz13_1:=blk_frozen BK135.out 1
     go_wp2_with (first|((with_reducible refine gate_callee (f:=35) rfl ?_);refine goesL_ (some 14) rfl rfl Try.func35 (by kernel_rfl) rfl #[.int .i64 a0_0] rfl (by (try simp only [List.map_toArray,List.map_cons,List.map_nil]);first|done|rfl|(simp only [List.length_drop,List.length_take];rfl)) ?_;(with_reducible refine (pool_blocks.calls a0_0 true _ A7.out).mono ?_);rintro e w' ⟨rfl,⟨nd,rfl⟩⟩;refine ⟨_,rfl,?_⟩))
     go_meet
     case rel=>exact ⟨_,(decide (a0_0 > (wrap64 (16 * a0_1)))),(by first|rfl|(simp;done)|(simp [*];done)),H',⟨by first|omega|exact Nat.le_refl _⟩,⟨by (with_reducible repeat (first|refine zbN ?_ _|refine zbD ?_|refine zbA ?_ _));exact BK135.out⟩,⟨by repeat (first|(with_reducible first|exact HB.out|apply zlA|apply zlN|apply zlD|refine zlS ?_ GE135.out)|exact HB.out)⟩⟩
  ·replace c8:=Bool.eq_false_iff.mpr c8
   subst c8
   have H1:(pool_Capacity.j0 k a1 a2 a3 true a0_0 a0_1)=some (r1,r2):=by rw [if_neg (show ¬ (false=true) by decide)] at H;exact H
   clear H
   have H:=H1
   clear H1
   have H':=zm H
   clear H
   have hcz14_0:w6.cell? ⟨gb135,0,none⟩=some (.int .i64 a0_0):=(blk_cell BK135.out 0).trans rfl
   have hcz14_1:w6.cell? ⟨gb135,1,none⟩=some (.int .i64 a0_1):=(blk_cell BK135.out 1).trans rfl
   have hfz14_0:=blk_frozen BK135.out 0
   have hfz14_1:=blk_frozen BK135.out 1
   go_wp2_with (first|((with_reducible refine gate_callee (f:=35) rfl ?_);refine goesL_ (some 14) rfl rfl Try.func35 (by kernel_rfl) rfl #[.int .i64 a0_0] rfl (by (try simp only [List.map_toArray,List.map_cons,List.map_nil]);first|done|rfl|(simp only [List.length_drop,List.length_take];rfl)) ?_;(with_reducible refine (pool_blocks.calls a0_0 false _ A7.out).mono ?_);rintro e w' ⟨rfl,⟨nd,rfl⟩⟩;refine ⟨_,rfl,?_⟩))
   go_meet
   case rel=>exact ⟨_,(true),(by first|rfl|(simp;done)|(simp [*];done)),H',⟨by first|omega|exact Nat.le_refl _⟩,⟨by (with_reducible repeat (first|refine zbN ?_ _|refine zbD ?_|refine zbA ?_ _));exact BK135.out⟩,⟨by repeat (first|(with_reducible first|exact HB.out|apply zlA|apply zlN|apply zlD|refine zlS ?_ GE135.out)|exact HB.out)⟩⟩
 case rest =>
  clear HC5
  try clear c1
  try clear p2
  try clear c3
  try clear p6
  try clear c8
  try clear c9
  try clear c9b0
  try clear c10
  try clear c11
  try clear c11b0
  try clear hcz10_0
  try clear hcz10_1
  try clear hcz12_0
  try clear hcz12_1
  try clear hcz13_0
  try clear hcz13_1
  try clear hcz14_0
  try clear hcz14_1
  try clear hfz10_0
  try clear hfz10_1
  try clear hfz12_0
  try clear hfz12_1
  try clear hfz13_0
  try clear hfz13_1
  try clear hfz14_0
  try clear hfz14_1
  obtain ⟨kq,x11_4,rfl,HA,HJ4,BK135,HB⟩:=hcut
  cases kq with
  | zero=>exact absurd HA.out (by simp [pool_Capacity.j0])
  | succ kj4 =>
   have H:=HA.out
   clear HA
   simp only [pool_Capacity.j0] at H
   by_cases c15:x11_4=true
   ·subst c15
    have H1:(some (0,20))=some (r1,r2):=by rw [if_pos rfl] at H;exact H
    clear H
    have H:=H1
    clear H1
    simp only [Option.some.injEq,Prod.mk.injEq] at H
    obtain ⟨rfl,rfl⟩:=H
    go_wp2
    go_ret2
    exact ⟨by first|rfl|(simp [errW_none,errW_some] <;> rfl)|(simp [*,errW_none,errW_some] <;> rfl),by repeat (first|(with_reducible first|exact HB.out|apply zlA|apply zlN|apply zlD|refine zlS ?_ GE135.out)|exact HB.out)⟩
   ·replace c15:=Bool.eq_false_iff.mpr c15
    subst c15
    have H1:(if a1 < 0 then (pool_Capacity.j1 kj4 a1 a2 a3 true a0_0 a0_1) else (if a1 > a0_0 then (pool_Capacity.j1 kj4 a1 a2 a3 true a0_0 a0_1) else (if a2 < 1 then (pool_Capacity.j1 kj4 a1 a2 a3 true a0_0 a0_1) else (if a2 > 8 then (pool_Capacity.j1 kj4 a1 a2 a3 true a0_0 a0_1) else (if a3 < 0 then (pool_Capacity.j1 kj4 a1 a2 a3 true a0_0 a0_1) else (pool_Capacity.j1 kj4 a1 a2 a3 (decide (a3 > a0_0)) a0_0 a0_1))))))=some (r1,r2):=by rw [if_neg (show ¬ (false=true) by decide)] at H;exact H
    clear H
    have H:=H1
    clear H1
    have HC16:=zm H
    clear H
    go_upto_region 3 with (fail)
    go_cut [34] (fun v34 wc=>∃ (kq:Nat) (x34_15:Bool),v34=.bool x34_15∧Aside0 (pool_Capacity.j1 kq a1 a2 a3 x34_15 a0_0 a0_1=some (r1,r2))∧Aside0 (kq≤kj4)∧Aside0 (wc.heap[gb135]?=some (.cells #[.int .i64 a0_0,.int .i64 a0_1] 27 (0,0)))∧Aside0 (Below w.heap.size w wc))
    case first =>
     have H:=HC16.out
     clear HC16
     by_cases c17:a1 < 0
     ·rw [if_pos c17] at H
      have c17b0:decide (a1 < 0)=true:=decide_eq_true c17
      clear c17
      (first|rw [c17b0]|(simp only [i64_w,i32_w];rw [c17b0])|skip)
      have H':=zm H
      clear H
      go_wp2
      go_meet
      case rel=>exact ⟨_,(true),(by first|rfl|(simp;done)|(simp [*];done)),H',⟨by have:=HJ4.out;first|omega|exact Nat.le_refl _⟩,⟨by (with_reducible repeat (first|refine zbN ?_ _|refine zbD ?_|refine zbA ?_ _));exact BK135.out⟩,⟨by repeat (first|(with_reducible first|exact HB.out|apply zlA|apply zlN|apply zlD|refine zlS ?_ GE135.out)|exact HB.out)⟩⟩
     ·rw [if_neg c17] at H
      have c17b0:decide (a1 < 0)=false:=decide_eq_false c17
      clear c17
      (first|rw [c17b0]|(simp only [i64_w,i32_w];rw [c17b0])|skip)
      by_cases c18:a1 > a0_0
      ·rw [if_pos c18] at H
       have c18b0:decide (a0_0 < a1)=true:=decide_eq_true c18
       clear c18
       have H':=zm H
       clear H
       have hcz19_0:wc.cell? ⟨gb135,0,none⟩=some (.int .i64 a0_0):=(blk_cell BK135.out 0).trans rfl
       have hcz19_1:wc.cell? ⟨gb135,1,none⟩=some (.int .i64 a0_1):=(blk_cell BK135.out 1).trans rfl
       have hfz19_0:=blk_frozen BK135.out 0
       have hfz19_1:=blk_frozen BK135.out 1
       go_wp2
       go_meet
       case rel=>exact ⟨_,(true),(by first|rfl|(simp;done)|(simp [*];done)),H',⟨by have:=HJ4.out;first|omega|exact Nat.le_refl _⟩,⟨by (with_reducible repeat (first|refine zbN ?_ _|refine zbD ?_|refine zbA ?_ _));exact BK135.out⟩,⟨by repeat (first|(with_reducible first|exact HB.out|apply zlA|apply zlN|apply zlD|refine zlS ?_ GE135.out)|exact HB.out)⟩⟩
      ·rw [if_neg c18] at H
       have c18b0:decide (a0_0 < a1)=false:=decide_eq_false c18
       clear c18
       by_cases c20:a2 < 1
       ·rw [if_pos c20] at H
        have c20b0:decide (a2 < 1)=true:=decide_eq_true c20
        clear c20
        have H':=zm H
        clear H
        have hcz21_0:wc.cell? ⟨gb135,0,none⟩=some (.int .i64 a0_0):=(blk_cell BK135.out 0).trans rfl
        have hcz21_1:wc.cell? ⟨gb135,1,none⟩=some (.int .i64 a0_1):=(blk_cell BK135.out 1).trans rfl
        have hfz21_0:=blk_frozen BK135.out 0
        have hfz21_1:=blk_frozen BK135.out 1
        go_wp2
        go_meet
        case rel=>exact ⟨_,(true),(by first|rfl|(simp;done)|(simp [*];done)),H',⟨by have:=HJ4.out;first|omega|exact Nat.le_refl _⟩,⟨by (with_reducible repeat (first|refine zbN ?_ _|refine zbD ?_|refine zbA ?_ _));exact BK135.out⟩,⟨by repeat (first|(with_reducible first|exact HB.out|apply zlA|apply zlN|apply zlD|refine zlS ?_ GE135.out)|exact HB.out)⟩⟩
       ·rw [if_neg c20] at H
        have c20b0:decide (a2 < 1)=false:=decide_eq_false c20
        clear c20
        by_cases c22:a2 > 8
        ·rw [if_pos c22] at H
         have c22b0:decide (8 < a2)=true:=decide_eq_true c22
         clear c22
         have H':=zm H
         clear H
         have hcz23_0:wc.cell? ⟨gb135,0,none⟩=some (.int .i64 a0_0):=(blk_cell BK135.out 0).trans rfl
         have hcz23_1:wc.cell? ⟨gb135,1,none⟩=some (.int .i64 a0_1):=(blk_cell BK135.out 1).trans rfl
         have hfz23_0:=blk_frozen BK135.out 0
         have hfz23_1:=blk_frozen BK135.out 1
         go_wp2
         go_meet
         case rel=>exact ⟨_,(true),(by first|rfl|(simp;done)|(simp [*];done)),H',⟨by have:=HJ4.out;first|omega|exact Nat.le_refl _⟩,⟨by (with_reducible repeat (first|refine zbN ?_ _|refine zbD ?_|refine zbA ?_ _));exact BK135.out⟩,⟨by repeat (first|(with_reducible first|exact HB.out|apply zlA|apply zlN|apply zlD|refine zlS ?_ GE135.out)|exact HB.out)⟩⟩
        ·rw [if_neg c22] at H
         have c22b0:decide (8 < a2)=false:=decide_eq_false c22
         clear c22
         by_cases c24:a3 < 0
         ·rw [if_pos c24] at H
          have c24b0:decide (a3 < 0)=true:=decide_eq_true c24
          clear c24
          have H':=zm H
          clear H
          have hcz25_0:wc.cell? ⟨gb135,0,none⟩=some (.int .i64 a0_0):=(blk_cell BK135.out 0).trans rfl
          have hcz25_1:wc.cell? ⟨gb135,1,none⟩=some (.int .i64 a0_1):=(blk_cell BK135.out 1).trans rfl
          have hfz25_0:=blk_frozen BK135.out 0
          have hfz25_1:=blk_frozen BK135.out 1
          go_wp2
          go_meet
          case rel=>exact ⟨_,(true),(by first|rfl|(simp;done)|(simp [*];done)),H',⟨by have:=HJ4.out;first|omega|exact Nat.le_refl _⟩,⟨by (with_reducible repeat (first|refine zbN ?_ _|refine zbD ?_|refine zbA ?_ _));exact BK135.out⟩,⟨by repeat (first|(with_reducible first|exact HB.out|apply zlA|apply zlN|apply zlD|refine zlS ?_ GE135.out)|exact HB.out)⟩⟩
         ·rw [if_neg c24] at H
          have c24b0:decide (a3 < 0)=false:=decide_eq_false c24
          clear c24
          have H':=zm H
          clear H
          have hcz26_0:wc.cell? ⟨gb135,0,none⟩=some (.int .i64 a0_0):=(blk_cell BK135.out 0).trans rfl
          have hcz26_1:wc.cell? ⟨gb135,1,none⟩=some (.int .i64 a0_1):=(blk_cell BK135.out 1).trans rfl
          have hfz26_0:=blk_frozen BK135.out 0
          have hfz26_1:=blk_frozen BK135.out 1
          go_wp2
          go_meet
          case rel=>exact ⟨_,(decide (a3 > a0_0)),(by first|rfl|(simp;done)|(simp [*];done)),H',⟨by have:=HJ4.out;first|omega|exact Nat.le_refl _⟩,⟨by (with_reducible repeat (first|refine zbN ?_ _|refine zbD ?_|refine zbA ?_ _));exact BK135.out⟩,⟨by repeat (first|(with_reducible first|exact HB.out|apply zlA|apply zlN|apply zlD|refine zlS ?_ GE135.out)|exact HB.out)⟩⟩
    case rest =>
     clear HC16
     try clear c1
     try clear c2
     try clear p2
     try clear c3
     try clear p6
     try clear c8
     try clear c9
     try clear c9b0
     try clear c10
     try clear c11
     try clear c11b0
     try clear c15
     try clear c17
     try clear c17b0
     try clear c18
     try clear c18b0
     try clear c20
     try clear c20b0
     try clear c22
     try clear c22b0
     try clear c24
     try clear c24b0
     try clear hcz10_0
     try clear hcz10_1
     try clear hcz12_0
     try clear hcz12_1
     try clear hcz13_0
     try clear hcz13_1
     try clear hcz14_0
     try clear hcz14_1
     try clear hcz19_0
     try clear hcz19_1
     try clear hcz21_0
     try clear hcz21_1
     try clear hcz23_0
     try clear hcz23_1
     try clear hcz25_0
     try clear hcz25_1
     try clear hcz26_0
     try clear hcz26_1
     try clear hfz10_0
     try clear hfz10_1
     try clear hfz12_0
     try clear hfz12_1
     try clear hfz13_0
     try clear hfz13_1
     try clear hfz14_0
     try clear hfz14_1
     try clear hfz19_0
     try clear hfz19_1
     try clear hfz21_0
     try clear hfz21_1
     try clear hfz23_0
     try clear hfz23_1
     try clear hfz25_0
     try clear hfz25_1
     try clear hfz26_0
     try clear hfz26_1
     try clear p2
     try clear p6
     obtain ⟨kq,x34_15,rfl,HA,HJ15,BK135,HB⟩:=hcut
     cases kq with
     | zero=>exact absurd HA.out (by simp [pool_Capacity.j1])
     | succ kj15 =>
      have H:=HA.out
      clear HA
      simp only [pool_Capacity.j1] at H
      by_cases c27:x34_15=true
      ·subst c27
       have H1:(some (0,1))=some (r1,r2):=by rw [if_pos rfl] at H;exact H
       clear H
       have H:=H1
       clear H1
       simp only [Option.some.injEq,Prod.mk.injEq] at H
       obtain ⟨rfl,rfl⟩:=H
       go_wp2
       go_ret2
       exact ⟨by first|rfl|(simp [errW_none,errW_some] <;> rfl)|(simp [*,errW_none,errW_some] <;> rfl),by repeat (first|(with_reducible first|exact HB.out|apply zlA|apply zlN|apply zlD|refine zlS ?_ GE135.out)|exact HB.out)⟩
      ·replace c27:=Bool.eq_false_iff.mpr c27
       subst c27
       have H1:(if (wrap64 ((wrap64 ((wrap64 ((wrap64 ((wrap64 (a0_0 - a1)) - a2)) - 1)) - 4)) - a3)) < 1 then (some (0,42)) else (some (wrap64 ((wrap64 ((wrap64 ((wrap64 ((wrap64 (a0_0 - a1)) - a2)) - 1)) - 4)) - a3),0)))=some (r1,r2):=by rw [if_neg (show ¬ (false=true) by decide)] at H;exact H
       clear H
       have H:=H1
       clear H1
       by_cases c28:(wrap64 ((wrap64 ((wrap64 ((wrap64 ((wrap64 (a0_0 - a1)) - a2)) - 1)) - 4)) - a3)) < 1
       ·rw [if_pos c28] at H
        have c28b0:decide ((wrap64 ((wrap64 ((wrap64 ((wrap64 ((wrap64 (a0_0 - a1)) - a2)) - 1)) - 4)) - a3)) < 1)=true:=decide_eq_true c28
        clear c28
        simp only [Option.some.injEq,Prod.mk.injEq] at H
        obtain ⟨rfl,rfl⟩:=H
        have hcz29_0:wc.cell? ⟨gb135,0,none⟩=some (.int .i64 a0_0):=(blk_cell BK135.out 0).trans rfl
        have hcz29_1:wc.cell? ⟨gb135,1,none⟩=some (.int .i64 a0_1):=(blk_cell BK135.out 1).trans rfl
        have hfz29_0:=blk_frozen BK135.out 0
        have hfz29_1:=blk_frozen BK135.out 1
        go_wp2
        go_ret2
        exact ⟨by first|rfl|(simp [errW_none,errW_some] <;> rfl)|(simp [*,errW_none,errW_some] <;> rfl),by repeat (first|(with_reducible first|exact HB.out|apply zlA|apply zlN|apply zlD|refine zlS ?_ GE135.out)|exact HB.out)⟩
       ·rw [if_neg c28] at H
        have c28b0:decide ((wrap64 ((wrap64 ((wrap64 ((wrap64 ((wrap64 (a0_0 - a1)) - a2)) - 1)) - 4)) - a3)) < 1)=false:=decide_eq_false c28
        clear c28
        simp only [Option.some.injEq,Prod.mk.injEq] at H
        obtain ⟨rfl,rfl⟩:=H
        have hcz30_0:wc.cell? ⟨gb135,0,none⟩=some (.int .i64 a0_0):=(blk_cell BK135.out 0).trans rfl
        have hcz30_1:wc.cell? ⟨gb135,1,none⟩=some (.int .i64 a0_1):=(blk_cell BK135.out 1).trans rfl
        have hfz30_0:=blk_frozen BK135.out 0
        have hfz30_1:=blk_frozen BK135.out 1
        go_wp2
        go_ret2
        exact ⟨by first|rfl|(simp [errW_none,errW_some] <;> rfl)|(simp [*,errW_none,errW_some] <;> rfl),by repeat (first|(with_reducible first|exact HB.out|apply zlA|apply zlN|apply zlD|refine zlS ?_ GE135.out)|exact HB.out)⟩
end Go.Proofs.Ytlegmnpngcadhaa.Print
end
section
namespace Go.Proofs.Ytlegmnpngcadhaa.Print
open Go.RowKit Go.Proofs.YtlegmnpngcadhaaW.PrintWords Go.Proofs.YtlegmnpngcadhaaW.PrintLast Go.Proofs.YtlegmnpngcadhaaW.PrintMore
attribute [local go_sem] max2_int min2_int max_two min_two max_three min_three max_four min_four   -- for this text's walks alone
attribute [local go_sem ↓] Go.Proofs.Ytlegmnpngcadhaa.Sem.isSome_setCell
attribute [local go_sem] Go.Instr.field Go.asAgg
set_option linter.unusedVariables false
set_option linter.unusedSimpArgs false
def slipwaylaw04_begun.f (k:Nat) :Option (Bool):=(pool_New.f k 16 (([0]:List Int))).bind fun bt212=>((pool_Choose.f k bt212.1 bt212.2.1).bind fun bt220=>((pool_Take.f k bt212.1 bt212.2.1 1 2).bind fun bt222=>((pool_Choose.f k bt222.1 bt222.2.1).bind fun bt230=>((pool_Capacity.f k 16 4 1 2 2).bind fun bt232=>(if bt212.2.2=0 then (if bt220.1=1 then (if bt220.2=true then (if bt222.2.2=0 then (if bt230.1=2 then (if bt230.2=true then (if bt232.1=6 then (some (bt232.2 == 0)) else (none)) else (none)) else (none)) else (none)) else (none)) else (none)) else (none))))))
theorem slipwaylaw04_begun.mono:∀ k,LeO (slipwaylaw04_begun.f k ) (slipwaylaw04_begun.f (k + 1) ):=by
 intro  k
 unfold slipwaylaw04_begun.f
 repeat' first
   | (with_reducible exact pool_Capacity.mono _ _ _ _ _ _)
   | (with_reducible exact pool_Choose.mono _ _ _)
   | (with_reducible exact pool_New.mono _ _ _)
   | (with_reducible exact pool_Take.mono _ _ _ _ _)
   | (with_reducible exact LeO.refl _)
   | (with_reducible exact LeO.none _)
   | (with_reducible refine LeO.ite ?_ ?_)
   | (with_reducible refine LeO.bind ?_ (fun _=>?_))
   | exact pool_Capacity.mono _ _ _ _ _ _
   | exact pool_Choose.mono _ _ _
   | exact pool_New.mono _ _ _
   | exact pool_Take.mono _ _ _ _ _
   | exact LeO.none _
   | refine LeO.ite ?_ ?_
   | refine LeO.bind ?_ (fun _=>?_)
set_option maxHeartbeats 8000000 in
set_option maxRecDepth 100000 in
theorem slipwaylaw04_begun.calls (k:Nat)  (r:Bool) (w:World) (h:slipwaylaw04_begun.f k =some r) :
  Calls Try.prog 12 #[] w fun e w'=>e=.returned (.bool r)∧Below w.heap.size w w':=by
 have hu25:=Try.underlying25
 have hu27:=Try.underlying27
 have HB:=zm (Below.refl w.heap.size w)
 have H:((pool_New.f k 16 (([0]:List Int))).bind fun bt212=>((pool_Choose.f k bt212.1 bt212.2.1).bind fun bt220=>((pool_Take.f k bt212.1 bt212.2.1 1 2).bind fun bt222=>((pool_Choose.f k bt222.1 bt222.2.1).bind fun bt230=>((pool_Capacity.f k 16 4 1 2 2).bind fun bt232=>(if bt212.2.2=0 then (if bt220.1=1 then (if bt220.2=true then (if bt222.2.2=0 then (if bt230.1=2 then (if bt230.2=true then (if bt232.1=6 then (some (bt232.2 == 0)) else (none)) else (none)) else (none)) else (none)) else (none)) else (none)) else (none)))))))=some r:=h
 clear h
 obtain ⟨y209,hy209⟩:∃ y_:List Int,y_=(([0]:List Int)):=⟨_,rfl⟩
 replace H:((pool_New.f k 16 y209).bind fun bt212=>((pool_Choose.f k bt212.1 bt212.2.1).bind fun bt220=>((pool_Take.f k bt212.1 bt212.2.1 1 2).bind fun bt222=>((pool_Choose.f k bt222.1 bt222.2.1).bind fun bt230=>((pool_Capacity.f k 16 4 1 2 2).bind fun bt232=>(if bt212.2.2=0 then (if bt220.1=1 then (if bt220.2=true then (if bt222.2.2=0 then (if bt230.1=2 then (if bt230.2=true then (if bt232.1=6 then (some (bt232.2 == 0)) else (none)) else (none)) else (none)) else (none)) else (none)) else (none)) else (none)))))))=some r:=by first|(rw [hy209];with_reducible exact H)|(have H2_:=(Option.bind_some _ _).symm.trans H;rw [hy209];with_reducible exact H2_)|(have H2_:=(Option.bind_some _ _).symm.trans H;with_reducible exact H2_)|with_reducible exact H|(rw [hy209];exact H)|exact H
 have Ny209:=zm hy209
 clear hy209
 replace H:=Option.bind_eq_some_iff.mp H
 obtain ⟨⟨t212,t215,t218⟩,A10,H⟩:=H
 replace H:((pool_Choose.f k t212 t215).bind fun bt220=>((pool_Take.f k t212 t215 1 2).bind fun bt222=>((pool_Choose.f k bt222.1 bt222.2.1).bind fun bt230=>((pool_Capacity.f k 16 4 1 2 2).bind fun bt232=>(if t218=0 then (if bt220.1=1 then (if bt220.2=true then (if bt222.2.2=0 then (if bt230.1=2 then (if bt230.2=true then (if bt232.1=6 then (some (bt232.2 == 0)) else (none)) else (none)) else (none)) else (none)) else (none)) else (none)) else (none))))))=some r:=H
 have A1:=zm A10
 clear A10
 replace H:=Option.bind_eq_some_iff.mp H
 obtain ⟨⟨t220,t221⟩,A20,H⟩:=H
 replace H:((pool_Take.f k t212 t215 1 2).bind fun bt222=>((pool_Choose.f k bt222.1 bt222.2.1).bind fun bt230=>((pool_Capacity.f k 16 4 1 2 2).bind fun bt232=>(if t218=0 then (if t220=1 then (if t221=true then (if bt222.2.2=0 then (if bt230.1=2 then (if bt230.2=true then (if bt232.1=6 then (some (bt232.2 == 0)) else (none)) else (none)) else (none)) else (none)) else (none)) else (none)) else (none)))))=some r:=H
 have A2:=zm A20
 clear A20
 replace H:=Option.bind_eq_some_iff.mp H
 obtain ⟨⟨t222,t225,t228⟩,A30,H⟩:=H
 replace H:((pool_Choose.f k t222 t225).bind fun bt230=>((pool_Capacity.f k 16 4 1 2 2).bind fun bt232=>(if t218=0 then (if t220=1 then (if t221=true then (if t228=0 then (if bt230.1=2 then (if bt230.2=true then (if bt232.1=6 then (some (bt232.2 == 0)) else (none)) else (none)) else (none)) else (none)) else (none)) else (none)) else (none))))=some r:=H
 have A3:=zm A30
 clear A30
 replace H:=Option.bind_eq_some_iff.mp H
 obtain ⟨⟨t230,t231⟩,A40,H⟩:=H
 replace H:((pool_Capacity.f k 16 4 1 2 2).bind fun bt232=>(if t218=0 then (if t220=1 then (if t221=true then (if t228=0 then (if t230=2 then (if t231=true then (if bt232.1=6 then (some (bt232.2 == 0)) else (none)) else (none)) else (none)) else (none)) else (none)) else (none)) else (none)))=some r:=H
 have A4:=zm A40
 clear A40
 replace H:=Option.bind_eq_some_iff.mp H
 obtain ⟨⟨t232,t233⟩,A50,H⟩:=H
 replace H:(if t218=0 then (if t220=1 then (if t221=true then (if t228=0 then (if t230=2 then (if t231=true then (if t232=6 then (some (t233 == 0)) else (none)) else (none)) else (none)) else (none)) else (none)) else (none)) else (none))=some r:=H
 have A5:=zm A50
 clear A50
 by_cases c6:t218=0
 ·rw [if_pos c6] at H
  have c6b0:(t218 == 0)=true:=beq_iff_eq.mpr c6
  have c6b1:(t218 != 0)=false:=bne_eq_false_iff_eq.mpr c6
  clear c6
  by_cases c7:t220=1
  ·rw [if_pos c7] at H
   have c7b0:(t220 == 1)=true:=beq_iff_eq.mpr c7
   have c7b1:(t220 != 1)=false:=bne_eq_false_iff_eq.mpr c7
   clear c7
   by_cases c8:t221=true
   ·subst c8
    have H1:(if t228=0 then (if t230=2 then (if t231=true then (if t232=6 then (some (t233 == 0)) else (none)) else (none)) else (none)) else (none))=some r:=by rw [if_pos rfl] at H;exact H
    clear H
    have H:=H1
    clear H1
    by_cases c9:t228=0
    ·rw [if_pos c9] at H
     have c9b0:(t228 == 0)=true:=beq_iff_eq.mpr c9
     have c9b1:(t228 != 0)=false:=bne_eq_false_iff_eq.mpr c9
     clear c9
     by_cases c10:t230=2
     ·rw [if_pos c10] at H
      have c10b0:(t230 == 2)=true:=beq_iff_eq.mpr c10
      have c10b1:(t230 != 2)=false:=bne_eq_false_iff_eq.mpr c10
      clear c10
      by_cases c11:t231=true
      ·subst c11
       have H1:(if t232=6 then (some (t233 == 0)) else (none))=some r:=by rw [if_pos rfl] at H;exact H
       clear H
       have H:=H1
       clear H1
       by_cases c12:t232=6
       ·rw [if_pos c12] at H
        have c12b0:(t232 == 6)=true:=beq_iff_eq.mpr c12
        have c12b1:(t232 != 6)=false:=bne_eq_false_iff_eq.mpr c12
        clear c12
        obtain rfl:=Option.some.inj H
        go_enter Try.func12,Try.ntmps12
        go_wp2_with (first|((with_reducible refine gate_dst (N:=12) rfl ?_);refine Kd.R_lit (Kd.int .i64) _ 3 ?hg (N:=12) ?hd (xs:=([0]:List Int)) (inner:=[.int .i64 0]) (ok:=fun _=>True) (okp:=fun _=>True) ?hr ?hp (fun _ hk=>hk) trivial (Below.refl _ _) (Nat.le_refl _) (by simp) ?_;(case hd=>rfl);(case hg=>rfl);(case hr=>first|(go_simp;done)|(go_simp;rfl));(case hp=>exact (Reps.one (show Kd.M (Kd.int .i64) _ _ _ 0 [.int .i64 0] from rfl) (Reps.none _ _)));intro v210 w13 ho14 hb hg_ hnew_;clear hg_ hnew_;(first|rw [← Ny209.out] at ho14|(simp only [Int.reduceToNat] at ho14;rw [← Ny209.out] at ho14));have n0_:=zm (Kd.R_lower ho14 (below_size (by repeat (first|(with_reducible first|exact HB.out|apply zlA|apply zlN|apply zlD)|exact HB.out))));have n1_:=zm (below_step (by repeat (first|(with_reducible first|exact HB.out|apply zlA|apply zlN|apply zlD)|exact HB.out)) hb);clear HB;have HO211:=n0_;have HB:=n1_;clear n0_ n1_;clear hb ho14;obtain ⟨Ao15,co15,eo15⟩:=Kd.R_slice HO211.out;subst eo15)|((with_reducible refine gate_callee (f:=8) rfl ?_);refine goesL_ (some 13) rfl rfl Try.func8 (by kernel_rfl) rfl #[.int .i64 16,.slice Ao15 y209.length co15] rfl (by (try simp only [List.map_toArray,List.map_cons,List.map_nil]);first|done|rfl|(simp only [List.length_drop,List.length_take];rfl)) ?_;(with_reducible refine (pool_New.calls k 16 _ _ y209 t212 t215 t218 _ ?side1 ?side2 A1.out).mono ?_);(case side1=>repeat (first|exact (Kd.R_reads' HO211.out).2.2|(with_reducible refine Kd.C_alloc ?_ _)|(with_reducible refine Kd.C_drewN ?_ _)|(with_reducible refine Kd.C_drew ?_)));(case side2=>exact (Kd.R_reads' HO211.out).2.1);rintro e w16 ⟨v213,v216,rfl,ho0,ho1,hb⟩;refine ⟨_,rfl,?_⟩;have n0_:=zm (Kd.R_elder' (by (with_reducible repeat (first|apply zrA|apply zrN|apply zrD));exact HO211.out) (Kd.R_base ho0) hb);have n1_:=zm (Kd.R_lower (Kd.R_new' ho0 (Kd.R_lt (by (with_reducible repeat (first|apply zrA|apply zrN|apply zrD));exact HO211.out))) (below_size (by repeat (first|(with_reducible first|exact HB.out|apply zlA|apply zlN|apply zlD)|exact HB.out))));have n2_:=zm (Kd.R_lower ho1 (below_size (by repeat (first|(with_reducible first|exact HB.out|apply zlA|apply zlN|apply zlD)|exact HB.out))));have n3_:=zm (below_step (by repeat (first|(with_reducible first|exact HB.out|apply zlA|apply zlN|apply zlD)|exact HB.out)) hb);clear HO211 HB;have HO211:=n0_;have HO214:=n1_;have HO217:=n2_;have HB:=n3_;clear n0_ n1_ n2_ n3_;(try clear hb);(try clear hb2);(try clear hk);(try clear hi);(try clear ho0);(try clear ho1))|((with_reducible refine gate_dst (N:=1) rfl ?_);refine box_event ?hg (N:=1) ?hd (cs:=#[.slice none 0 0,.slice none 0 0]) (t:=25) ?hr ?_;(case hd=>rfl);(case hg=>rfl);(case hr=>first|(go_simp;done)|(go_simp;rfl));intro gb219 hg w17 hbox hb;have n0_:=zm (Kd.R_below (by (with_reducible repeat (first|apply zrA|apply zrN|apply zrD));exact HO211.out) hb);have n1_:=zm (Kd.R_below (by (with_reducible repeat (first|apply zrA|apply zrN|apply zrD));exact HO214.out) hb);have n2_:=zm (Kd.R_below (by (with_reducible repeat (first|apply zrA|apply zrN|apply zrD));exact HO217.out) hb);have n3_:=zm (below_step (by repeat (first|(with_reducible first|exact HB.out|apply zlA|apply zlN|apply zlD)|exact HB.out)) hb);have n4_:=zm (hbox);have n5_:=zm ((by rw [hg];exact (below_size (by repeat (first|(with_reducible first|exact HB.out|apply zlA|apply zlN|apply zlD)|exact HB.out))):w.heap.size≤gb219));have n6_:=zm ((by rw [hg];exact (below_size (by repeat (first|(with_reducible first|exact HB.out|apply zlA|apply zlN|apply zlD)|exact HB.out))):w.heap.size≤gb219));clear HO211 HO214 HO217 HB;have HO211:=n0_;have HO214:=n1_;have HO217:=n2_;have HB:=n3_;have BK219:=n4_;have GW219:=n5_;have GE219:=n6_;clear n0_ n1_ n2_ n3_ n4_ n5_ n6_;clear hb hbox hg;obtain ⟨Ao18,co18,eo18⟩:=Kd.R_slice HO214.out;subst eo18;have hcz19_0:w17.cell? ⟨gb219,0,none⟩=some (.slice none 0 0):=(blk_cell BK219.out 0).trans rfl;have hcz19_1:w17.cell? ⟨gb219,1,none⟩=some (.slice none 0 0):=(blk_cell BK219.out 1).trans rfl;have hfz19_0:=blk_frozen BK219.out 0;have hfz19_1:=blk_frozen BK219.out 1;obtain ⟨Ao20,co20,eo20⟩:=Kd.R_slice HO217.out;subst eo20)|((with_reducible refine gate_callee (f:=18) rfl ?_);refine goesL_ (some 18) rfl rfl Try.func18 (by kernel_rfl) rfl #[.agg #[.slice Ao18 t212.length co18,.slice Ao20 t215.length co20]] rfl (by (try simp only [List.map_toArray,List.map_cons,List.map_nil]);first|done|rfl|(simp only [List.length_drop,List.length_take];rfl)) ?_;(with_reducible refine (pool_Choose.calls k _ _ t212 _ _ t215 t220 true _ ?side1 ?side2 ?side3 ?side4 A2.out).mono ?_);(case side1=>refine (Kd.R_reads' (e:=3) (base:=w.heap.size) (ok:=fun k_=>(True∧some k_≠(.slice Ao15 y209.length co15:Value).ownBlock)) (n:=t212.length) (c:=co18) ?_).2.2;exact (by (with_reducible repeat (first|apply zrA|apply zrN|apply zrD));exact (Kd.R_mono (Kd.R_far (p:=⟨gb219,1,none⟩) (Kd.R_far (p:=⟨gb219,0,none⟩) (Kd.R_types HO214.out BK219.out (by decide)) (fun _ hk=>hk.2) (.slice Ao18 t212.length co18)) (fun _ hk=>hk.2) (.slice Ao20 t215.length co20)) (fun _ h_=>h_.1))));(case side2=>exact (Kd.R_reads' HO214.out).2.1);(case side3=>refine (Kd.R_reads' (e:=2) (base:=w.heap.size) (ok:=fun k_=>True) (n:=t215.length) (c:=co20) ?_).2.2;exact (by (with_reducible repeat (first|apply zrA|apply zrN|apply zrD));exact (Kd.R_mono (Kd.R_far (p:=⟨gb219,1,none⟩) (Kd.R_far (p:=⟨gb219,0,none⟩) (Kd.R_types HO217.out BK219.out (by decide)) (fun _ hk=>hk.2) (.slice Ao18 t212.length co18)) (fun _ hk=>hk.2) (.slice Ao20 t215.length co20)) (fun _ h_=>h_.1))));(case side4=>exact (Kd.R_reads' HO217.out).2.1);rintro e w21 ⟨rfl,hb⟩;refine ⟨_,rfl,?_⟩;have n0_:=zm (Kd.R_below (by (with_reducible repeat (first|apply zrA|apply zrN|apply zrD));exact (Kd.R_mono (Kd.R_far (p:=⟨gb219,1,none⟩) (Kd.R_far (p:=⟨gb219,0,none⟩) (Kd.R_types HO211.out BK219.out (by decide)) (fun _ hk=>hk.2) (.slice Ao18 t212.length co18)) (fun _ hk=>hk.2) (.slice Ao20 t215.length co20)) (fun _ h_=>h_.1))) hb);have n1_:=zm (Kd.R_below (by (with_reducible repeat (first|apply zrA|apply zrN|apply zrD));exact (Kd.R_mono (Kd.R_far (p:=⟨gb219,1,none⟩) (Kd.R_far (p:=⟨gb219,0,none⟩) (Kd.R_types HO214.out BK219.out (by decide)) (fun _ hk=>hk.2) (.slice Ao18 t212.length co18)) (fun _ hk=>hk.2) (.slice Ao20 t215.length co20)) (fun _ h_=>h_.1))) hb);have n2_:=zm (Kd.R_below (by (with_reducible repeat (first|apply zrA|apply zrN|apply zrD));exact (Kd.R_mono (Kd.R_far (p:=⟨gb219,1,none⟩) (Kd.R_far (p:=⟨gb219,0,none⟩) (Kd.R_types HO217.out BK219.out (by decide)) (fun _ hk=>hk.2) (.slice Ao18 t212.length co18)) (fun _ hk=>hk.2) (.slice Ao20 t215.length co20)) (fun _ h_=>h_.1))) hb);have n3_:=zm (zbB (g:=gb219) (o:=.cells #[.slice Ao18 t212.length co18,.slice Ao20 t215.length co20] 25 (0,0)) (by (with_reducible repeat (first|refine zbN ?_ _|refine zbD ?_|refine zbA ?_ _));refine blk_put (cs:=#[.slice Ao18 t212.length co18,.slice none 0 0]) ?_ 1 _ rfl;(with_reducible repeat (first|refine zbN ?_ _|refine zbD ?_|refine zbA ?_ _));refine blk_put (cs:=#[.slice none 0 0,.slice none 0 0]) ?_ 0 _ rfl;(with_reducible repeat (first|refine zbN ?_ _|refine zbD ?_|refine zbA ?_ _));exact BK219.out) hb);have n4_:=zm (below_step (by repeat (first|(with_reducible first|exact HB.out|apply zlA|apply zlN|apply zlD|refine zlS ?_ GE219.out)|exact HB.out)) hb);clear HO211 HO214 HO217 BK219 HB;have HO211:=n0_;have HO214:=n1_;have HO217:=n2_;have BK219:=n3_;have HB:=n4_;clear n0_ n1_ n2_ n3_ n4_;(try clear hb);(try clear hb2);(try clear hk);(try clear hi);have hcz22_0:w21.cell? ⟨gb219,0,none⟩=some (.slice Ao18 t212.length co18):=(blk_cell BK219.out 0).trans rfl;have hcz22_1:w21.cell? ⟨gb219,1,none⟩=some (.slice Ao20 t215.length co20):=(blk_cell BK219.out 1).trans rfl;have hfz22_0:=blk_frozen BK219.out 0;have hfz22_1:=blk_frozen BK219.out 1)|((with_reducible refine gate_callee (f:=19) rfl ?_);refine goesL_ (some 23) rfl rfl Try.func19 (by kernel_rfl) rfl #[.agg #[.slice Ao18 t212.length co18,.slice Ao20 t215.length co20],.int .i64 1,.int .i64 2] rfl (by (try simp only [List.map_toArray,List.map_cons,List.map_nil]);first|done|rfl|(simp only [List.length_drop,List.length_take];rfl)) ?_;(with_reducible refine (pool_Take.calls k _ _ t212 _ _ t215 1 2 t222 t225 t228 _ ?side1 ?side2 ?side3 ?side4 A3.out).mono ?_);(case side1=>repeat (first|exact (Kd.R_reads' HO214.out).2.2|(with_reducible refine Kd.C_alloc ?_ _)|(with_reducible refine Kd.C_drewN ?_ _)|(with_reducible refine Kd.C_drew ?_)));(case side2=>exact (Kd.R_reads' HO214.out).2.1);(case side3=>repeat (first|exact (Kd.R_reads' HO217.out).2.2|(with_reducible refine Kd.C_alloc ?_ _)|(with_reducible refine Kd.C_drewN ?_ _)|(with_reducible refine Kd.C_drew ?_)));(case side4=>exact (Kd.R_reads' HO217.out).2.1);rintro e w23 ⟨v223,v226,rfl,ho0,ho1,hb⟩;refine ⟨_,rfl,?_⟩;have n0_:=zm (Kd.R_elder' (by (with_reducible repeat (first|apply zrA|apply zrN|apply zrD));exact HO211.out) (Kd.R_base ho0) hb);have n1_:=zm (Kd.R_elder' (by (with_reducible repeat (first|apply zrA|apply zrN|apply zrD));exact HO214.out) (Kd.R_base ho0) hb);have n2_:=zm (Kd.R_elder' (by (with_reducible repeat (first|apply zrA|apply zrN|apply zrD));exact HO217.out) (Kd.R_base ho1) hb);have n3_:=zm (Kd.R_lower (Kd.R_new' (Kd.R_new' ho0 (Kd.R_lt (by (with_reducible repeat (first|apply zrA|apply zrN|apply zrD));exact HO211.out))) (Kd.R_lt (by (with_reducible repeat (first|apply zrA|apply zrN|apply zrD));exact HO214.out))) (below_size (by repeat (first|(with_reducible first|exact HB.out|apply zlA|apply zlN|apply zlD|refine zlS ?_ GE219.out)|exact HB.out))));have n4_:=zm (Kd.R_lower (Kd.R_new' ho1 (Kd.R_lt (by (with_reducible repeat (first|apply zrA|apply zrN|apply zrD));exact HO217.out))) (below_size (by repeat (first|(with_reducible first|exact HB.out|apply zlA|apply zlN|apply zlD|refine zlS ?_ GE219.out)|exact HB.out))));have n5_:=zm (zbB (g:=gb219) (o:=.cells #[.slice Ao18 t212.length co18,.slice Ao20 t215.length co20] 25 (0,0)) (by (with_reducible repeat (first|refine zbN ?_ _|refine zbD ?_|refine zbA ?_ _));exact BK219.out) hb);have n6_:=zm (below_step (by repeat (first|(with_reducible first|exact HB.out|apply zlA|apply zlN|apply zlD|refine zlS ?_ GE219.out)|exact HB.out)) hb);clear HO211 HO214 HO217 BK219 HB;have HO211:=n0_;have HO214:=n1_;have HO217:=n2_;have HO224:=n3_;have HO227:=n4_;have BK219:=n5_;have HB:=n6_;clear n0_ n1_ n2_ n3_ n4_ n5_ n6_;(try clear hb);(try clear hb2);(try clear hk);(try clear hi);(try clear ho0);(try clear ho1))|((with_reducible refine gate_dst (N:=5) rfl ?_);refine box_event ?hg (N:=5) ?hd (cs:=#[.slice none 0 0,.slice none 0 0]) (t:=25) ?hr ?_;(case hd=>rfl);(case hg=>rfl);(case hr=>first|(go_simp;done)|(go_simp;rfl));intro gb229 hg w24 hbox hb;have n0_:=zm (Kd.R_below (by (with_reducible repeat (first|apply zrA|apply zrN|apply zrD));exact HO211.out) hb);have n1_:=zm (Kd.R_below (by (with_reducible repeat (first|apply zrA|apply zrN|apply zrD));exact HO214.out) hb);have n2_:=zm (Kd.R_below (by (with_reducible repeat (first|apply zrA|apply zrN|apply zrD));exact HO217.out) hb);have n3_:=zm (Kd.R_below (by (with_reducible repeat (first|apply zrA|apply zrN|apply zrD));exact HO224.out) hb);have n4_:=zm (Kd.R_below (by (with_reducible repeat (first|apply zrA|apply zrN|apply zrD));exact HO227.out) hb);have n5_:=zm (zbB (g:=gb219) (o:=.cells #[.slice Ao18 t212.length co18,.slice Ao20 t215.length co20] 25 (0,0)) (by (with_reducible repeat (first|refine zbN ?_ _|refine zbD ?_|refine zbA ?_ _));exact BK219.out) hb);have n6_:=zm (below_step (by repeat (first|(with_reducible first|exact HB.out|apply zlA|apply zlN|apply zlD|refine zlS ?_ GE219.out)|exact HB.out)) hb);have n7_:=zm (hbox);have n8_:=zm ((by rw [hg];exact (below_size (by repeat (first|(with_reducible first|exact HB.out|apply zlA|apply zlN|apply zlD|refine zlS ?_ GE219.out)|exact HB.out))):w.heap.size≤gb229));have n9_:=zm ((by rw [hg];exact (below_size (by repeat (first|(with_reducible first|exact HB.out|apply zlA|apply zlN|apply zlD|refine zlS ?_ GE219.out)|exact HB.out))):w.heap.size≤gb229));have n10_:=zm ((by rw [hg];exact Nat.ne_of_lt (blk_lt (g:=gb219) (o:=.cells #[.slice Ao18 t212.length co18,.slice Ao20 t215.length co20] 25 (0,0)) (by (with_reducible repeat (first|refine zbN ?_ _|refine zbD ?_|refine zbA ?_ _));exact BK219.out)):gb219≠gb229));have n11_:=zm ((by rw [hg];exact Nat.ne_of_gt (blk_lt (g:=gb219) (o:=.cells #[.slice Ao18 t212.length co18,.slice Ao20 t215.length co20] 25 (0,0)) (by (with_reducible repeat (first|refine zbN ?_ _|refine zbD ?_|refine zbA ?_ _));exact BK219.out)):gb229≠gb219));clear HO211 HO214 HO217 HO224 HO227 BK219 HB;have HO211:=n0_;have HO214:=n1_;have HO217:=n2_;have HO224:=n3_;have HO227:=n4_;have BK219:=n5_;have HB:=n6_;have BK229:=n7_;have GW229:=n8_;have GE229:=n9_;have NB219_229:=n10_;have NB229_219:=n11_;clear n0_ n1_ n2_ n3_ n4_ n5_ n6_ n7_ n8_ n9_ n10_ n11_;clear hb hbox hg;obtain ⟨Ao25,co25,eo25⟩:=Kd.R_slice HO224.out;subst eo25;have hnb26:=NB229_219.out;have hnc26:=NB219_229.out;have hcz27_0:w24.cell? ⟨gb229,0,none⟩=some (.slice none 0 0):=(blk_cell BK229.out 0).trans rfl;have hcz27_1:w24.cell? ⟨gb229,1,none⟩=some (.slice none 0 0):=(blk_cell BK229.out 1).trans rfl;have hfz27_0:=blk_frozen BK229.out 0;have hfz27_1:=blk_frozen BK229.out 1;obtain ⟨Ao28,co28,eo28⟩:=Kd.R_slice HO227.out;subst eo28)|((with_reducible refine gate_callee (f:=18) rfl ?_);refine goesL_ (some 28) rfl rfl Try.func18 (by kernel_rfl) rfl #[.agg #[.slice Ao25 t222.length co25,.slice Ao28 t225.length co28]] rfl (by (try simp only [List.map_toArray,List.map_cons,List.map_nil]);first|done|rfl|(simp only [List.length_drop,List.length_take];rfl)) ?_;(with_reducible refine (pool_Choose.calls k _ _ t222 _ _ t225 t230 true _ ?side1 ?side2 ?side3 ?side4 A4.out).mono ?_);(case side1=>refine (Kd.R_reads' (e:=3) (base:=w.heap.size) (ok:=fun k_=>((True∧some k_≠(.slice Ao15 y209.length co15:Value).ownBlock)∧some k_≠(.slice Ao18 t212.length co18:Value).ownBlock)) (n:=t222.length) (c:=co25) ?_).2.2;exact (by (with_reducible repeat (first|apply zrA|apply zrN|apply zrD));exact (Kd.R_mono (Kd.R_far (p:=⟨gb229,1,none⟩) (Kd.R_far (p:=⟨gb229,0,none⟩) (Kd.R_types HO224.out BK229.out (by decide)) (fun _ hk=>hk.2) (.slice Ao25 t222.length co25)) (fun _ hk=>hk.2) (.slice Ao28 t225.length co28)) (fun _ h_=>h_.1))));(case side2=>exact (Kd.R_reads' HO224.out).2.1);(case side3=>refine (Kd.R_reads' (e:=2) (base:=w.heap.size) (ok:=fun k_=>(True∧some k_≠(.slice Ao20 t215.length co20:Value).ownBlock)) (n:=t225.length) (c:=co28) ?_).2.2;exact (by (with_reducible repeat (first|apply zrA|apply zrN|apply zrD));exact (Kd.R_mono (Kd.R_far (p:=⟨gb229,1,none⟩) (Kd.R_far (p:=⟨gb229,0,none⟩) (Kd.R_types HO227.out BK229.out (by decide)) (fun _ hk=>hk.2) (.slice Ao25 t222.length co25)) (fun _ hk=>hk.2) (.slice Ao28 t225.length co28)) (fun _ h_=>h_.1))));(case side4=>exact (Kd.R_reads' HO227.out).2.1);rintro e w29 ⟨rfl,hb⟩;refine ⟨_,rfl,?_⟩;have n0_:=zm (Kd.R_below (by (with_reducible repeat (first|apply zrA|apply zrN|apply zrD));exact (Kd.R_mono (Kd.R_far (p:=⟨gb229,1,none⟩) (Kd.R_far (p:=⟨gb229,0,none⟩) (Kd.R_types HO211.out BK229.out (by decide)) (fun _ hk=>hk.2) (.slice Ao25 t222.length co25)) (fun _ hk=>hk.2) (.slice Ao28 t225.length co28)) (fun _ h_=>h_.1))) hb);have n1_:=zm (Kd.R_below (by (with_reducible repeat (first|apply zrA|apply zrN|apply zrD));exact (Kd.R_mono (Kd.R_far (p:=⟨gb229,1,none⟩) (Kd.R_far (p:=⟨gb229,0,none⟩) (Kd.R_types HO214.out BK229.out (by decide)) (fun _ hk=>hk.2) (.slice Ao25 t222.length co25)) (fun _ hk=>hk.2) (.slice Ao28 t225.length co28)) (fun _ h_=>h_.1))) hb);have n2_:=zm (Kd.R_below (by (with_reducible repeat (first|apply zrA|apply zrN|apply zrD));exact (Kd.R_mono (Kd.R_far (p:=⟨gb229,1,none⟩) (Kd.R_far (p:=⟨gb229,0,none⟩) (Kd.R_types HO217.out BK229.out (by decide)) (fun _ hk=>hk.2) (.slice Ao25 t222.length co25)) (fun _ hk=>hk.2) (.slice Ao28 t225.length co28)) (fun _ h_=>h_.1))) hb);have n3_:=zm (Kd.R_below (by (with_reducible repeat (first|apply zrA|apply zrN|apply zrD));exact (Kd.R_mono (Kd.R_far (p:=⟨gb229,1,none⟩) (Kd.R_far (p:=⟨gb229,0,none⟩) (Kd.R_types HO224.out BK229.out (by decide)) (fun _ hk=>hk.2) (.slice Ao25 t222.length co25)) (fun _ hk=>hk.2) (.slice Ao28 t225.length co28)) (fun _ h_=>h_.1))) hb);have n4_:=zm (Kd.R_below (by (with_reducible repeat (first|apply zrA|apply zrN|apply zrD));exact (Kd.R_mono (Kd.R_far (p:=⟨gb229,1,none⟩) (Kd.R_far (p:=⟨gb229,0,none⟩) (Kd.R_types HO227.out BK229.out (by decide)) (fun _ hk=>hk.2) (.slice Ao25 t222.length co25)) (fun _ hk=>hk.2) (.slice Ao28 t225.length co28)) (fun _ h_=>h_.1))) hb);have n5_:=zm (zbB (g:=gb219) (o:=.cells #[.slice Ao18 t212.length co18,.slice Ao20 t215.length co20] 25 (0,0)) (by (with_reducible repeat (first|refine zbN ?_ _|refine zbD ?_|refine zbA ?_ _));refine blk_far ?_ NB219_229.out _;(with_reducible repeat (first|refine zbN ?_ _|refine zbD ?_|refine zbA ?_ _));refine blk_far ?_ NB219_229.out _;(with_reducible repeat (first|refine zbN ?_ _|refine zbD ?_|refine zbA ?_ _));exact BK219.out) hb);have n6_:=zm (zbB (g:=gb229) (o:=.cells #[.slice Ao25 t222.length co25,.slice Ao28 t225.length co28] 25 (0,0)) (by (with_reducible repeat (first|refine zbN ?_ _|refine zbD ?_|refine zbA ?_ _));refine blk_put (cs:=#[.slice Ao25 t222.length co25,.slice none 0 0]) ?_ 1 _ rfl;(with_reducible repeat (first|refine zbN ?_ _|refine zbD ?_|refine zbA ?_ _));refine blk_put (cs:=#[.slice none 0 0,.slice none 0 0]) ?_ 0 _ rfl;(with_reducible repeat (first|refine zbN ?_ _|refine zbD ?_|refine zbA ?_ _));exact BK229.out) hb);have n7_:=zm (below_step (by repeat (first|(with_reducible first|exact HB.out|apply zlA|apply zlN|apply zlD|refine zlS ?_ GE219.out|refine zlS ?_ GE229.out)|exact HB.out)) hb);clear HO211 HO214 HO217 HO224 HO227 BK219 BK229 HB;have HO211:=n0_;have HO214:=n1_;have HO217:=n2_;have HO224:=n3_;have HO227:=n4_;have BK219:=n5_;have BK229:=n6_;have HB:=n7_;clear n0_ n1_ n2_ n3_ n4_ n5_ n6_ n7_;(try clear hb);(try clear hb2);(try clear hk);(try clear hi))|((with_reducible refine gate_callee (f:=10) rfl ?_);refine goesL_ (some 33) rfl rfl Try.func10 (by kernel_rfl) rfl #[.agg #[.int .i64 16,.int .i64 4],.int .i64 1,.int .i64 2,.int .i64 2] rfl (by (try simp only [List.map_toArray,List.map_cons,List.map_nil]);first|done|rfl|(simp only [List.length_drop,List.length_take];rfl)) ?_;(with_reducible refine (pool_Capacity.calls k 16 4 1 2 2 t232 t233 _ A5.out).mono ?_);rintro e w30 ⟨rfl,hb⟩;refine ⟨_,rfl,?_⟩;have n0_:=zm (Kd.R_below (by (with_reducible repeat (first|apply zrA|apply zrN|apply zrD));exact HO211.out) hb);have n1_:=zm (Kd.R_below (by (with_reducible repeat (first|apply zrA|apply zrN|apply zrD));exact HO214.out) hb);have n2_:=zm (Kd.R_below (by (with_reducible repeat (first|apply zrA|apply zrN|apply zrD));exact HO217.out) hb);have n3_:=zm (Kd.R_below (by (with_reducible repeat (first|apply zrA|apply zrN|apply zrD));exact HO224.out) hb);have n4_:=zm (Kd.R_below (by (with_reducible repeat (first|apply zrA|apply zrN|apply zrD));exact HO227.out) hb);have n5_:=zm (zbB (g:=gb219) (o:=.cells #[.slice Ao18 t212.length co18,.slice Ao20 t215.length co20] 25 (0,0)) (by (with_reducible repeat (first|refine zbN ?_ _|refine zbD ?_|refine zbA ?_ _));exact BK219.out) hb);have n6_:=zm (zbB (g:=gb229) (o:=.cells #[.slice Ao25 t222.length co25,.slice Ao28 t225.length co28] 25 (0,0)) (by (with_reducible repeat (first|refine zbN ?_ _|refine zbD ?_|refine zbA ?_ _));exact BK229.out) hb);have n7_:=zm (below_step (by repeat (first|(with_reducible first|exact HB.out|apply zlA|apply zlN|apply zlD|refine zlS ?_ GE219.out|refine zlS ?_ GE229.out)|exact HB.out)) hb);clear HO211 HO214 HO217 HO224 HO227 BK219 BK229 HB;have HO211:=n0_;have HO214:=n1_;have HO217:=n2_;have HO224:=n3_;have HO227:=n4_;have BK219:=n5_;have BK229:=n6_;have HB:=n7_;clear n0_ n1_ n2_ n3_ n4_ n5_ n6_ n7_;(try clear hb);(try clear hb2);(try clear hk);(try clear hi)))
        go_ret
        exact ⟨by first|rfl|(simp [errW_none,errW_some] <;> rfl)|(simp [*,errW_none,errW_some] <;> rfl),by repeat (first|(with_reducible first|exact HB.out|apply zlA|apply zlN|apply zlD|refine zlS ?_ GE219.out|refine zlS ?_ GE229.out)|exact HB.out)⟩
       ·rw [if_neg c12] at H
        exact absurd H (by simp)
      ·replace c11:=Bool.eq_false_iff.mpr c11
       subst c11
       have H1:(none)=some r:=by rw [if_neg (show ¬ (false=true) by decide)] at H;exact H
       clear H
       have H:=H1
       clear H1
       exact absurd H (by simp)
     ·rw [if_neg c10] at H
      exact absurd H (by simp)
    ·rw [if_neg c9] at H
     exact absurd H (by simp)
   ·replace c8:=Bool.eq_false_iff.mpr c8
    subst c8
    have H1:(none)=some r:=by rw [if_neg (show ¬ (false=true) by decide)] at H;exact H
    clear H
    have H:=H1
    clear H1
    exact absurd H (by simp)
  ·rw [if_neg c7] at H
   exact absurd H (by simp)
 ·rw [if_neg c6] at H
  exact absurd H (by simp)
end Go.Proofs.Ytlegmnpngcadhaa.Print
end
section
namespace Go.Proofs.Ytlegmnpngcadhaa.Print
open Go.RowKit Go.Proofs.YtlegmnpngcadhaaW.PrintWords Go.Proofs.YtlegmnpngcadhaaW.PrintLast Go.Proofs.YtlegmnpngcadhaaW.PrintMore
attribute [local go_sem] max2_int min2_int max_two min_two max_three min_three max_four min_four   -- for this text's walks alone
attribute [local go_sem ↓] Go.Proofs.Ytlegmnpngcadhaa.Sem.isSome_setCell
attribute [local go_sem] Go.Instr.field Go.asAgg
set_option linter.unusedVariables false
set_option linter.unusedSimpArgs false
mutual
def slipwayref04_Same.j0:Nat → Bool → List Int → List Int → List Int → List Int → Option (Bool)
 | 0,_,_,_,_,_=>none
 | k + 1,x22,x240000,x240001,x241000,x241001=>if x22=true then (some false) else (slipwayref04_Same.l0 k 0 x240000 x240001 x241000 x241001)
def slipwayref04_Same.l0:Nat → Int → List Int → List Int → List Int → List Int → Option (Bool)
 | 0,_,_,_,_,_=>none
 | k + 1,x5,x240000,x240001,x241000,x241001=>if x5 < (x240000.length:Int) then (if 0≤x5 then (if x5 < (x241000.length:Int) then (if (rd x240000 x5)=(rd x241000 x5) then (slipwayref04_Same.l0 k (wrap64 (x5 + 1)) x240000 x240001 x241000 x241001) else (some false)) else (none)) else (none)) else (slipwayref04_Same.l1 k 0 x240000 x240001 x241000 x241001)
def slipwayref04_Same.l1:Nat → Int → List Int → List Int → List Int → List Int → Option (Bool)
 | 0,_,_,_,_,_=>none
 | k + 1,x6,x240000,x240001,x241000,x241001=>if x6 < (x240001.length:Int) then (if 0≤x6 then (if x6 < (x241001.length:Int) then (if (rd x240001 x6)=(rd x241001 x6) then (slipwayref04_Same.l1 k (wrap64 (x6 + 1)) x240000 x240001 x241000 x241001) else (some false)) else (none)) else (none)) else (some true)
end
def slipwayref04_Same.f (k:Nat) (l0_0:List Int) (l0_1:List Int) (l1_0:List Int) (l1_1:List Int):Option (Bool):=if (l0_0.length:Int)=(l1_0.length:Int) then (slipwayref04_Same.j0 k ((l0_1.length:Int) != (l1_1.length:Int)) l0_0 l0_1 l1_0 l1_1) else (slipwayref04_Same.j0 k true l0_0 l0_1 l1_0 l1_1)
set_option maxHeartbeats 8000000 in
set_option maxRecDepth 100000 in
theorem slipwayref04_Same.calls (k:Nat) (A0_0:Option Addr) (c0_0:Nat) (l0_0:List Int) (A0_1:Option Addr) (c0_1:Nat) (l0_1:List Int) (A1_0:Option Addr) (c1_0:Nat) (l1_0:List Int) (A1_1:Option Addr) (c1_1:Nat) (l1_1:List Int) (r:Bool) (w:World) (hr0_0:Kd.C (Kd.int .i64) w A0_0 l0_0.length l0_0) (hc0_0:l0_0.length≤c0_0) (hr0_1:Kd.C (Kd.int .i64) w A0_1 l0_1.length l0_1) (hc0_1:l0_1.length≤c0_1) (hr1_0:Kd.C (Kd.int .i64) w A1_0 l1_0.length l1_0) (hc1_0:l1_0.length≤c1_0) (hr1_1:Kd.C (Kd.int .i64) w A1_1 l1_1.length l1_1) (hc1_1:l1_1.length≤c1_1) (h:slipwayref04_Same.f k l0_0 l0_1 l1_0 l1_1=some r) :
  Calls Try.prog 15 #[.agg #[.slice A0_0 l0_0.length c0_0,.slice A0_1 l0_1.length c0_1],.agg #[.slice A1_0 l1_0.length c1_0,.slice A1_1 l1_1.length c1_1]] w fun e w'=>e=.returned (.bool r)∧Below w.heap.size w w':=by
 have hu25:=Try.underlying25
 have HR0_0:=zm hr0_0
 have HC0_0:=zm hc0_0
 clear hr0_0 hc0_0
 have HR0_1:=zm hr0_1
 have HC0_1:=zm hc0_1
 clear hr0_1 hc0_1
 have HR1_0:=zm hr1_0
 have HC1_0:=zm hc1_0
 clear hr1_0 hc1_0
 have HR1_1:=zm hr1_1
 have HC1_1:=zm hc1_1
 clear hr1_1 hc1_1
 have HB:=zm (Below.refl w.heap.size w)
 have H:(if (l0_0.length:Int)=(l1_0.length:Int) then (slipwayref04_Same.j0 k ((l0_1.length:Int) != (l1_1.length:Int)) l0_0 l0_1 l1_0 l1_1) else (slipwayref04_Same.j0 k true l0_0 l0_1 l1_0 l1_1))=some r:=h
 clear h
 have HC3:=zm H
 clear H
 go_enter Try.func15,Try.ntmps15
 go_upto_region 1 with (first|((with_reducible refine gate_dst (N:=2) rfl ?_);(try (refine gate_guard (by rfl) ?_;dsimp only));refine box_event ?hg (N:=2) ?hd (cs:=#[.slice A0_0 l0_0.length c0_0,.slice A0_1 l0_1.length c0_1]) (t:=25) ?hr ?_;(case hd=>rfl);(case hg=>rfl);(case hr=>first|(go_simp;done)|(go_simp;rfl));intro gb239 hg w4 hbox hb;have n0_:=zm (below_step (by repeat (first|(with_reducible first|exact HB.out|apply zlA|apply zlN|apply zlD)|exact HB.out)) hb);have n1_:=zm (hbox);have n2_:=zm ((by rw [hg];exact (below_size (by repeat (first|(with_reducible first|exact HB.out|apply zlA|apply zlN|apply zlD)|exact HB.out))):w.heap.size≤gb239));have n3_:=zm ((by rw [hg];exact (below_size (by repeat (first|(with_reducible first|exact HB.out|apply zlA|apply zlN|apply zlD)|exact HB.out))):w.heap.size≤gb239));clear HB;have HB:=n0_;have BK239:=n1_;have GW239:=n2_;have GE239:=n3_;clear n0_ n1_ n2_ n3_;clear hb hbox hg)|((with_reducible refine gate_dst (N:=3) rfl ?_);(try (refine gate_guard (by rfl) ?_;dsimp only));refine box_event ?hg (N:=3) ?hd (cs:=#[.slice A1_0 l1_0.length c1_0,.slice A1_1 l1_1.length c1_1]) (t:=25) ?hr ?_;(case hd=>rfl);(case hg=>rfl);(case hr=>first|(go_simp;done)|(go_simp;rfl));intro gb240 hg w5 hbox hb;have n0_:=zm (zbB (g:=gb239) (o:=.cells #[.slice A0_0 l0_0.length c0_0,.slice A0_1 l0_1.length c0_1] 25 (0,0)) (by (with_reducible repeat (first|refine zbN ?_ _|refine zbD ?_|refine zbA ?_ _));exact BK239.out) hb);have n1_:=zm (below_step (by repeat (first|(with_reducible first|exact HB.out|apply zlA|apply zlN|apply zlD|refine zlS ?_ GE239.out)|exact HB.out)) hb);have n2_:=zm (hbox);have n3_:=zm ((by rw [hg];exact (below_size (by repeat (first|(with_reducible first|exact HB.out|apply zlA|apply zlN|apply zlD|refine zlS ?_ GE239.out)|exact HB.out))):w.heap.size≤gb240));have n4_:=zm ((by rw [hg];exact (below_size (by repeat (first|(with_reducible first|exact HB.out|apply zlA|apply zlN|apply zlD|refine zlS ?_ GE239.out)|exact HB.out))):w.heap.size≤gb240));have n5_:=zm ((by rw [hg];exact Nat.ne_of_lt (blk_lt (g:=gb239) (o:=.cells #[.slice A0_0 l0_0.length c0_0,.slice A0_1 l0_1.length c0_1] 25 (0,0)) (by (with_reducible repeat (first|refine zbN ?_ _|refine zbD ?_|refine zbA ?_ _));exact BK239.out)):gb239≠gb240));have n6_:=zm ((by rw [hg];exact Nat.ne_of_gt (blk_lt (g:=gb239) (o:=.cells #[.slice A0_0 l0_0.length c0_0,.slice A0_1 l0_1.length c0_1] 25 (0,0)) (by (with_reducible repeat (first|refine zbN ?_ _|refine zbD ?_|refine zbA ?_ _));exact BK239.out)):gb240≠gb239));clear BK239 HB;have BK239:=n0_;have HB:=n1_;have BK240:=n2_;have GW240:=n3_;have GE240:=n4_;have NB239_240:=n5_;have NB240_239:=n6_;clear n0_ n1_ n2_ n3_ n4_ n5_ n6_;clear hb hbox hg))
 repeat (go_quiet (first|((with_reducible refine gate_dst (N:=2) rfl ?_);(try (refine gate_guard (by rfl) ?_;dsimp only));refine box_event ?hg (N:=2) ?hd (cs:=#[.slice A0_0 l0_0.length c0_0,.slice A0_1 l0_1.length c0_1]) (t:=25) ?hr ?_;(case hd=>rfl);(case hg=>rfl);(case hr=>first|(go_simp;done)|(go_simp;rfl));intro gb239 hg w4 hbox hb;have n0_:=zm (below_step (by repeat (first|(with_reducible first|exact HB.out|apply zlA|apply zlN|apply zlD)|exact HB.out)) hb);have n1_:=zm (hbox);have n2_:=zm ((by rw [hg];exact (below_size (by repeat (first|(with_reducible first|exact HB.out|apply zlA|apply zlN|apply zlD)|exact HB.out))):w.heap.size≤gb239));have n3_:=zm ((by rw [hg];exact (below_size (by repeat (first|(with_reducible first|exact HB.out|apply zlA|apply zlN|apply zlD)|exact HB.out))):w.heap.size≤gb239));clear HB;have HB:=n0_;have BK239:=n1_;have GW239:=n2_;have GE239:=n3_;clear n0_ n1_ n2_ n3_;clear hb hbox hg)|((with_reducible refine gate_dst (N:=3) rfl ?_);(try (refine gate_guard (by rfl) ?_;dsimp only));refine box_event ?hg (N:=3) ?hd (cs:=#[.slice A1_0 l1_0.length c1_0,.slice A1_1 l1_1.length c1_1]) (t:=25) ?hr ?_;(case hd=>rfl);(case hg=>rfl);(case hr=>first|(go_simp;done)|(go_simp;rfl));intro gb240 hg w5 hbox hb;have n0_:=zm (zbB (g:=gb239) (o:=.cells #[.slice A0_0 l0_0.length c0_0,.slice A0_1 l0_1.length c0_1] 25 (0,0)) (by (with_reducible repeat (first|refine zbN ?_ _|refine zbD ?_|refine zbA ?_ _));exact BK239.out) hb);have n1_:=zm (below_step (by repeat (first|(with_reducible first|exact HB.out|apply zlA|apply zlN|apply zlD|refine zlS ?_ GE239.out)|exact HB.out)) hb);have n2_:=zm (hbox);have n3_:=zm ((by rw [hg];exact (below_size (by repeat (first|(with_reducible first|exact HB.out|apply zlA|apply zlN|apply zlD|refine zlS ?_ GE239.out)|exact HB.out))):w.heap.size≤gb240));have n4_:=zm ((by rw [hg];exact (below_size (by repeat (first|(with_reducible first|exact HB.out|apply zlA|apply zlN|apply zlD|refine zlS ?_ GE239.out)|exact HB.out))):w.heap.size≤gb240));have n5_:=zm ((by rw [hg];exact Nat.ne_of_lt (blk_lt (g:=gb239) (o:=.cells #[.slice A0_0 l0_0.length c0_0,.slice A0_1 l0_1.length c0_1] 25 (0,0)) (by (with_reducible repeat (first|refine zbN ?_ _|refine zbD ?_|refine zbA ?_ _));exact BK239.out)):gb239≠gb240));have n6_:=zm ((by rw [hg];exact Nat.ne_of_gt (blk_lt (g:=gb239) (o:=.cells #[.slice A0_0 l0_0.length c0_0,.slice A0_1 l0_1.length c0_1] 25 (0,0)) (by (with_reducible repeat (first|refine zbN ?_ _|refine zbD ?_|refine zbA ?_ _));exact BK239.out)):gb240≠gb239));clear BK239 HB;have BK239:=n0_;have HB:=n1_;have BK240:=n2_;have GW240:=n3_;have GE240:=n4_;have NB239_240:=n5_;have NB240_239:=n6_;clear n0_ n1_ n2_ n3_ n4_ n5_ n6_;clear hb hbox hg));go_upto_region 1 with (first|((with_reducible refine gate_dst (N:=2) rfl ?_);(try (refine gate_guard (by rfl) ?_;dsimp only));refine box_event ?hg (N:=2) ?hd (cs:=#[.slice A0_0 l0_0.length c0_0,.slice A0_1 l0_1.length c0_1]) (t:=25) ?hr ?_;(case hd=>rfl);(case hg=>rfl);(case hr=>first|(go_simp;done)|(go_simp;rfl));intro gb239 hg w4 hbox hb;have n0_:=zm (below_step (by repeat (first|(with_reducible first|exact HB.out|apply zlA|apply zlN|apply zlD)|exact HB.out)) hb);have n1_:=zm (hbox);have n2_:=zm ((by rw [hg];exact (below_size (by repeat (first|(with_reducible first|exact HB.out|apply zlA|apply zlN|apply zlD)|exact HB.out))):w.heap.size≤gb239));have n3_:=zm ((by rw [hg];exact (below_size (by repeat (first|(with_reducible first|exact HB.out|apply zlA|apply zlN|apply zlD)|exact HB.out))):w.heap.size≤gb239));clear HB;have HB:=n0_;have BK239:=n1_;have GW239:=n2_;have GE239:=n3_;clear n0_ n1_ n2_ n3_;clear hb hbox hg)|((with_reducible refine gate_dst (N:=3) rfl ?_);(try (refine gate_guard (by rfl) ?_;dsimp only));refine box_event ?hg (N:=3) ?hd (cs:=#[.slice A1_0 l1_0.length c1_0,.slice A1_1 l1_1.length c1_1]) (t:=25) ?hr ?_;(case hd=>rfl);(case hg=>rfl);(case hr=>first|(go_simp;done)|(go_simp;rfl));intro gb240 hg w5 hbox hb;have n0_:=zm (zbB (g:=gb239) (o:=.cells #[.slice A0_0 l0_0.length c0_0,.slice A0_1 l0_1.length c0_1] 25 (0,0)) (by (with_reducible repeat (first|refine zbN ?_ _|refine zbD ?_|refine zbA ?_ _));exact BK239.out) hb);have n1_:=zm (below_step (by repeat (first|(with_reducible first|exact HB.out|apply zlA|apply zlN|apply zlD|refine zlS ?_ GE239.out)|exact HB.out)) hb);have n2_:=zm (hbox);have n3_:=zm ((by rw [hg];exact (below_size (by repeat (first|(with_reducible first|exact HB.out|apply zlA|apply zlN|apply zlD|refine zlS ?_ GE239.out)|exact HB.out))):w.heap.size≤gb240));have n4_:=zm ((by rw [hg];exact (below_size (by repeat (first|(with_reducible first|exact HB.out|apply zlA|apply zlN|apply zlD|refine zlS ?_ GE239.out)|exact HB.out))):w.heap.size≤gb240));have n5_:=zm ((by rw [hg];exact Nat.ne_of_lt (blk_lt (g:=gb239) (o:=.cells #[.slice A0_0 l0_0.length c0_0,.slice A0_1 l0_1.length c0_1] 25 (0,0)) (by (with_reducible repeat (first|refine zbN ?_ _|refine zbD ?_|refine zbA ?_ _));exact BK239.out)):gb239≠gb240));have n6_:=zm ((by rw [hg];exact Nat.ne_of_gt (blk_lt (g:=gb239) (o:=.cells #[.slice A0_0 l0_0.length c0_0,.slice A0_1 l0_1.length c0_1] 25 (0,0)) (by (with_reducible repeat (first|refine zbN ?_ _|refine zbD ?_|refine zbA ?_ _));exact BK239.out)):gb240≠gb239));clear BK239 HB;have BK239:=n0_;have HB:=n1_;have BK240:=n2_;have GW240:=n3_;have GE240:=n4_;have NB239_240:=n5_;have NB240_239:=n6_;clear n0_ n1_ n2_ n3_ n4_ n5_ n6_;clear hb hbox hg)))
 (try simp only [Act.put,List.setIfInBounds_toArray,List.set_cons_zero,List.set_cons_succ])
 go_cut [22] (fun v22 wc=>∃ (kq:Nat) (x22_2:Bool),v22=.bool x22_2∧Aside0 (slipwayref04_Same.j0 kq x22_2 l0_0 l0_1 l1_0 l1_1=some r)∧Aside0 (kq≤k)∧Aside0 (wc.heap[gb239]?=some (.cells #[(.slice A0_0 l0_0.length c0_0),(.slice A0_1 l0_1.length c0_1)] 25 (0,0)))∧Aside0 (wc.heap[gb240]?=some (.cells #[(.slice A1_0 l1_0.length c1_0),(.slice A1_1 l1_1.length c1_1)] 25 (0,0)))∧Aside0 (Below w.heap.size w wc))
 case first =>
  have H:=HC3.out
  clear HC3
  by_cases c6:(l0_0.length:Int)=(l1_0.length:Int)
  ·rw [if_pos c6] at H
   have c6b0:((l0_0.length:Int) == (l1_0.length:Int))=true:=beq_iff_eq.mpr c6
   have c6b1:((l0_0.length:Int) != (l1_0.length:Int))=false:=bne_eq_false_iff_eq.mpr c6
   have c6b2:(l0_0.length == l1_0.length)=true:=by first|simpa using c6|(simp at c6 ⊢;omega)
   clear c6
   (first|rw [c6b0]|(simp only [i64_w,i32_w];rw [c6b0])|skip)
   have H':=zm H
   clear H
   have hnb7:=NB239_240.out
   have hnc7:=NB240_239.out
   have hcz8_0:w5.cell? ⟨gb239,0,none⟩=some (.slice A0_0 l0_0.length c0_0):=(blk_cell BK239.out 0).trans rfl
   have hcz8_1:w5.cell? ⟨gb239,1,none⟩=some (.slice A0_1 l0_1.length c0_1):=(blk_cell BK239.out 1).trans rfl
   have hfz8_0:=blk_frozen BK239.out 0
   have hfz8_1:=blk_frozen BK239.out 1
   have hcz9_0:w5.cell? ⟨gb240,0,none⟩=some (.slice A1_0 l1_0.length c1_0):=(blk_cell BK240.out 0).trans rfl
   have hcz9_1:w5.cell? ⟨gb240,1,none⟩=some (.slice A1_1 l1_1.length c1_1):=(blk_cell BK240.out 1).trans rfl
   have hfz9_0:=blk_frozen BK240.out 0
   have hfz9_1:=blk_frozen BK240.out 1
   go_wp2
   repeat (go_quiet (fail);try go_wp2)
   go_meet
   case rel=>exact ⟨_,(((l0_1.length:Int) != (l1_1.length:Int))),(by first|rfl|(simp;done)|(simp [*];done)),H',⟨by first|omega|exact Nat.le_refl _⟩,⟨by (with_reducible repeat (first|refine zbN ?_ _|refine zbD ?_|refine zbA ?_ _));exact BK239.out⟩,⟨by (with_reducible repeat (first|refine zbN ?_ _|refine zbD ?_|refine zbA ?_ _));exact BK240.out⟩,⟨by repeat (first|(with_reducible first|exact HB.out|apply zlA|apply zlN|apply zlD|refine zlS ?_ GE239.out|refine zlS ?_ GE240.out)|exact HB.out)⟩⟩
  ·rw [if_neg c6] at H
   have c6b0:((l0_0.length:Int) == (l1_0.length:Int))=false:=beq_eq_false_iff_ne.mpr c6
   have c6b1:((l0_0.length:Int) != (l1_0.length:Int))=true:=bne_iff_ne.mpr c6
   have c6b2:(l0_0.length == l1_0.length)=false:=by first|simpa using c6|(simp at c6 ⊢;omega)
   (first|rw [c6b0]|(simp only [i64_w,i32_w];rw [c6b0])|skip)
   have H':=zm H
   clear H
   have hnb10:=NB239_240.out
   have hnc10:=NB240_239.out
   have hcz11_0:w5.cell? ⟨gb239,0,none⟩=some (.slice A0_0 l0_0.length c0_0):=(blk_cell BK239.out 0).trans rfl
   have hcz11_1:w5.cell? ⟨gb239,1,none⟩=some (.slice A0_1 l0_1.length c0_1):=(blk_cell BK239.out 1).trans rfl
   have hfz11_0:=blk_frozen BK239.out 0
   have hfz11_1:=blk_frozen BK239.out 1
   have hcz12_0:w5.cell? ⟨gb240,0,none⟩=some (.slice A1_0 l1_0.length c1_0):=(blk_cell BK240.out 0).trans rfl
   have hcz12_1:w5.cell? ⟨gb240,1,none⟩=some (.slice A1_1 l1_1.length c1_1):=(blk_cell BK240.out 1).trans rfl
   have hfz12_0:=blk_frozen BK240.out 0
   have hfz12_1:=blk_frozen BK240.out 1
   go_wp2
   repeat (go_quiet (fail);try go_wp2)
   go_meet
   case rel=>exact ⟨_,(true),(by first|rfl|(simp;done)|(simp [*];done)),H',⟨by first|omega|exact Nat.le_refl _⟩,⟨by (with_reducible repeat (first|refine zbN ?_ _|refine zbD ?_|refine zbA ?_ _));exact BK239.out⟩,⟨by (with_reducible repeat (first|refine zbN ?_ _|refine zbD ?_|refine zbA ?_ _));exact BK240.out⟩,⟨by repeat (first|(with_reducible first|exact HB.out|apply zlA|apply zlN|apply zlD|refine zlS ?_ GE239.out|refine zlS ?_ GE240.out)|exact HB.out)⟩⟩
 case rest =>
  clear HC3
  try clear c1
  try clear p2
  try clear c6
  try clear c6b0
  try clear c6b1
  try clear c6b2
  try clear c7
  try clear c10
  try clear hcz11_0
  try clear hcz11_1
  try clear hcz12_0
  try clear hcz12_1
  try clear hcz8_0
  try clear hcz8_1
  try clear hcz9_0
  try clear hcz9_1
  try clear hfz11_0
  try clear hfz11_1
  try clear hfz12_0
  try clear hfz12_1
  try clear hfz8_0
  try clear hfz8_1
  try clear hfz9_0
  try clear hfz9_1
  obtain ⟨kq,x22_2,rfl,HA,HJ2,BK239,BK240,HB⟩:=hcut
  cases kq with
  | zero=>exact absurd HA.out (by simp [slipwayref04_Same.j0])
  | succ kj2 =>
   have H:=HA.out
   clear HA
   simp only [slipwayref04_Same.j0] at H
   by_cases c13:x22_2=true
   ·subst c13
    have H1:(some false)=some r:=by rw [if_pos rfl] at H;exact H
    clear H
    have H:=H1
    clear H1
    obtain rfl:=Option.some.inj H
    go_wp2
    repeat (go_quiet (fail);try go_wp2)
    go_ret
    exact ⟨by first|rfl|(simp [errW_none,errW_some] <;> rfl)|(simp [*,errW_none,errW_some] <;> rfl),by repeat (first|(with_reducible first|exact HB.out|apply zlA|apply zlN|apply zlD|refine zlS ?_ GE239.out|refine zlS ?_ GE240.out)|exact HB.out)⟩
   ·replace c13:=Bool.eq_false_iff.mpr c13
    subst c13
    have H1:(slipwayref04_Same.l0 kj2 0 l0_0 l0_1 l1_0 l1_1)=some r:=by rw [if_neg (show ¬ (false=true) by decide)] at H;exact H
    clear H
    have H:=H1
    clear H1
    have H':=zm H
    clear H
    go_wp2
    repeat (go_quiet (fail);try go_wp2)
    go_loopg [5] kj2 (fun kq v5 w'=>∃ (x5_2:Int),v5=.int .i64 x5_2∧Aside0 (slipwayref04_Same.l0 kq x5_2 l0_0 l0_1 l1_0 l1_1=some r)∧Aside0 (kq≤kj2)∧Aside0 (w'.heap[gb239]?=some (.cells #[(.slice A0_0 l0_0.length c0_0),(.slice A0_1 l0_1.length c0_1)] 25 (0,0)))∧Aside0 (w'.heap[gb240]?=some (.cells #[(.slice A1_0 l1_0.length c1_0),(.slice A1_1 l1_1.length c1_1)] 25 (0,0)))∧Aside0 (Below w.heap.size w w'))
    case atStart=>exact ⟨(0),(by first|rfl|(simp;done)|(simp [*];done)),H',⟨Nat.le_refl _⟩,⟨by (with_reducible repeat (first|refine zbN ?_ _|refine zbD ?_|refine zbA ?_ _));exact BK239.out⟩,⟨by (with_reducible repeat (first|refine zbN ?_ _|refine zbD ?_|refine zbA ?_ _));exact BK240.out⟩,⟨by repeat (first|(with_reducible first|exact HB.out|apply zlA|apply zlN|apply zlD|refine zlS ?_ GE239.out|refine zlS ?_ GE240.out)|exact HB.out)⟩⟩
    case round =>
     clear H'
     try clear c1
     try clear p2
     try clear c6
     try clear c6b0
     try clear c6b1
     try clear c6b2
     try clear c7
     try clear c10
     try clear c13
     try clear hcz11_0
     try clear hcz11_1
     try clear hcz12_0
     try clear hcz12_1
     try clear hcz8_0
     try clear hcz8_1
     try clear hcz9_0
     try clear hcz9_1
     try clear hfz11_0
     try clear hfz11_1
     try clear hfz12_0
     try clear hfz12_1
     try clear hfz8_0
     try clear hfz8_1
     try clear hfz9_0
     try clear hfz9_1
     try clear p2
     obtain ⟨x5_2,rfl,HA,HK2,BK239,BK240,HB⟩:=hrel
     cases gk with
     | zero=>exact absurd HA.out (by simp [slipwayref04_Same.l0])
     | succ k2 =>
      have H:=HA.out
      clear HA
      simp only [slipwayref04_Same.l0] at H
      by_cases c14:x5_2 < (l0_0.length:Int)
      ·rw [if_pos c14] at H
       have c14b0:decide (x5_2 < (l0_0.length:Int))=true:=decide_eq_true c14
       clear c14
       by_cases c15:0≤x5_2
       ·rw [if_pos c15] at H
        have c15b0:decide (0≤x5_2)=true:=decide_eq_true c15
        clear c15
        by_cases c16:x5_2 < (l1_0.length:Int)
        ·rw [if_pos c16] at H
         have c16b0:decide (x5_2 < (l1_0.length:Int))=true:=decide_eq_true c16
         clear c16
         by_cases c17:(rd l0_0 x5_2)=(rd l1_0 x5_2)
         ·rw [if_pos c17] at H
          have c17b0:((rd l0_0 x5_2) == (rd l1_0 x5_2))=true:=beq_iff_eq.mpr c17
          have c17b1:((rd l0_0 x5_2) != (rd l1_0 x5_2))=false:=bne_eq_false_iff_eq.mpr c17
          clear c17
          have H':=zm H
          clear H
          have hnb18:=NB239_240.out
          have hnc18:=NB240_239.out
          have hcz19_0:wr.cell? ⟨gb239,0,none⟩=some (.slice A0_0 l0_0.length c0_0):=(blk_cell BK239.out 0).trans rfl
          have hcz19_1:wr.cell? ⟨gb239,1,none⟩=some (.slice A0_1 l0_1.length c0_1):=(blk_cell BK239.out 1).trans rfl
          have hfz19_0:=blk_frozen BK239.out 0
          have hfz19_1:=blk_frozen BK239.out 1
          have p241:0≤(x5_2:Int):=of_decide_eq_true (by first|(with_reducible assumption)|assumption)
          have q241:x5_2 < (l0_0.length:Int):=of_decide_eq_true (by first|(with_reducible assumption)|assumption)
          obtain ⟨ad241,e241,hx241_0⟩:=Kd.at_int HR0_0.out x5_2 p241 q241
          cases e241
          replace hx241_0:=(HB.out.cell (World.block_lt_of_cell? w _ hx241_0)).trans hx241_0
          replace p241:=eq_true p241
          replace q241:=eq_true q241
          have hcz20_0:wr.cell? ⟨gb240,0,none⟩=some (.slice A1_0 l1_0.length c1_0):=(blk_cell BK240.out 0).trans rfl
          have hcz20_1:wr.cell? ⟨gb240,1,none⟩=some (.slice A1_1 l1_1.length c1_1):=(blk_cell BK240.out 1).trans rfl
          have hfz20_0:=blk_frozen BK240.out 0
          have hfz20_1:=blk_frozen BK240.out 1
          have p242:0≤(x5_2:Int):=of_decide_eq_true (by first|(with_reducible assumption)|assumption)
          have q242:x5_2 < (l1_0.length:Int):=of_decide_eq_true (by first|(with_reducible assumption)|assumption)
          obtain ⟨ad242,e242,hx242_0⟩:=Kd.at_int HR1_0.out x5_2 p242 q242
          cases e242
          replace hx242_0:=(HB.out.cell (World.block_lt_of_cell? w _ hx242_0)).trans hx242_0
          replace p242:=eq_true p242
          replace q242:=eq_true q242
          go_wp2
          repeat (go_quiet (fail);try go_wp2)
          go_roundg k2
          case measure=>have:=HJ2.out;have:=HK2.out;omega
          case rel=>exact ⟨(wrap64 (x5_2 + 1)),(by first|rfl|(simp;done)|(simp [*];done)),H',⟨by have:=HJ2.out;have:=HK2.out;omega⟩,⟨by (with_reducible repeat (first|refine zbN ?_ _|refine zbD ?_|refine zbA ?_ _));exact BK239.out⟩,⟨by (with_reducible repeat (first|refine zbN ?_ _|refine zbD ?_|refine zbA ?_ _));exact BK240.out⟩,⟨by repeat (first|(with_reducible first|exact HB.out|apply zlA|apply zlN|apply zlD|refine zlS ?_ GE239.out|refine zlS ?_ GE240.out)|exact HB.out)⟩⟩
         ·rw [if_neg c17] at H
          have c17b0:((rd l0_0 x5_2) == (rd l1_0 x5_2))=false:=beq_eq_false_iff_ne.mpr c17
          have c17b1:((rd l0_0 x5_2) != (rd l1_0 x5_2))=true:=bne_iff_ne.mpr c17
          obtain rfl:=Option.some.inj H
          have hnb21:=NB239_240.out
          have hnc21:=NB240_239.out
          have hcz22_0:wr.cell? ⟨gb239,0,none⟩=some (.slice A0_0 l0_0.length c0_0):=(blk_cell BK239.out 0).trans rfl
          have hcz22_1:wr.cell? ⟨gb239,1,none⟩=some (.slice A0_1 l0_1.length c0_1):=(blk_cell BK239.out 1).trans rfl
          have hfz22_0:=blk_frozen BK239.out 0
          have hfz22_1:=blk_frozen BK239.out 1
          have p241:0≤(x5_2:Int):=of_decide_eq_true (by first|(with_reducible assumption)|assumption)
          have q241:x5_2 < (l0_0.length:Int):=of_decide_eq_true (by first|(with_reducible assumption)|assumption)
          obtain ⟨ad241,e241,hx241_0⟩:=Kd.at_int HR0_0.out x5_2 p241 q241
          cases e241
          replace hx241_0:=(HB.out.cell (World.block_lt_of_cell? w _ hx241_0)).trans hx241_0
          replace p241:=eq_true p241
          replace q241:=eq_true q241
          have hcz23_0:wr.cell? ⟨gb240,0,none⟩=some (.slice A1_0 l1_0.length c1_0):=(blk_cell BK240.out 0).trans rfl
          have hcz23_1:wr.cell? ⟨gb240,1,none⟩=some (.slice A1_1 l1_1.length c1_1):=(blk_cell BK240.out 1).trans rfl
          have hfz23_0:=blk_frozen BK240.out 0
          have hfz23_1:=blk_frozen BK240.out 1
          have p242:0≤(x5_2:Int):=of_decide_eq_true (by first|(with_reducible assumption)|assumption)
          have q242:x5_2 < (l1_0.length:Int):=of_decide_eq_true (by first|(with_reducible assumption)|assumption)
          obtain ⟨ad242,e242,hx242_0⟩:=Kd.at_int HR1_0.out x5_2 p242 q242
          cases e242
          replace hx242_0:=(HB.out.cell (World.block_lt_of_cell? w _ hx242_0)).trans hx242_0
          replace p242:=eq_true p242
          replace q242:=eq_true q242
          go_wp2
          repeat (go_quiet (fail);try go_wp2)
          go_ret
          exact ⟨by first|rfl|(simp [errW_none,errW_some] <;> rfl)|(simp [*,errW_none,errW_some] <;> rfl),by repeat (first|(with_reducible first|exact HB.out|apply zlA|apply zlN|apply zlD|refine zlS ?_ GE239.out|refine zlS ?_ GE240.out)|exact HB.out)⟩
        ·rw [if_neg c16] at H
         exact absurd H (by simp)
       ·rw [if_neg c15] at H
        exact absurd H (by simp)
      ·rw [if_neg c14] at H
       have c14b0:decide (x5_2 < (l0_0.length:Int))=false:=decide_eq_false c14
       clear c14
       have H':=zm H
       clear H
       have hnb24:=NB239_240.out
       have hnc24:=NB240_239.out
       have hcz25_0:wr.cell? ⟨gb239,0,none⟩=some (.slice A0_0 l0_0.length c0_0):=(blk_cell BK239.out 0).trans rfl
       have hcz25_1:wr.cell? ⟨gb239,1,none⟩=some (.slice A0_1 l0_1.length c0_1):=(blk_cell BK239.out 1).trans rfl
       have hfz25_0:=blk_frozen BK239.out 0
       have hfz25_1:=blk_frozen BK239.out 1
       go_wp2
       repeat (go_quiet (fail);try go_wp2)
       go_loopg [6] k2 (fun kq v6 w'=>∃ (x6_3:Int),v6=.int .i64 x6_3∧Aside0 (slipwayref04_Same.l1 kq x6_3 l0_0 l0_1 l1_0 l1_1=some r)∧Aside0 (kq≤k2)∧Aside0 (w'.heap[gb239]?=some (.cells #[(.slice A0_0 l0_0.length c0_0),(.slice A0_1 l0_1.length c0_1)] 25 (0,0)))∧Aside0 (w'.heap[gb240]?=some (.cells #[(.slice A1_0 l1_0.length c1_0),(.slice A1_1 l1_1.length c1_1)] 25 (0,0)))∧Aside0 (Below w.heap.size w w'))
       case atStart=>exact ⟨(0),(by first|rfl|(simp;done)|(simp [*];done)),H',⟨Nat.le_refl _⟩,⟨by (with_reducible repeat (first|refine zbN ?_ _|refine zbD ?_|refine zbA ?_ _));exact BK239.out⟩,⟨by (with_reducible repeat (first|refine zbN ?_ _|refine zbD ?_|refine zbA ?_ _));exact BK240.out⟩,⟨by repeat (first|(with_reducible first|exact HB.out|apply zlA|apply zlN|apply zlD|refine zlS ?_ GE239.out|refine zlS ?_ GE240.out)|exact HB.out)⟩⟩
       case round =>
        clear H'
        try clear c1
        try clear c2
        try clear p2
        try clear q2
        try clear hx2
        try clear c6
        try clear c6b0
        try clear c6b1
        try clear c6b2
        try clear p6
        try clear c7
        try clear c10
        try clear c13
        try clear c14
        try clear c14b0
        try clear c15
        try clear c15b0
        try clear c16
        try clear c16b0
        try clear c17
        try clear c17b0
        try clear c17b1
        try clear c18
        try clear c21
        try clear c24
        try clear p24
        try clear q24
        try clear hx24
        try clear hcz11_0
        try clear hcz11_1
        try clear hcz12_0
        try clear hcz12_1
        try clear hcz19_0
        try clear hcz19_1
        try clear hcz20_0
        try clear hcz20_1
        try clear hcz22_0
        try clear hcz22_1
        try clear hcz23_0
        try clear hcz23_1
        try clear hcz25_0
        try clear hcz25_1
        try clear hcz8_0
        try clear hcz8_1
        try clear hcz9_0
        try clear hcz9_1
        try clear hfz11_0
        try clear hfz11_1
        try clear hfz12_0
        try clear hfz12_1
        try clear hfz19_0
        try clear hfz19_1
        try clear hfz20_0
        try clear hfz20_1
        try clear hfz22_0
        try clear hfz22_1
        try clear hfz23_0
        try clear hfz23_1
        try clear hfz25_0
        try clear hfz25_1
        try clear hfz8_0
        try clear hfz8_1
        try clear hfz9_0
        try clear hfz9_1
        try clear hx241_0
        try clear hx242_0
        try clear p2
        try clear p241
        try clear p242
        try clear q241
        try clear q242
        obtain ⟨x6_3,rfl,HA,HK3,BK239,BK240,HB⟩:=hrel
        cases gk with
        | zero=>exact absurd HA.out (by simp [slipwayref04_Same.l1])
        | succ k3 =>
         have H:=HA.out
         clear HA
         simp only [slipwayref04_Same.l1] at H
         by_cases c26:x6_3 < (l0_1.length:Int)
         ·rw [if_pos c26] at H
          have c26b0:decide (x6_3 < (l0_1.length:Int))=true:=decide_eq_true c26
          clear c26
          by_cases c27:0≤x6_3
          ·rw [if_pos c27] at H
           have c27b0:decide (0≤x6_3)=true:=decide_eq_true c27
           clear c27
           by_cases c28:x6_3 < (l1_1.length:Int)
           ·rw [if_pos c28] at H
            have c28b0:decide (x6_3 < (l1_1.length:Int))=true:=decide_eq_true c28
            clear c28
            by_cases c29:(rd l0_1 x6_3)=(rd l1_1 x6_3)
            ·rw [if_pos c29] at H
             have c29b0:((rd l0_1 x6_3) == (rd l1_1 x6_3))=true:=beq_iff_eq.mpr c29
             have c29b1:((rd l0_1 x6_3) != (rd l1_1 x6_3))=false:=bne_eq_false_iff_eq.mpr c29
             clear c29
             have H':=zm H
             clear H
             have hnb30:=NB239_240.out
             have hnc30:=NB240_239.out
             have hcz31_0:wr.cell? ⟨gb239,0,none⟩=some (.slice A0_0 l0_0.length c0_0):=(blk_cell BK239.out 0).trans rfl
             have hcz31_1:wr.cell? ⟨gb239,1,none⟩=some (.slice A0_1 l0_1.length c0_1):=(blk_cell BK239.out 1).trans rfl
             have hfz31_0:=blk_frozen BK239.out 0
             have hfz31_1:=blk_frozen BK239.out 1
             have p243:0≤(x6_3:Int):=of_decide_eq_true (by first|(with_reducible assumption)|assumption)
             have q243:x6_3 < (l0_1.length:Int):=of_decide_eq_true (by first|(with_reducible assumption)|assumption)
             obtain ⟨ad243,e243,hx243_0⟩:=Kd.at_int HR0_1.out x6_3 p243 q243
             cases e243
             replace hx243_0:=(HB.out.cell (World.block_lt_of_cell? w _ hx243_0)).trans hx243_0
             replace p243:=eq_true p243
             replace q243:=eq_true q243
             have hcz32_0:wr.cell? ⟨gb240,0,none⟩=some (.slice A1_0 l1_0.length c1_0):=(blk_cell BK240.out 0).trans rfl
             have hcz32_1:wr.cell? ⟨gb240,1,none⟩=some (.slice A1_1 l1_1.length c1_1):=(blk_cell BK240.out 1).trans rfl
             have hfz32_0:=blk_frozen BK240.out 0
             have hfz32_1:=blk_frozen BK240.out 1
             have p244:0≤(x6_3:Int):=of_decide_eq_true (by first|(with_reducible assumption)|assumption)
             have q244:x6_3 < (l1_1.length:Int):=of_decide_eq_true (by first|(with_reducible assumption)|assumption)
             obtain ⟨ad244,e244,hx244_0⟩:=Kd.at_int HR1_1.out x6_3 p244 q244
             cases e244
             replace hx244_0:=(HB.out.cell (World.block_lt_of_cell? w _ hx244_0)).trans hx244_0
             replace p244:=eq_true p244
             replace q244:=eq_true q244
             go_wp2
             repeat (go_quiet (fail);try go_wp2)
             go_roundg k3
             case measure=>have:=HJ2.out;have:=HK2.out;have:=HK3.out;omega
             case rel=>exact ⟨(wrap64 (x6_3 + 1)),(by first|rfl|(simp;done)|(simp [*];done)),H',⟨by have:=HJ2.out;have:=HK2.out;have:=HK3.out;omega⟩,⟨by (with_reducible repeat (first|refine zbN ?_ _|refine zbD ?_|refine zbA ?_ _));exact BK239.out⟩,⟨by (with_reducible repeat (first|refine zbN ?_ _|refine zbD ?_|refine zbA ?_ _));exact BK240.out⟩,⟨by repeat (first|(with_reducible first|exact HB.out|apply zlA|apply zlN|apply zlD|refine zlS ?_ GE239.out|refine zlS ?_ GE240.out)|exact HB.out)⟩⟩
            ·rw [if_neg c29] at H
             have c29b0:((rd l0_1 x6_3) == (rd l1_1 x6_3))=false:=beq_eq_false_iff_ne.mpr c29
             have c29b1:((rd l0_1 x6_3) != (rd l1_1 x6_3))=true:=bne_iff_ne.mpr c29
             obtain rfl:=Option.some.inj H
             have hnb33:=NB239_240.out
             have hnc33:=NB240_239.out
             have hcz34_0:wr.cell? ⟨gb239,0,none⟩=some (.slice A0_0 l0_0.length c0_0):=(blk_cell BK239.out 0).trans rfl
             have hcz34_1:wr.cell? ⟨gb239,1,none⟩=some (.slice A0_1 l0_1.length c0_1):=(blk_cell BK239.out 1).trans rfl
             have hfz34_0:=blk_frozen BK239.out 0
             have hfz34_1:=blk_frozen BK239.out 1
             have p243:0≤(x6_3:Int):=of_decide_eq_true (by first|(with_reducible assumption)|assumption)
             have q243:x6_3 < (l0_1.length:Int):=of_decide_eq_true (by first|(with_reducible assumption)|assumption)
             obtain ⟨ad243,e243,hx243_0⟩:=Kd.at_int HR0_1.out x6_3 p243 q243
             cases e243
             replace hx243_0:=(HB.out.cell (World.block_lt_of_cell? w _ hx243_0)).trans hx243_0
             replace p243:=eq_true p243
             replace q243:=eq_true q243
             have hcz35_0:wr.cell? ⟨gb240,0,none⟩=some (.slice A1_0 l1_0.length c1_0):=(blk_cell BK240.out 0).trans rfl
             have hcz35_1:wr.cell? ⟨gb240,1,none⟩=some (.slice A1_1 l1_1.length c1_1):=(blk_cell BK240.out 1).trans rfl
             have hfz35_0:=blk_frozen BK240.out 0
             have hfz35_1:=blk_frozen BK240.out 1
             have p244:0≤(x6_3:Int):=of_decide_eq_true (by first|(with_reducible assumption)|assumption)
             have q244:x6_3 < (l1_1.length:Int):=of_decide_eq_true (by first|(with_reducible assumption)|assumption)
             obtain ⟨ad244,e244,hx244_0⟩:=Kd.at_int HR1_1.out x6_3 p244 q244
             cases e244
             replace hx244_0:=(HB.out.cell (World.block_lt_of_cell? w _ hx244_0)).trans hx244_0
             replace p244:=eq_true p244
             replace q244:=eq_true q244
             go_wp2
             repeat (go_quiet (fail);try go_wp2)
             go_ret
             exact ⟨by first|rfl|(simp [errW_none,errW_some] <;> rfl)|(simp [*,errW_none,errW_some] <;> rfl),by repeat (first|(with_reducible first|exact HB.out|apply zlA|apply zlN|apply zlD|refine zlS ?_ GE239.out|refine zlS ?_ GE240.out)|exact HB.out)⟩
           ·rw [if_neg c28] at H
            exact absurd H (by simp)
          ·rw [if_neg c27] at H
           exact absurd H (by simp)
         ·rw [if_neg c26] at H
          have c26b0:decide (x6_3 < (l0_1.length:Int))=false:=decide_eq_false c26
          clear c26
          obtain rfl:=Option.some.inj H
          have hnb36:=NB239_240.out
          have hnc36:=NB240_239.out
          have hcz37_0:wr.cell? ⟨gb239,0,none⟩=some (.slice A0_0 l0_0.length c0_0):=(blk_cell BK239.out 0).trans rfl
          have hcz37_1:wr.cell? ⟨gb239,1,none⟩=some (.slice A0_1 l0_1.length c0_1):=(blk_cell BK239.out 1).trans rfl
          have hfz37_0:=blk_frozen BK239.out 0
          have hfz37_1:=blk_frozen BK239.out 1
          go_wp2
          repeat (go_quiet (fail);try go_wp2)
          go_ret
          exact ⟨by first|rfl|(simp [errW_none,errW_some] <;> rfl)|(simp [*,errW_none,errW_some] <;> rfl),by repeat (first|(with_reducible first|exact HB.out|apply zlA|apply zlN|apply zlD|refine zlS ?_ GE239.out|refine zlS ?_ GE240.out)|exact HB.out)⟩
end Go.Proofs.Ytlegmnpngcadhaa.Print
end
section
namespace Go.Proofs.Ytlegmnpngcadhaa.Print
open Go.RowKit Go.Proofs.YtlegmnpngcadhaaW.PrintWords Go.Proofs.YtlegmnpngcadhaaW.PrintLast Go.Proofs.YtlegmnpngcadhaaW.PrintMore
attribute [local go_sem] max2_int min2_int max_two min_two max_three min_three max_four min_four   -- for this text's walks alone
attribute [local go_sem ↓] Go.Proofs.Ytlegmnpngcadhaa.Sem.isSome_setCell
attribute [local go_sem] Go.Instr.field Go.asAgg
set_option linter.unusedVariables false
set_option linter.unusedSimpArgs false
def slices_Equal_int_int.l0:Nat → List Int → List Int → Int → Int → Option (Bool)
 | 0,_,_,_,_=>none
 | k + 1,x0,x1,x12,x13=>if x13 < x12 then (if 0≤x13 then (if x13 < (x0.length:Int) then (if x13 < (x1.length:Int) then (if (rd x0 x13)=(rd x1 x13) then (slices_Equal_int_int.l0 k x0 x1 x12 (wrap64 (x13 + 1))) else (some false)) else (none)) else (none)) else (none)) else (some true)
def slices_Equal_int_int.f (k:Nat) (l0:List Int) (l1:List Int):Option (Bool):=if (l0.length:Int)=(l1.length:Int) then (slices_Equal_int_int.l0 k l0 l1 (l0.length:Int) 0) else (some false)
set_option maxHeartbeats 8000000 in
set_option maxRecDepth 100000 in
theorem slices_Equal_int_int.calls (k:Nat) (A0:Option Addr) (c0:Nat) (l0:List Int) (A1:Option Addr) (c1:Nat) (l1:List Int) (r:Bool) (w:World) (hr0:Kd.C (Kd.int .i64) w A0 l0.length l0) (hc0:l0.length≤c0) (hr1:Kd.C (Kd.int .i64) w A1 l1.length l1) (hc1:l1.length≤c1) (h:slices_Equal_int_int.f k l0 l1=some r) :
  Calls Try.prog 27 #[.slice A0 l0.length c0,.slice A1 l1.length c1] w fun e w'=>e=.returned (.bool r)∧Drawn0 w w':=by
 have HR0:=zm hr0
 have HC0:=zm hc0
 clear hr0 hc0
 have HR1:=zm hr1
 have HC1:=zm hc1
 clear hr1 hc1
 have H:(if (l0.length:Int)=(l1.length:Int) then (slices_Equal_int_int.l0 k l0 l1 (l0.length:Int) 0) else (some false))=some r:=h
 clear h
 by_cases c3:(l0.length:Int)=(l1.length:Int)
 ·rw [if_pos c3] at H
  have c3b0:((l0.length:Int) == (l1.length:Int))=true:=beq_iff_eq.mpr c3
  have c3b1:((l0.length:Int) != (l1.length:Int))=false:=bne_eq_false_iff_eq.mpr c3
  have c3b2:(l0.length == l1.length)=true:=by first|simpa using c3|(simp at c3 ⊢;omega)
  clear c3
  have H':=zm H
  clear H
  go_enter Try.func27,Try.ntmps27
  go_wp2
  repeat (go_quiet (fail);try go_wp2)
  go_loopg [13] k (fun kq v13 w'=>∃ (x13_1:Int),v13=.int .i64 x13_1∧Aside0 (slices_Equal_int_int.l0 kq l0 l1 (l0.length:Int) x13_1=some r)∧Aside0 (kq≤k)∧Drawn0 w w')
  case atStart=>exact ⟨(0),(by first|rfl|(simp;done)|(simp [*];done)),H',⟨Nat.le_refl _⟩,by repeat (first|exact Drawn0.refl _|apply Drawn0.step)⟩
  case round =>
   clear H'
   try clear c1
   try clear c2
   try clear p2
   try clear c3
   try clear c3b0
   try clear c3b1
   try clear c3b2
   obtain ⟨x13_1,rfl,HA,HK1,⟨m1,rfl⟩⟩:=hrel
   cases gk with
   | zero=>exact absurd HA.out (by simp [slices_Equal_int_int.l0])
   | succ k1 =>
    have H:=HA.out
    clear HA
    simp only [slices_Equal_int_int.l0] at H
    by_cases c4:x13_1 < (l0.length:Int)
    ·rw [if_pos c4] at H
     have c4b0:decide (x13_1 < (l0.length:Int))=true:=decide_eq_true c4
     clear c4
     by_cases c5:0≤x13_1
     ·rw [if_pos c5] at H
      have c5b0:decide (0≤x13_1)=true:=decide_eq_true c5
      clear c5
      by_cases c6:x13_1 < (l0.length:Int)
      ·rw [if_pos c6] at H
       have c6b0:decide (x13_1 < (l0.length:Int))=true:=decide_eq_true c6
       clear c6
       by_cases c7:x13_1 < (l1.length:Int)
       ·rw [if_pos c7] at H
        have c7b0:decide (x13_1 < (l1.length:Int))=true:=decide_eq_true c7
        clear c7
        by_cases c8:(rd l0 x13_1)=(rd l1 x13_1)
        ·rw [if_pos c8] at H
         have c8b0:((rd l0 x13_1) == (rd l1 x13_1))=true:=beq_iff_eq.mpr c8
         have c8b1:((rd l0 x13_1) != (rd l1 x13_1))=false:=bne_eq_false_iff_eq.mpr c8
         clear c8
         have H':=zm H
         clear H
         have p275:0≤(x13_1:Int):=of_decide_eq_true (by first|(with_reducible assumption)|assumption)
         have q275:x13_1 < (l0.length:Int):=of_decide_eq_true (by first|(with_reducible assumption)|assumption)
         obtain ⟨ad275,e275,hx275_0⟩:=Kd.at_int HR0.out x13_1 p275 q275
         cases e275
         replace p275:=eq_true p275
         replace q275:=eq_true q275
         have p276:0≤(x13_1:Int):=of_decide_eq_true (by first|(with_reducible assumption)|assumption)
         have q276:x13_1 < (l1.length:Int):=of_decide_eq_true (by first|(with_reducible assumption)|assumption)
         obtain ⟨ad276,e276,hx276_0⟩:=Kd.at_int HR1.out x13_1 p276 q276
         cases e276
         replace p276:=eq_true p276
         replace q276:=eq_true q276
         go_wp2
         repeat (go_quiet (fail);try go_wp2)
         go_roundg k1
         case measure=>have:=HK1.out;omega
         case rel=>exact ⟨(wrap64 (x13_1 + 1)),(by first|rfl|(simp;done)|(simp [*];done)),H',⟨by have:=HK1.out;omega⟩,by repeat (first|exact Drawn0.refl _|apply Drawn0.step)⟩
        ·rw [if_neg c8] at H
         have c8b0:((rd l0 x13_1) == (rd l1 x13_1))=false:=beq_eq_false_iff_ne.mpr c8
         have c8b1:((rd l0 x13_1) != (rd l1 x13_1))=true:=bne_iff_ne.mpr c8
         obtain rfl:=Option.some.inj H
         have p275:0≤(x13_1:Int):=of_decide_eq_true (by first|(with_reducible assumption)|assumption)
         have q275:x13_1 < (l0.length:Int):=of_decide_eq_true (by first|(with_reducible assumption)|assumption)
         obtain ⟨ad275,e275,hx275_0⟩:=Kd.at_int HR0.out x13_1 p275 q275
         cases e275
         replace p275:=eq_true p275
         replace q275:=eq_true q275
         have p276:0≤(x13_1:Int):=of_decide_eq_true (by first|(with_reducible assumption)|assumption)
         have q276:x13_1 < (l1.length:Int):=of_decide_eq_true (by first|(with_reducible assumption)|assumption)
         obtain ⟨ad276,e276,hx276_0⟩:=Kd.at_int HR1.out x13_1 p276 q276
         cases e276
         replace p276:=eq_true p276
         replace q276:=eq_true q276
         go_wp2
         repeat (go_quiet (fail);try go_wp2)
         go_ret
         exact ⟨by first|rfl|(simp;done)|(simp [*];done),by repeat (first|exact Drawn0.refl _|apply Drawn0.step)⟩
       ·rw [if_neg c7] at H
        exact absurd H (by simp)
      ·rw [if_neg c6] at H
       exact absurd H (by simp)
     ·rw [if_neg c5] at H
      exact absurd H (by simp)
    ·rw [if_neg c4] at H
     have c4b0:decide (x13_1 < (l0.length:Int))=false:=decide_eq_false c4
     clear c4
     obtain rfl:=Option.some.inj H
     go_wp2
     repeat (go_quiet (fail);try go_wp2)
     go_ret
     exact ⟨by first|rfl|(simp;done)|(simp [*];done),by repeat (first|exact Drawn0.refl _|apply Drawn0.step)⟩
 ·rw [if_neg c3] at H
  have c3b0:((l0.length:Int) == (l1.length:Int))=false:=beq_eq_false_iff_ne.mpr c3
  have c3b1:((l0.length:Int) != (l1.length:Int))=true:=bne_iff_ne.mpr c3
  have c3b2:(l0.length == l1.length)=false:=by first|simpa using c3|(simp at c3 ⊢;omega)
  obtain rfl:=Option.some.inj H
  go_enter Try.func27,Try.ntmps27
  go_wp2
  repeat (go_quiet (fail);try go_wp2)
  go_ret
  exact ⟨by first|rfl|(simp;done)|(simp [*];done),by repeat (first|exact Drawn0.refl _|apply Drawn0.step)⟩
def slices_Equal_int64_int64.l0:Nat → List Int → List Int → Int → Int → Option (Bool)
 | 0,_,_,_,_=>none
 | k + 1,x0,x1,x12,x13=>if x13 < x12 then (if 0≤x13 then (if x13 < (x0.length:Int) then (if x13 < (x1.length:Int) then (if (rd x0 x13)=(rd x1 x13) then (slices_Equal_int64_int64.l0 k x0 x1 x12 (wrap64 (x13 + 1))) else (some false)) else (none)) else (none)) else (none)) else (some true)
def slices_Equal_int64_int64.f (k:Nat) (l0:List Int) (l1:List Int):Option (Bool):=if (l0.length:Int)=(l1.length:Int) then (slices_Equal_int64_int64.l0 k l0 l1 (l0.length:Int) 0) else (some false)
set_option maxHeartbeats 8000000 in
set_option maxRecDepth 100000 in
theorem slices_Equal_int64_int64.calls (k:Nat) (A0:Option Addr) (c0:Nat) (l0:List Int) (A1:Option Addr) (c1:Nat) (l1:List Int) (r:Bool) (w:World) (hr0:Kd.C (Kd.int .i64) w A0 l0.length l0) (hc0:l0.length≤c0) (hr1:Kd.C (Kd.int .i64) w A1 l1.length l1) (hc1:l1.length≤c1) (h:slices_Equal_int64_int64.f k l0 l1=some r) :
  Calls Try.prog 40 #[.slice A0 l0.length c0,.slice A1 l1.length c1] w fun e w'=>e=.returned (.bool r)∧Drawn0 w w':=by
 have HR0:=zm hr0
 have HC0:=zm hc0
 clear hr0 hc0
 have HR1:=zm hr1
 have HC1:=zm hc1
 clear hr1 hc1
 have H:(if (l0.length:Int)=(l1.length:Int) then (slices_Equal_int64_int64.l0 k l0 l1 (l0.length:Int) 0) else (some false))=some r:=h
 clear h
 by_cases c3:(l0.length:Int)=(l1.length:Int)
 ·rw [if_pos c3] at H
  have c3b0:((l0.length:Int) == (l1.length:Int))=true:=beq_iff_eq.mpr c3
  have c3b1:((l0.length:Int) != (l1.length:Int))=false:=bne_eq_false_iff_eq.mpr c3
  have c3b2:(l0.length == l1.length)=true:=by first|simpa using c3|(simp at c3 ⊢;omega)
  clear c3
  have H':=zm H
  clear H
  go_enter Try.func40,Try.ntmps40
  go_wp2
  repeat (go_quiet (fail);try go_wp2)
  go_loopg [13] k (fun kq v13 w'=>∃ (x13_1:Int),v13=.int .i64 x13_1∧Aside0 (slices_Equal_int64_int64.l0 kq l0 l1 (l0.length:Int) x13_1=some r)∧Aside0 (kq≤k)∧Drawn0 w w')
  case atStart=>exact ⟨(0),(by first|rfl|(simp;done)|(simp [*];done)),H',⟨Nat.le_refl _⟩,by repeat (first|exact Drawn0.refl _|apply Drawn0.step)⟩
  case round =>
   clear H'
   try clear c1
   try clear p2
   try clear c3
   try clear c3b0
   try clear c3b1
   try clear c3b2
   obtain ⟨x13_1,rfl,HA,HK1,⟨m1,rfl⟩⟩:=hrel
   cases gk with
   | zero=>exact absurd HA.out (by simp [slices_Equal_int64_int64.l0])
   | succ k1 =>
    have H:=HA.out
    clear HA
    simp only [slices_Equal_int64_int64.l0] at H
    by_cases c4:x13_1 < (l0.length:Int)
    ·rw [if_pos c4] at H
     have c4b0:decide (x13_1 < (l0.length:Int))=true:=decide_eq_true c4
     clear c4
     by_cases c5:0≤x13_1
     ·rw [if_pos c5] at H
      have c5b0:decide (0≤x13_1)=true:=decide_eq_true c5
      clear c5
      by_cases c6:x13_1 < (l0.length:Int)
      ·rw [if_pos c6] at H
       have c6b0:decide (x13_1 < (l0.length:Int))=true:=decide_eq_true c6
       clear c6
       by_cases c7:x13_1 < (l1.length:Int)
       ·rw [if_pos c7] at H
        have c7b0:decide (x13_1 < (l1.length:Int))=true:=decide_eq_true c7
        clear c7
        by_cases c8:(rd l0 x13_1)=(rd l1 x13_1)
        ·rw [if_pos c8] at H
         have c8b0:((rd l0 x13_1) == (rd l1 x13_1))=true:=beq_iff_eq.mpr c8
         have c8b1:((rd l0 x13_1) != (rd l1 x13_1))=false:=bne_eq_false_iff_eq.mpr c8
         clear c8
         have H':=zm H
         clear H
         have p277:0≤(x13_1:Int):=of_decide_eq_true (by first|(with_reducible assumption)|assumption)
         have q277:x13_1 < (l0.length:Int):=of_decide_eq_true (by first|(with_reducible assumption)|assumption)
         obtain ⟨ad277,e277,hx277_0⟩:=Kd.at_int HR0.out x13_1 p277 q277
         cases e277
         replace p277:=eq_true p277
         replace q277:=eq_true q277
         have p278:0≤(x13_1:Int):=of_decide_eq_true (by first|(with_reducible assumption)|assumption)
         have q278:x13_1 < (l1.length:Int):=of_decide_eq_true (by first|(with_reducible assumption)|assumption)
         obtain ⟨ad278,e278,hx278_0⟩:=Kd.at_int HR1.out x13_1 p278 q278
         cases e278
         replace p278:=eq_true p278
         replace q278:=eq_true q278
         go_wp2
         repeat (go_quiet (fail);try go_wp2)
         go_roundg k1
         case measure=>have:=HK1.out;omega
         case rel=>exact ⟨(wrap64 (x13_1 + 1)),(by first|rfl|(simp;done)|(simp [*];done)),H',⟨by have:=HK1.out;omega⟩,by repeat (first|exact Drawn0.refl _|apply Drawn0.step)⟩
        ·rw [if_neg c8] at H
         have c8b0:((rd l0 x13_1) == (rd l1 x13_1))=false:=beq_eq_false_iff_ne.mpr c8
         have c8b1:((rd l0 x13_1) != (rd l1 x13_1))=true:=bne_iff_ne.mpr c8
         obtain rfl:=Option.some.inj H
         have p277:0≤(x13_1:Int):=of_decide_eq_true (by first|(with_reducible assumption)|assumption)
         have q277:x13_1 < (l0.length:Int):=of_decide_eq_true (by first|(with_reducible assumption)|assumption)
         obtain ⟨ad277,e277,hx277_0⟩:=Kd.at_int HR0.out x13_1 p277 q277
         cases e277
         replace p277:=eq_true p277
         replace q277:=eq_true q277
         have p278:0≤(x13_1:Int):=of_decide_eq_true (by first|(with_reducible assumption)|assumption)
         have q278:x13_1 < (l1.length:Int):=of_decide_eq_true (by first|(with_reducible assumption)|assumption)
         obtain ⟨ad278,e278,hx278_0⟩:=Kd.at_int HR1.out x13_1 p278 q278
         cases e278
         replace p278:=eq_true p278
         replace q278:=eq_true q278
         go_wp2
         repeat (go_quiet (fail);try go_wp2)
         go_ret
         exact ⟨by first|rfl|(simp;done)|(simp [*];done),by repeat (first|exact Drawn0.refl _|apply Drawn0.step)⟩
       ·rw [if_neg c7] at H
        exact absurd H (by simp)
      ·rw [if_neg c6] at H
       exact absurd H (by simp)
     ·rw [if_neg c5] at H
      exact absurd H (by simp)
    ·rw [if_neg c4] at H
     have c4b0:decide (x13_1 < (l0.length:Int))=false:=decide_eq_false c4
     clear c4
     obtain rfl:=Option.some.inj H
     go_wp2
     repeat (go_quiet (fail);try go_wp2)
     go_ret
     exact ⟨by first|rfl|(simp;done)|(simp [*];done),by repeat (first|exact Drawn0.refl _|apply Drawn0.step)⟩
 ·rw [if_neg c3] at H
  have c3b0:((l0.length:Int) == (l1.length:Int))=false:=beq_eq_false_iff_ne.mpr c3
  have c3b1:((l0.length:Int) != (l1.length:Int))=true:=bne_iff_ne.mpr c3
  have c3b2:(l0.length == l1.length)=false:=by first|simpa using c3|(simp at c3 ⊢;omega)
  obtain rfl:=Option.some.inj H
  go_enter Try.func40,Try.ntmps40
  go_wp2
  repeat (go_quiet (fail);try go_wp2)
  go_ret
  exact ⟨by first|rfl|(simp;done)|(simp [*];done),by repeat (first|exact Drawn0.refl _|apply Drawn0.step)⟩
end Go.Proofs.Ytlegmnpngcadhaa.Print
end
section
namespace Go.Proofs.Ytlegmnpngcadhaa.Print
open Go.RowKit Go.Proofs.YtlegmnpngcadhaaW.PrintWords Go.Proofs.YtlegmnpngcadhaaW.PrintLast Go.Proofs.YtlegmnpngcadhaaW.PrintMore
attribute [local go_sem] max2_int min2_int max_two min_two max_three min_three max_four min_four   -- for this text's walks alone
attribute [local go_sem ↓] Go.Proofs.Ytlegmnpngcadhaa.Sem.isSome_setCell
attribute [local go_sem] Go.Instr.field Go.asAgg
set_option linter.unusedVariables false
set_option linter.unusedSimpArgs false
def pool_Same.f (k:Nat) (l0_0:List Int) (l0_1:List Int) (l1_0:List Int) (l1_1:List Int):Option (Bool):=(slices_Equal_int_int.f k l0_0 l1_0).bind fun t281=>(if t281=true then ((slices_Equal_int64_int64.f k l0_1 l1_1).bind fun t282=>(some t282)) else (some false))
set_option maxHeartbeats 8000000 in
set_option maxRecDepth 100000 in
theorem pool_Same.calls (k:Nat) (A0_0:Option Addr) (c0_0:Nat) (l0_0:List Int) (A0_1:Option Addr) (c0_1:Nat) (l0_1:List Int) (A1_0:Option Addr) (c1_0:Nat) (l1_0:List Int) (A1_1:Option Addr) (c1_1:Nat) (l1_1:List Int) (r:Bool) (w:World) (hr0_0:Kd.C (Kd.int .i64) w A0_0 l0_0.length l0_0) (hc0_0:l0_0.length≤c0_0) (hr0_1:Kd.C (Kd.int .i64) w A0_1 l0_1.length l0_1) (hc0_1:l0_1.length≤c0_1) (hr1_0:Kd.C (Kd.int .i64) w A1_0 l1_0.length l1_0) (hc1_0:l1_0.length≤c1_0) (hr1_1:Kd.C (Kd.int .i64) w A1_1 l1_1.length l1_1) (hc1_1:l1_1.length≤c1_1) (h:pool_Same.f k l0_0 l0_1 l1_0 l1_1=some r) :
  Calls Try.prog 17 #[.agg #[.slice A0_0 l0_0.length c0_0,.slice A0_1 l0_1.length c0_1],.agg #[.slice A1_0 l1_0.length c1_0,.slice A1_1 l1_1.length c1_1]] w fun e w'=>e=.returned (.bool r)∧Below w.heap.size w w':=by
 have hu25:=Try.underlying25
 have HR0_0:=zm hr0_0
 have HC0_0:=zm hc0_0
 clear hr0_0 hc0_0
 have HR0_1:=zm hr0_1
 have HC0_1:=zm hc0_1
 clear hr0_1 hc0_1
 have HR1_0:=zm hr1_0
 have HC1_0:=zm hc1_0
 clear hr1_0 hc1_0
 have HR1_1:=zm hr1_1
 have HC1_1:=zm hc1_1
 clear hr1_1 hc1_1
 have HB:=zm (Below.refl w.heap.size w)
 have H:((slices_Equal_int_int.f k l0_0 l1_0).bind fun t281=>(if t281=true then ((slices_Equal_int64_int64.f k l0_1 l1_1).bind fun t282=>(some t282)) else (some false)))=some r:=h
 clear h
 replace H:=Option.bind_eq_some_iff.mp H
 obtain ⟨t281,A30,H⟩:=H
 replace H:(if t281=true then ((slices_Equal_int64_int64.f k l0_1 l1_1).bind fun t282=>(some t282)) else (some false))=some r:=H
 have A3:=zm A30
 clear A30
 by_cases c4:t281=true
 ·subst c4
  have H1:((slices_Equal_int64_int64.f k l0_1 l1_1).bind fun t282=>(some t282))=some r:=by rw [if_pos rfl] at H;exact H
  clear H
  have H:=H1
  clear H1
  replace H:=Option.bind_eq_some_iff.mp H
  obtain ⟨t282,A50,H⟩:=H
  replace H:(some t282)=some r:=H
  have A5:=zm A50
  clear A50
  obtain rfl:=Option.some.inj H
  go_enter Try.func17,Try.ntmps17
  go_wp2_with (first|((with_reducible refine gate_dst (N:=2) rfl ?_);refine box_event ?hg (N:=2) ?hd (cs:=#[.slice A0_0 l0_0.length c0_0,.slice A0_1 l0_1.length c0_1]) (t:=25) ?hr ?_;(case hd=>rfl);(case hg=>rfl);(case hr=>first|(go_simp;done)|(go_simp;rfl));intro gb279 hg w6 hbox hb;have n0_:=zm (below_step (by repeat (first|(with_reducible first|exact HB.out|apply zlA|apply zlN|apply zlD)|exact HB.out)) hb);have n1_:=zm (hbox);have n2_:=zm ((by rw [hg];exact (below_size (by repeat (first|(with_reducible first|exact HB.out|apply zlA|apply zlN|apply zlD)|exact HB.out))):w.heap.size≤gb279));have n3_:=zm ((by rw [hg];exact (below_size (by repeat (first|(with_reducible first|exact HB.out|apply zlA|apply zlN|apply zlD)|exact HB.out))):w.heap.size≤gb279));clear HB;have HB:=n0_;have BK279:=n1_;have GW279:=n2_;have GE279:=n3_;clear n0_ n1_ n2_ n3_;clear hb hbox hg)|((with_reducible refine gate_dst (N:=3) rfl ?_);refine box_event ?hg (N:=3) ?hd (cs:=#[.slice A1_0 l1_0.length c1_0,.slice A1_1 l1_1.length c1_1]) (t:=25) ?hr ?_;(case hd=>rfl);(case hg=>rfl);(case hr=>first|(go_simp;done)|(go_simp;rfl));intro gb280 hg w7 hbox hb;have n0_:=zm (zbB (g:=gb279) (o:=.cells #[.slice A0_0 l0_0.length c0_0,.slice A0_1 l0_1.length c0_1] 25 (0,0)) (by (with_reducible repeat (first|refine zbN ?_ _|refine zbD ?_|refine zbA ?_ _));exact BK279.out) hb);have n1_:=zm (below_step (by repeat (first|(with_reducible first|exact HB.out|apply zlA|apply zlN|apply zlD|refine zlS ?_ GE279.out)|exact HB.out)) hb);have n2_:=zm (hbox);have n3_:=zm ((by rw [hg];exact (below_size (by repeat (first|(with_reducible first|exact HB.out|apply zlA|apply zlN|apply zlD|refine zlS ?_ GE279.out)|exact HB.out))):w.heap.size≤gb280));have n4_:=zm ((by rw [hg];exact (below_size (by repeat (first|(with_reducible first|exact HB.out|apply zlA|apply zlN|apply zlD|refine zlS ?_ GE279.out)|exact HB.out))):w.heap.size≤gb280));have n5_:=zm ((by rw [hg];exact Nat.ne_of_lt (blk_lt (g:=gb279) (o:=.cells #[.slice A0_0 l0_0.length c0_0,.slice A0_1 l0_1.length c0_1] 25 (0,0)) (by (with_reducible repeat (first|refine zbN ?_ _|refine zbD ?_|refine zbA ?_ _));exact BK279.out)):gb279≠gb280));have n6_:=zm ((by rw [hg];exact Nat.ne_of_gt (blk_lt (g:=gb279) (o:=.cells #[.slice A0_0 l0_0.length c0_0,.slice A0_1 l0_1.length c0_1] 25 (0,0)) (by (with_reducible repeat (first|refine zbN ?_ _|refine zbD ?_|refine zbA ?_ _));exact BK279.out)):gb280≠gb279));clear BK279 HB;have BK279:=n0_;have HB:=n1_;have BK280:=n2_;have GW280:=n3_;have GE280:=n4_;have NB279_280:=n5_;have NB280_279:=n6_;clear n0_ n1_ n2_ n3_ n4_ n5_ n6_;clear hb hbox hg;have hnb8:=NB279_280.out;have hnc8:=NB280_279.out;have hcz9_0:w7.cell? ⟨gb279,0,none⟩=some (.slice A0_0 l0_0.length c0_0):=(blk_cell BK279.out 0).trans rfl;have hcz9_1:w7.cell? ⟨gb279,1,none⟩=some (.slice A0_1 l0_1.length c0_1):=(blk_cell BK279.out 1).trans rfl;have hfz9_0:=blk_frozen BK279.out 0;have hfz9_1:=blk_frozen BK279.out 1;have hcz10_0:w7.cell? ⟨gb280,0,none⟩=some (.slice A1_0 l1_0.length c1_0):=(blk_cell BK280.out 0).trans rfl;have hcz10_1:w7.cell? ⟨gb280,1,none⟩=some (.slice A1_1 l1_1.length c1_1):=(blk_cell BK280.out 1).trans rfl;have hfz10_0:=blk_frozen BK280.out 0;have hfz10_1:=blk_frozen BK280.out 1)|((with_reducible refine gate_callee (f:=27) rfl ?_);refine goesL_ (some 9) rfl rfl Try.func27 (by kernel_rfl) rfl #[.slice A0_0 l0_0.length c0_0,.slice A1_0 l1_0.length c1_0] rfl (by (try simp only [List.map_toArray,List.map_cons,List.map_nil]);first|done|rfl|(simp only [List.length_drop,List.length_take];rfl)) ?_;(with_reducible refine (slices_Equal_int_int.calls k _ _ l0_0 _ _ l1_0 true _ ?side1 ?side2 ?side3 ?side4 A3.out).mono ?_);(case side1=>repeat (first|exact (Kd.C_below HR0_0.out HB.out)|(with_reducible refine Kd.C_alloc ?_ _)|(with_reducible refine Kd.C_drewN ?_ _)|(with_reducible refine Kd.C_drew ?_)));(case side2=>exact HC0_0.out);(case side3=>repeat (first|exact (Kd.C_below HR1_0.out HB.out)|(with_reducible refine Kd.C_alloc ?_ _)|(with_reducible refine Kd.C_drewN ?_ _)|(with_reducible refine Kd.C_drew ?_)));(case side4=>exact HC1_0.out);rintro e w' ⟨rfl,⟨nd,rfl⟩⟩;refine ⟨_,rfl,?_⟩)|(go_at_call 40;(with_reducible refine (slices_Equal_int64_int64.calls k _ _ l0_1 _ _ l1_1 t282 _ ?side1 ?side2 ?side3 ?side4 A5.out).mono ?_);(case side1=>repeat (first|exact (Kd.C_below HR0_1.out (by repeat (first|(with_reducible first|exact HB.out|apply zlA|apply zlN|apply zlD|refine zlS ?_ GE279.out|refine zlS ?_ GE280.out)|exact HB.out)))|(with_reducible refine Kd.C_alloc ?_ _)|(with_reducible refine Kd.C_drewN ?_ _)|(with_reducible refine Kd.C_drew ?_)));(case side2=>exact HC0_1.out);(case side3=>repeat (first|exact (Kd.C_below HR1_1.out (by repeat (first|(with_reducible first|exact HB.out|apply zlA|apply zlN|apply zlD|refine zlS ?_ GE279.out|refine zlS ?_ GE280.out)|exact HB.out)))|(with_reducible refine Kd.C_alloc ?_ _)|(with_reducible refine Kd.C_drewN ?_ _)|(with_reducible refine Kd.C_drew ?_)));(case side4=>exact HC1_1.out);rintro e w' ⟨rfl,⟨nd,rfl⟩⟩))
  go_ret
  exact ⟨by first|rfl|(simp [errW_none,errW_some] <;> rfl)|(simp [*,errW_none,errW_some] <;> rfl),by repeat (first|(with_reducible first|exact HB.out|apply zlA|apply zlN|apply zlD|refine zlS ?_ GE279.out|refine zlS ?_ GE280.out)|exact HB.out)⟩
 ·replace c4:=Bool.eq_false_iff.mpr c4
  subst c4
  have H1:(some false)=some r:=by rw [if_neg (show ¬ (false=true) by decide)] at H;exact H
  clear H
  have H:=H1
  clear H1
  obtain rfl:=Option.some.inj H
  go_enter Try.func17,Try.ntmps17
  go_wp2_with (first|((with_reducible refine gate_dst (N:=2) rfl ?_);refine box_event ?hg (N:=2) ?hd (cs:=#[.slice A0_0 l0_0.length c0_0,.slice A0_1 l0_1.length c0_1]) (t:=25) ?hr ?_;(case hd=>rfl);(case hg=>rfl);(case hr=>first|(go_simp;done)|(go_simp;rfl));intro gb279 hg w11 hbox hb;have n0_:=zm (below_step (by repeat (first|(with_reducible first|exact HB.out|apply zlA|apply zlN|apply zlD)|exact HB.out)) hb);have n1_:=zm (hbox);have n2_:=zm ((by rw [hg];exact (below_size (by repeat (first|(with_reducible first|exact HB.out|apply zlA|apply zlN|apply zlD)|exact HB.out))):w.heap.size≤gb279));have n3_:=zm ((by rw [hg];exact (below_size (by repeat (first|(with_reducible first|exact HB.out|apply zlA|apply zlN|apply zlD)|exact HB.out))):w.heap.size≤gb279));clear HB;have HB:=n0_;have BK279:=n1_;have GW279:=n2_;have GE279:=n3_;clear n0_ n1_ n2_ n3_;clear hb hbox hg)|((with_reducible refine gate_dst (N:=3) rfl ?_);refine box_event ?hg (N:=3) ?hd (cs:=#[.slice A1_0 l1_0.length c1_0,.slice A1_1 l1_1.length c1_1]) (t:=25) ?hr ?_;(case hd=>rfl);(case hg=>rfl);(case hr=>first|(go_simp;done)|(go_simp;rfl));intro gb280 hg w12 hbox hb;have n0_:=zm (zbB (g:=gb279) (o:=.cells #[.slice A0_0 l0_0.length c0_0,.slice A0_1 l0_1.length c0_1] 25 (0,0)) (by (with_reducible repeat (first|refine zbN ?_ _|refine zbD ?_|refine zbA ?_ _));exact BK279.out) hb);have n1_:=zm (below_step (by repeat (first|(with_reducible first|exact HB.out|apply zlA|apply zlN|apply zlD|refine zlS ?_ GE279.out)|exact HB.out)) hb);have n2_:=zm (hbox);have n3_:=zm ((by rw [hg];exact (below_size (by repeat (first|(with_reducible first|exact HB.out|apply zlA|apply zlN|apply zlD|refine zlS ?_ GE279.out)|exact HB.out))):w.heap.size≤gb280));have n4_:=zm ((by rw [hg];exact (below_size (by repeat (first|(with_reducible first|exact HB.out|apply zlA|apply zlN|apply zlD|refine zlS ?_ GE279.out)|exact HB.out))):w.heap.size≤gb280));have n5_:=zm ((by rw [hg];exact Nat.ne_of_lt (blk_lt (g:=gb279) (o:=.cells #[.slice A0_0 l0_0.length c0_0,.slice A0_1 l0_1.length c0_1] 25 (0,0)) (by (with_reducible repeat (first|refine zbN ?_ _|refine zbD ?_|refine zbA ?_ _));exact BK279.out)):gb279≠gb280));have n6_:=zm ((by rw [hg];exact Nat.ne_of_gt (blk_lt (g:=gb279) (o:=.cells #[.slice A0_0 l0_0.length c0_0,.slice A0_1 l0_1.length c0_1] 25 (0,0)) (by (with_reducible repeat (first|refine zbN ?_ _|refine zbD ?_|refine zbA ?_ _));exact BK279.out)):gb280≠gb279));clear BK279 HB;have BK279:=n0_;have HB:=n1_;have BK280:=n2_;have GW280:=n3_;have GE280:=n4_;have NB279_280:=n5_;have NB280_279:=n6_;clear n0_ n1_ n2_ n3_ n4_ n5_ n6_;clear hb hbox hg;have hnb13:=NB279_280.out;have hnc13:=NB280_279.out;have hcz14_0:w12.cell? ⟨gb279,0,none⟩=some (.slice A0_0 l0_0.length c0_0):=(blk_cell BK279.out 0).trans rfl;have hcz14_1:w12.cell? ⟨gb279,1,none⟩=some (.slice A0_1 l0_1.length c0_1):=(blk_cell BK279.out 1).trans rfl;have hfz14_0:=blk_frozen BK279.out 0;have hfz14_1:=blk_frozen BK279.out 1;have hcz15_0:w12.cell? ⟨gb280,0,none⟩=some (.slice A1_0 l1_0.length c1_0):=(blk_cell BK280.out 0).trans rfl;have hcz15_1:w12.cell? ⟨gb280,1,none⟩=some (.slice A1_1 l1_1.length c1_1):=(blk_cell BK280.out 1).trans rfl;have hfz15_0:=blk_frozen BK280.out 0;have hfz15_1:=blk_frozen BK280.out 1)|((with_reducible refine gate_callee (f:=27) rfl ?_);refine goesL_ (some 9) rfl rfl Try.func27 (by kernel_rfl) rfl #[.slice A0_0 l0_0.length c0_0,.slice A1_0 l1_0.length c1_0] rfl (by (try simp only [List.map_toArray,List.map_cons,List.map_nil]);first|done|rfl|(simp only [List.length_drop,List.length_take];rfl)) ?_;(with_reducible refine (slices_Equal_int_int.calls k _ _ l0_0 _ _ l1_0 false _ ?side1 ?side2 ?side3 ?side4 A3.out).mono ?_);(case side1=>repeat (first|exact (Kd.C_below HR0_0.out HB.out)|(with_reducible refine Kd.C_alloc ?_ _)|(with_reducible refine Kd.C_drewN ?_ _)|(with_reducible refine Kd.C_drew ?_)));(case side2=>exact HC0_0.out);(case side3=>repeat (first|exact (Kd.C_below HR1_0.out HB.out)|(with_reducible refine Kd.C_alloc ?_ _)|(with_reducible refine Kd.C_drewN ?_ _)|(with_reducible refine Kd.C_drew ?_)));(case side4=>exact HC1_0.out);rintro e w' ⟨rfl,⟨nd,rfl⟩⟩;refine ⟨_,rfl,?_⟩))
  go_ret
  exact ⟨by first|rfl|(simp [errW_none,errW_some] <;> rfl)|(simp [*,errW_none,errW_some] <;> rfl),by repeat (first|(with_reducible first|exact HB.out|apply zlA|apply zlN|apply zlD|refine zlS ?_ GE279.out|refine zlS ?_ GE280.out)|exact HB.out)⟩
end Go.Proofs.Ytlegmnpngcadhaa.Print
end
section
namespace Go.Proofs.Ytlegmnpngcadhaa.Print
open Go.RowKit Go.Proofs.YtlegmnpngcadhaaW.PrintWords Go.Proofs.YtlegmnpngcadhaaW.PrintLast Go.Proofs.YtlegmnpngcadhaaW.PrintMore
attribute [local go_sem] max2_int min2_int max_two min_two max_three min_three max_four min_four   -- for this text's walks alone
attribute [local go_sem ↓] Go.Proofs.Ytlegmnpngcadhaa.Sem.isSome_setCell
attribute [local go_sem] Go.Instr.field Go.asAgg
set_option linter.unusedVariables false
set_option linter.unusedSimpArgs false
def pool_Give.f (k:Nat) (l0_0:List Int) (l0_1:List Int) (a1:Int):Option (List Int × List Int × Int):=(pool_asks.f k l0_0 l0_1 a1).bind fun t294=>(if t294=0 then (if 0≤a1 then (if a1 < (l0_0.length:Int) then ((pool_role.f k (rd l0_0 a1)).bind fun bt296=>(if bt296.2=true then ((pool_turned.f l0_0 l0_1 a1 1 1).bind fun bt298=>(some (bt298.1,bt298.2,0))) else (some (([]:List Int),([]:List Int),41)))) else (none)) else (none)) else (some (([]:List Int),([]:List Int),t294)))
set_option maxHeartbeats 8000000 in
set_option maxRecDepth 100000 in
theorem pool_Give.calls (k:Nat) (A0_0:Option Addr) (c0_0:Nat) (l0_0:List Int) (A0_1:Option Addr) (c0_1:Nat) (l0_1:List Int) (a1:Int) (r1:List Int) (r2:List Int) (r3:Int) (w:World) (hr0_0:Kd.C (Kd.int .i64) w A0_0 l0_0.length l0_0) (hc0_0:l0_0.length≤c0_0) (hr0_1:Kd.C (Kd.int .i64) w A0_1 l0_1.length l0_1) (hc0_1:l0_1.length≤c0_1) (h:pool_Give.f k l0_0 l0_1 a1=some (r1,r2,r3)) :
  Calls Try.prog 20 #[.agg #[.slice A0_0 l0_0.length c0_0,.slice A0_1 l0_1.length c0_1],.int .i64 a1] w fun e w'=>∃ v0_ v1_:Value,e=.returned (.tuple #[.agg #[v0_,v1_],.int .i64 r3])∧Kd.R (Kd.int .i64) 3 w' w.heap.size (fun _=>True) v0_ r1∧Kd.R (Kd.int .i64) 2 w' w.heap.size (fun _=>True) v1_ r2∧Below w.heap.size w w':=by
 have hu25:=Try.underlying25
 have HR0_0:=zm hr0_0
 have HC0_0:=zm hc0_0
 clear hr0_0 hc0_0
 have HR0_1:=zm hr0_1
 have HC0_1:=zm hc0_1
 clear hr0_1 hc0_1
 have HB:=zm (Below.refl w.heap.size w)
 have H:((pool_asks.f k l0_0 l0_1 a1).bind fun t294=>(if t294=0 then (if 0≤a1 then (if a1 < (l0_0.length:Int) then ((pool_role.f k (rd l0_0 a1)).bind fun bt296=>(if bt296.2=true then ((pool_turned.f l0_0 l0_1 a1 1 1).bind fun bt298=>(some (bt298.1,bt298.2,0))) else (some (([]:List Int),([]:List Int),41)))) else (none)) else (none)) else (some (([]:List Int),([]:List Int),t294))))=some (r1,r2,r3):=h
 clear h
 replace H:=Option.bind_eq_some_iff.mp H
 obtain ⟨t294,A30,H⟩:=H
 replace H:(if t294=0 then (if 0≤a1 then (if a1 < (l0_0.length:Int) then ((pool_role.f k (rd l0_0 a1)).bind fun bt296=>(if bt296.2=true then ((pool_turned.f l0_0 l0_1 a1 1 1).bind fun bt298=>(some (bt298.1,bt298.2,0))) else (some (([]:List Int),([]:List Int),41)))) else (none)) else (none)) else (some (([]:List Int),([]:List Int),t294)))=some (r1,r2,r3):=H
 have A3:=zm A30
 clear A30
 by_cases c4:t294=0
 ·rw [if_pos c4] at H
  have c4b0:(t294 == 0)=true:=beq_iff_eq.mpr c4
  have c4b1:(t294 != 0)=false:=bne_eq_false_iff_eq.mpr c4
  clear c4
  by_cases c5:0≤a1
  ·rw [if_pos c5] at H
   have c5b0:decide (0≤a1)=true:=decide_eq_true c5
   clear c5
   by_cases c6:a1 < (l0_0.length:Int)
   ·rw [if_pos c6] at H
    have c6b0:decide (a1 < (l0_0.length:Int))=true:=decide_eq_true c6
    clear c6
    replace H:=Option.bind_eq_some_iff.mp H
    obtain ⟨⟨t296,t297⟩,A70,H⟩:=H
    replace H:(if t297=true then ((pool_turned.f l0_0 l0_1 a1 1 1).bind fun bt298=>(some (bt298.1,bt298.2,0))) else (some (([]:List Int),([]:List Int),41)))=some (r1,r2,r3):=H
    have A7:=zm A70
    clear A70
    by_cases c8:t297=true
    ·subst c8
     have H1:((pool_turned.f l0_0 l0_1 a1 1 1).bind fun bt298=>(some (bt298.1,bt298.2,0)))=some (r1,r2,r3):=by rw [if_pos rfl] at H;exact H
     clear H
     have H:=H1
     clear H1
     replace H:=Option.bind_eq_some_iff.mp H
     obtain ⟨⟨t298,t301⟩,A90,H⟩:=H
     replace H:(some (t298,t301,0))=some (r1,r2,r3):=H
     have A9:=zm A90
     clear A90
     simp only [Option.some.injEq,Prod.mk.injEq] at H
     obtain ⟨rfl,rfl,rfl⟩:=H
     go_enter Try.func20,Try.ntmps20
     go_wp2_with (first|((with_reducible refine gate_dst (N:=2) rfl ?_);refine box_event ?hg (N:=2) ?hd (cs:=#[.slice A0_0 l0_0.length c0_0,.slice A0_1 l0_1.length c0_1]) (t:=25) ?hr ?_;(case hd=>rfl);(case hg=>rfl);(case hr=>first|(go_simp;done)|(go_simp;rfl));intro gb292 hg w10 hbox hb;have n0_:=zm (below_step (by repeat (first|(with_reducible first|exact HB.out|apply zlA|apply zlN|apply zlD)|exact HB.out)) hb);have n1_:=zm (hbox);have n2_:=zm ((by rw [hg];exact (below_size (by repeat (first|(with_reducible first|exact HB.out|apply zlA|apply zlN|apply zlD)|exact HB.out))):w.heap.size≤gb292));have n3_:=zm ((by rw [hg];exact (below_size (by repeat (first|(with_reducible first|exact HB.out|apply zlA|apply zlN|apply zlD)|exact HB.out))):w.heap.size≤gb292));clear HB;have HB:=n0_;have BK292:=n1_;have GW292:=n2_;have GE292:=n3_;clear n0_ n1_ n2_ n3_;clear hb hbox hg)|((with_reducible refine gate_dst (N:=4) rfl ?_);refine box_event ?hg (N:=4) ?hd (cs:=#[.slice none 0 0,.slice none 0 0]) (t:=25) ?hr ?_;(case hd=>rfl);(case hg=>rfl);(case hr=>first|(go_simp;done)|(go_simp;rfl));intro gb293 hg w11 hbox hb;have n0_:=zm (zbB (g:=gb292) (o:=.cells #[.slice A0_0 l0_0.length c0_0,.slice A0_1 l0_1.length c0_1] 25 (0,0)) (by (with_reducible repeat (first|refine zbN ?_ _|refine zbD ?_|refine zbA ?_ _));exact BK292.out) hb);have n1_:=zm (below_step (by repeat (first|(with_reducible first|exact HB.out|apply zlA|apply zlN|apply zlD|refine zlS ?_ GE292.out)|exact HB.out)) hb);have n2_:=zm (hbox);have n3_:=zm ((by rw [hg];exact (below_size (by repeat (first|(with_reducible first|exact HB.out|apply zlA|apply zlN|apply zlD|refine zlS ?_ GE292.out)|exact HB.out))):w.heap.size≤gb293));have n4_:=zm ((by rw [hg];exact (below_size (by repeat (first|(with_reducible first|exact HB.out|apply zlA|apply zlN|apply zlD|refine zlS ?_ GE292.out)|exact HB.out))):w.heap.size≤gb293));have n5_:=zm ((by rw [hg];exact Nat.ne_of_lt (blk_lt (g:=gb292) (o:=.cells #[.slice A0_0 l0_0.length c0_0,.slice A0_1 l0_1.length c0_1] 25 (0,0)) (by (with_reducible repeat (first|refine zbN ?_ _|refine zbD ?_|refine zbA ?_ _));exact BK292.out)):gb292≠gb293));have n6_:=zm ((by rw [hg];exact Nat.ne_of_gt (blk_lt (g:=gb292) (o:=.cells #[.slice A0_0 l0_0.length c0_0,.slice A0_1 l0_1.length c0_1] 25 (0,0)) (by (with_reducible repeat (first|refine zbN ?_ _|refine zbD ?_|refine zbA ?_ _));exact BK292.out)):gb293≠gb292));clear BK292 HB;have BK292:=n0_;have HB:=n1_;have BK293:=n2_;have GW293:=n3_;have GE293:=n4_;have NB292_293:=n5_;have NB293_292:=n6_;clear n0_ n1_ n2_ n3_ n4_ n5_ n6_;clear hb hbox hg;have hnb12:=NB292_293.out;have hnc12:=NB293_292.out;have hcz13_0:w11.cell? ⟨gb292,0,none⟩=some (.slice A0_0 l0_0.length c0_0):=(blk_cell BK292.out 0).trans rfl;have hcz13_1:w11.cell? ⟨gb292,1,none⟩=some (.slice A0_1 l0_1.length c0_1):=(blk_cell BK292.out 1).trans rfl;have hfz13_0:=blk_frozen BK292.out 0;have hfz13_1:=blk_frozen BK292.out 1)|((with_reducible refine gate_callee (f:=42) rfl ?_);refine goesL_ (some 11) rfl rfl Try.func42 (by kernel_rfl) rfl #[.agg #[.slice A0_0 l0_0.length c0_0,.slice A0_1 l0_1.length c0_1],.int .i64 a1] rfl (by (try simp only [List.map_toArray,List.map_cons,List.map_nil]);first|done|rfl|(simp only [List.length_drop,List.length_take];rfl)) ?_;(with_reducible refine (pool_asks.calls k _ _ l0_0 _ _ l0_1 a1 t294 _ ?side1 ?side2 ?side3 ?side4 A3.out).mono ?_);(case side1=>repeat (first|exact (Kd.C_below HR0_0.out HB.out)|(with_reducible refine Kd.C_alloc ?_ _)|(with_reducible refine Kd.C_drewN ?_ _)|(with_reducible refine Kd.C_drew ?_)));(case side2=>exact HC0_0.out);(case side3=>repeat (first|exact (Kd.C_below HR0_1.out HB.out)|(with_reducible refine Kd.C_alloc ?_ _)|(with_reducible refine Kd.C_drewN ?_ _)|(with_reducible refine Kd.C_drew ?_)));(case side4=>exact HC0_1.out);rintro e w14 ⟨rfl,hb⟩;refine ⟨_,rfl,?_⟩;have n0_:=zm (zbB (g:=gb292) (o:=.cells #[.slice A0_0 l0_0.length c0_0,.slice A0_1 l0_1.length c0_1] 25 (0,0)) (by (with_reducible repeat (first|refine zbN ?_ _|refine zbD ?_|refine zbA ?_ _));exact BK292.out) hb);have n1_:=zm (zbB (g:=gb293) (o:=.cells #[.slice none 0 0,.slice none 0 0] 25 (0,0)) (by (with_reducible repeat (first|refine zbN ?_ _|refine zbD ?_|refine zbA ?_ _));exact BK293.out) hb);have n2_:=zm (below_step (by repeat (first|(with_reducible first|exact HB.out|apply zlA|apply zlN|apply zlD|refine zlS ?_ GE292.out|refine zlS ?_ GE293.out)|exact HB.out)) hb);clear BK292 BK293 HB;have BK292:=n0_;have BK293:=n1_;have HB:=n2_;clear n0_ n1_ n2_;(try clear hb);(try clear hb2);(try clear hk);(try clear hi);have hcz15_0:w14.cell? ⟨gb292,0,none⟩=some (.slice A0_0 l0_0.length c0_0):=(blk_cell BK292.out 0).trans rfl;have hcz15_1:w14.cell? ⟨gb292,1,none⟩=some (.slice A0_1 l0_1.length c0_1):=(blk_cell BK292.out 1).trans rfl;have hfz15_0:=blk_frozen BK292.out 0;have hfz15_1:=blk_frozen BK292.out 1;have p295:0≤(a1:Int):=of_decide_eq_true (by first|(with_reducible assumption)|assumption);have q295:a1 < (l0_0.length:Int):=of_decide_eq_true (by first|(with_reducible assumption)|assumption);obtain ⟨ad295,e295,hx295_0⟩:=Kd.at_int HR0_0.out a1 p295 q295;cases e295;replace hx295_0:=(HB.out.cell (World.block_lt_of_cell? w _ hx295_0)).trans hx295_0;replace p295:=eq_true p295;replace q295:=eq_true q295)|((with_reducible refine gate_callee (f:=37) rfl ?_);refine goesL_ (some 22) rfl rfl Try.func37 (by kernel_rfl) rfl #[.int .i64 (rd l0_0 a1)] rfl (by (try simp only [List.map_toArray,List.map_cons,List.map_nil]);first|done|rfl|(simp only [List.length_drop,List.length_take];rfl)) ?_;(with_reducible refine (pool_role.calls k (rd l0_0 a1) t296 true _ A7.out).mono ?_);rintro e w' ⟨rfl,⟨nd,rfl⟩⟩;refine ⟨_,rfl,?_⟩;(try (rw [drewN_self w14];generalize hq_:World.drewN w14 _=w14;have n0_:Aside0 (w14.heap[gb292]?=some (.cells #[.slice (some ad295) l0_0.length c0_0,.slice A0_1 l0_1.length c0_1] 25 (0,0))):=⟨by rw [← hq_];exact (by (with_reducible repeat (first|refine zbN ?_ _|refine zbD ?_|refine zbA ?_ _));exact BK292.out)⟩;have n1_:Aside0 (w14.heap[gb293]?=some (.cells #[.slice none 0 0,.slice none 0 0] 25 (0,0))):=⟨by rw [← hq_];exact (by (with_reducible repeat (first|refine zbN ?_ _|refine zbD ?_|refine zbA ?_ _));exact BK293.out)⟩;have n2_:Aside0 (Below w.heap.size w w14):=⟨by rw [← hq_];exact (by repeat (first|(with_reducible first|exact HB.out|apply zlA|apply zlN|apply zlD|refine zlS ?_ GE292.out|refine zlS ?_ GE293.out)|exact HB.out))⟩;clear BK292 BK293 HB hq_;have BK292:=n0_;have BK293:=n1_;have HB:=n2_;clear n0_ n1_ n2_;have hczq_292_0:w14.cell? ⟨gb292,0,none⟩=some (.slice (some ad295) l0_0.length c0_0):=(blk_cell BK292.out 0).trans rfl;have hczq_292_1:w14.cell? ⟨gb292,1,none⟩=some (.slice A0_1 l0_1.length c0_1):=(blk_cell BK292.out 1).trans rfl;have hczq_293_0:w14.cell? ⟨gb293,0,none⟩=some (.slice none 0 0):=(blk_cell BK293.out 0).trans rfl;have hczq_293_1:w14.cell? ⟨gb293,1,none⟩=some (.slice none 0 0):=(blk_cell BK293.out 1).trans rfl)))|((with_reducible refine gate_callee (f:=43) rfl ?_);refine goesL_ (some 30) rfl rfl Try.func43 (by kernel_rfl) rfl #[.agg #[.slice (some ad295) l0_0.length c0_0,.slice A0_1 l0_1.length c0_1],.int .i64 a1,.int .i64 1,.int .i64 1] rfl (by (try simp only [List.map_toArray,List.map_cons,List.map_nil]);first|done|rfl|(simp only [List.length_drop,List.length_take];rfl)) ?_;(with_reducible refine (pool_turned.calls _ _ l0_0 _ _ l0_1 a1 1 1 t298 t301 _ ?side1 ?side2 ?side3 ?side4 A9.out).mono ?_);(case side1=>repeat (first|exact (Kd.C_below HR0_0.out HB.out)|(with_reducible refine Kd.C_alloc ?_ _)|(with_reducible refine Kd.C_drewN ?_ _)|(with_reducible refine Kd.C_drew ?_)));(case side2=>exact HC0_0.out);(case side3=>repeat (first|exact (Kd.C_below HR0_1.out HB.out)|(with_reducible refine Kd.C_alloc ?_ _)|(with_reducible refine Kd.C_drewN ?_ _)|(with_reducible refine Kd.C_drew ?_)));(case side4=>exact HC0_1.out);rintro e w16 ⟨v299,v302,rfl,ho0,ho1,hb⟩;refine ⟨_,rfl,?_⟩;have n0_:=zm (Kd.R_lower ho0 (below_size (by repeat (first|(with_reducible first|exact HB.out|apply zlA|apply zlN|apply zlD|refine zlS ?_ GE292.out|refine zlS ?_ GE293.out)|exact HB.out))));have n1_:=zm (Kd.R_lower ho1 (below_size (by repeat (first|(with_reducible first|exact HB.out|apply zlA|apply zlN|apply zlD|refine zlS ?_ GE292.out|refine zlS ?_ GE293.out)|exact HB.out))));have n2_:=zm (zbB (g:=gb292) (o:=.cells #[.slice (some ad295) l0_0.length c0_0,.slice A0_1 l0_1.length c0_1] 25 (0,0)) (by (with_reducible repeat (first|refine zbN ?_ _|refine zbD ?_|refine zbA ?_ _));exact BK292.out) hb);have n3_:=zm (zbB (g:=gb293) (o:=.cells #[.slice none 0 0,.slice none 0 0] 25 (0,0)) (by (with_reducible repeat (first|refine zbN ?_ _|refine zbD ?_|refine zbA ?_ _));exact BK293.out) hb);have n4_:=zm (below_step (by repeat (first|(with_reducible first|exact HB.out|apply zlA|apply zlN|apply zlD|refine zlS ?_ GE292.out|refine zlS ?_ GE293.out)|exact HB.out)) hb);clear BK292 BK293 HB;have HO300:=n0_;have HO303:=n1_;have BK292:=n2_;have BK293:=n3_;have HB:=n4_;clear n0_ n1_ n2_ n3_ n4_;(try clear hb);(try clear hb2);(try clear hk);(try clear hi);(try clear ho0);(try clear ho1);obtain ⟨Ao17,co17,eo17⟩:=Kd.R_slice HO300.out;subst eo17;have hcz18_0:w16.cell? ⟨gb293,0,none⟩=some (.slice none 0 0):=(blk_cell BK293.out 0).trans rfl;have hcz18_1:w16.cell? ⟨gb293,1,none⟩=some (.slice none 0 0):=(blk_cell BK293.out 1).trans rfl;have hfz18_0:=blk_frozen BK293.out 0;have hfz18_1:=blk_frozen BK293.out 1;obtain ⟨Ao19,co19,eo19⟩:=Kd.R_slice HO303.out;subst eo19))
     refine bodyPost_ret (results_ct rfl _ _ gb293 25 #[.slice Ao17 t298.length co17,.slice Ao19 t301.length co19] (0,0) _ rfl (by (with_reducible repeat (first|refine zbN ?_ _|refine zbD ?_|refine zbA ?_ _));refine blk_put (cs:=#[.slice Ao17 t298.length co17,.slice none 0 0]) ?_ 1 _ rfl;(with_reducible repeat (first|refine zbN ?_ _|refine zbD ?_|refine zbA ?_ _));refine blk_put (cs:=#[.slice none 0 0,.slice none 0 0]) ?_ 0 _ rfl;(with_reducible repeat (first|refine zbN ?_ _|refine zbD ?_|refine zbA ?_ _));exact BK293.out) Try.underlying25 rfl (by kernel_rfl)) rfl ?_
     exact ⟨_,_,by first|rfl|(simp [errW_none,errW_some] <;> rfl)|(simp [*,errW_none,errW_some] <;> rfl),by (with_reducible repeat (first|apply zrA|apply zrN|apply zrD));exact Kd.R_mono (Kd.R_far (p:=⟨gb293,1,none⟩) (Kd.R_far (p:=⟨gb293,0,none⟩) (Kd.R_types HO300.out BK293.out (by decide)) (fun _ hk=>hk.2) (.slice Ao17 t298.length co17)) (fun _ hk=>hk.2) (.slice Ao19 t301.length co19)) (fun _ hk=>trivial),by (with_reducible repeat (first|apply zrA|apply zrN|apply zrD));exact Kd.R_mono (Kd.R_far (p:=⟨gb293,1,none⟩) (Kd.R_far (p:=⟨gb293,0,none⟩) (Kd.R_types HO303.out BK293.out (by decide)) (fun _ hk=>hk.2) (.slice Ao17 t298.length co17)) (fun _ hk=>hk.2) (.slice Ao19 t301.length co19)) (fun _ hk=>trivial),by repeat (first|(with_reducible first|exact HB.out|apply zlA|apply zlN|apply zlD|refine zlS ?_ GE292.out|refine zlS ?_ GE293.out)|exact HB.out)⟩
    ·replace c8:=Bool.eq_false_iff.mpr c8
     subst c8
     have H1:(some (([]:List Int),([]:List Int),41))=some (r1,r2,r3):=by rw [if_neg (show ¬ (false=true) by decide)] at H;exact H
     clear H
     have H:=H1
     clear H1
     simp only [Option.some.injEq,Prod.mk.injEq] at H
     obtain ⟨rfl,rfl,rfl⟩:=H
     go_enter Try.func20,Try.ntmps20
     go_wp2_with (first|((with_reducible refine gate_dst (N:=2) rfl ?_);refine box_event ?hg (N:=2) ?hd (cs:=#[.slice A0_0 l0_0.length c0_0,.slice A0_1 l0_1.length c0_1]) (t:=25) ?hr ?_;(case hd=>rfl);(case hg=>rfl);(case hr=>first|(go_simp;done)|(go_simp;rfl));intro gb292 hg w20 hbox hb;have n0_:=zm (below_step (by repeat (first|(with_reducible first|exact HB.out|apply zlA|apply zlN|apply zlD)|exact HB.out)) hb);have n1_:=zm (hbox);have n2_:=zm ((by rw [hg];exact (below_size (by repeat (first|(with_reducible first|exact HB.out|apply zlA|apply zlN|apply zlD)|exact HB.out))):w.heap.size≤gb292));have n3_:=zm ((by rw [hg];exact (below_size (by repeat (first|(with_reducible first|exact HB.out|apply zlA|apply zlN|apply zlD)|exact HB.out))):w.heap.size≤gb292));clear HB;have HB:=n0_;have BK292:=n1_;have GW292:=n2_;have GE292:=n3_;clear n0_ n1_ n2_ n3_;clear hb hbox hg)|((with_reducible refine gate_dst (N:=4) rfl ?_);refine box_event ?hg (N:=4) ?hd (cs:=#[.slice none 0 0,.slice none 0 0]) (t:=25) ?hr ?_;(case hd=>rfl);(case hg=>rfl);(case hr=>first|(go_simp;done)|(go_simp;rfl));intro gb293 hg w21 hbox hb;have n0_:=zm (zbB (g:=gb292) (o:=.cells #[.slice A0_0 l0_0.length c0_0,.slice A0_1 l0_1.length c0_1] 25 (0,0)) (by (with_reducible repeat (first|refine zbN ?_ _|refine zbD ?_|refine zbA ?_ _));exact BK292.out) hb);have n1_:=zm (below_step (by repeat (first|(with_reducible first|exact HB.out|apply zlA|apply zlN|apply zlD|refine zlS ?_ GE292.out)|exact HB.out)) hb);have n2_:=zm (hbox);have n3_:=zm ((by rw [hg];exact (below_size (by repeat (first|(with_reducible first|exact HB.out|apply zlA|apply zlN|apply zlD|refine zlS ?_ GE292.out)|exact HB.out))):w.heap.size≤gb293));have n4_:=zm ((by rw [hg];exact (below_size (by repeat (first|(with_reducible first|exact HB.out|apply zlA|apply zlN|apply zlD|refine zlS ?_ GE292.out)|exact HB.out))):w.heap.size≤gb293));have n5_:=zm ((by rw [hg];exact Nat.ne_of_lt (blk_lt (g:=gb292) (o:=.cells #[.slice A0_0 l0_0.length c0_0,.slice A0_1 l0_1.length c0_1] 25 (0,0)) (by (with_reducible repeat (first|refine zbN ?_ _|refine zbD ?_|refine zbA ?_ _));exact BK292.out)):gb292≠gb293));have n6_:=zm ((by rw [hg];exact Nat.ne_of_gt (blk_lt (g:=gb292) (o:=.cells #[.slice A0_0 l0_0.length c0_0,.slice A0_1 l0_1.length c0_1] 25 (0,0)) (by (with_reducible repeat (first|refine zbN ?_ _|refine zbD ?_|refine zbA ?_ _));exact BK292.out)):gb293≠gb292));clear BK292 HB;have BK292:=n0_;have HB:=n1_;have BK293:=n2_;have GW293:=n3_;have GE293:=n4_;have NB292_293:=n5_;have NB293_292:=n6_;clear n0_ n1_ n2_ n3_ n4_ n5_ n6_;clear hb hbox hg;have hnb22:=NB292_293.out;have hnc22:=NB293_292.out;have hcz23_0:w21.cell? ⟨gb292,0,none⟩=some (.slice A0_0 l0_0.length c0_0):=(blk_cell BK292.out 0).trans rfl;have hcz23_1:w21.cell? ⟨gb292,1,none⟩=some (.slice A0_1 l0_1.length c0_1):=(blk_cell BK292.out 1).trans rfl;have hfz23_0:=blk_frozen BK292.out 0;have hfz23_1:=blk_frozen BK292.out 1)|((with_reducible refine gate_callee (f:=42) rfl ?_);refine goesL_ (some 11) rfl rfl Try.func42 (by kernel_rfl) rfl #[.agg #[.slice A0_0 l0_0.length c0_0,.slice A0_1 l0_1.length c0_1],.int .i64 a1] rfl (by (try simp only [List.map_toArray,List.map_cons,List.map_nil]);first|done|rfl|(simp only [List.length_drop,List.length_take];rfl)) ?_;(with_reducible refine (pool_asks.calls k _ _ l0_0 _ _ l0_1 a1 t294 _ ?side1 ?side2 ?side3 ?side4 A3.out).mono ?_);(case side1=>repeat (first|exact (Kd.C_below HR0_0.out HB.out)|(with_reducible refine Kd.C_alloc ?_ _)|(with_reducible refine Kd.C_drewN ?_ _)|(with_reducible refine Kd.C_drew ?_)));(case side2=>exact HC0_0.out);(case side3=>repeat (first|exact (Kd.C_below HR0_1.out HB.out)|(with_reducible refine Kd.C_alloc ?_ _)|(with_reducible refine Kd.C_drewN ?_ _)|(with_reducible refine Kd.C_drew ?_)));(case side4=>exact HC0_1.out);rintro e w24 ⟨rfl,hb⟩;refine ⟨_,rfl,?_⟩;have n0_:=zm (zbB (g:=gb292) (o:=.cells #[.slice A0_0 l0_0.length c0_0,.slice A0_1 l0_1.length c0_1] 25 (0,0)) (by (with_reducible repeat (first|refine zbN ?_ _|refine zbD ?_|refine zbA ?_ _));exact BK292.out) hb);have n1_:=zm (zbB (g:=gb293) (o:=.cells #[.slice none 0 0,.slice none 0 0] 25 (0,0)) (by (with_reducible repeat (first|refine zbN ?_ _|refine zbD ?_|refine zbA ?_ _));exact BK293.out) hb);have n2_:=zm (below_step (by repeat (first|(with_reducible first|exact HB.out|apply zlA|apply zlN|apply zlD|refine zlS ?_ GE292.out|refine zlS ?_ GE293.out)|exact HB.out)) hb);clear BK292 BK293 HB;have BK292:=n0_;have BK293:=n1_;have HB:=n2_;clear n0_ n1_ n2_;(try clear hb);(try clear hb2);(try clear hk);(try clear hi);have hcz25_0:w24.cell? ⟨gb292,0,none⟩=some (.slice A0_0 l0_0.length c0_0):=(blk_cell BK292.out 0).trans rfl;have hcz25_1:w24.cell? ⟨gb292,1,none⟩=some (.slice A0_1 l0_1.length c0_1):=(blk_cell BK292.out 1).trans rfl;have hfz25_0:=blk_frozen BK292.out 0;have hfz25_1:=blk_frozen BK292.out 1;have p295:0≤(a1:Int):=of_decide_eq_true (by first|(with_reducible assumption)|assumption);have q295:a1 < (l0_0.length:Int):=of_decide_eq_true (by first|(with_reducible assumption)|assumption);obtain ⟨ad295,e295,hx295_0⟩:=Kd.at_int HR0_0.out a1 p295 q295;cases e295;replace hx295_0:=(HB.out.cell (World.block_lt_of_cell? w _ hx295_0)).trans hx295_0;replace p295:=eq_true p295;replace q295:=eq_true q295)|((with_reducible refine gate_callee (f:=37) rfl ?_);refine goesL_ (some 22) rfl rfl Try.func37 (by kernel_rfl) rfl #[.int .i64 (rd l0_0 a1)] rfl (by (try simp only [List.map_toArray,List.map_cons,List.map_nil]);first|done|rfl|(simp only [List.length_drop,List.length_take];rfl)) ?_;(with_reducible refine (pool_role.calls k (rd l0_0 a1) t296 false _ A7.out).mono ?_);rintro e w' ⟨rfl,⟨nd,rfl⟩⟩;refine ⟨_,rfl,?_⟩;(try (rw [drewN_self w24];generalize hq_:World.drewN w24 _=w24;have n0_:Aside0 (w24.heap[gb292]?=some (.cells #[.slice (some ad295) l0_0.length c0_0,.slice A0_1 l0_1.length c0_1] 25 (0,0))):=⟨by rw [← hq_];exact (by (with_reducible repeat (first|refine zbN ?_ _|refine zbD ?_|refine zbA ?_ _));exact BK292.out)⟩;have n1_:Aside0 (w24.heap[gb293]?=some (.cells #[.slice none 0 0,.slice none 0 0] 25 (0,0))):=⟨by rw [← hq_];exact (by (with_reducible repeat (first|refine zbN ?_ _|refine zbD ?_|refine zbA ?_ _));exact BK293.out)⟩;have n2_:Aside0 (Below w.heap.size w w24):=⟨by rw [← hq_];exact (by repeat (first|(with_reducible first|exact HB.out|apply zlA|apply zlN|apply zlD|refine zlS ?_ GE292.out|refine zlS ?_ GE293.out)|exact HB.out))⟩;clear BK292 BK293 HB hq_;have BK292:=n0_;have BK293:=n1_;have HB:=n2_;clear n0_ n1_ n2_));have hcz26_0:w24.cell? ⟨gb293,0,none⟩=some (.slice none 0 0):=(blk_cell BK293.out 0).trans rfl;have hcz26_1:w24.cell? ⟨gb293,1,none⟩=some (.slice none 0 0):=(blk_cell BK293.out 1).trans rfl;have hfz26_0:=blk_frozen BK293.out 0;have hfz26_1:=blk_frozen BK293.out 1))
     refine bodyPost_ret (results_ct rfl _ _ gb293 25 #[.slice none 0 0,.slice none 0 0] (0,0) _ rfl (by (with_reducible repeat (first|refine zbN ?_ _|refine zbD ?_|refine zbA ?_ _));refine blk_put (cs:=#[.slice none 0 0,.slice none 0 0]) ?_ 1 _ rfl;(with_reducible repeat (first|refine zbN ?_ _|refine zbD ?_|refine zbA ?_ _));refine blk_put (cs:=#[.slice none 0 0,.slice none 0 0]) ?_ 0 _ rfl;(with_reducible repeat (first|refine zbN ?_ _|refine zbD ?_|refine zbA ?_ _));exact BK293.out) Try.underlying25 rfl (by kernel_rfl)) rfl ?_
     exact ⟨_,_,by first|rfl|(simp [errW_none,errW_some] <;> rfl)|(simp [*,errW_none,errW_some] <;> rfl),by first|exact Kd.R_nil _ _ _ _ _|exact Kd.N_nil _ _ _ _ _|exact Kd.V_nil _ _ _ _ _|exact Kd.Q_nil _ _ _ _ _|exact Kd.S_nil _ _ _ _ _,by first|exact Kd.R_nil _ _ _ _ _|exact Kd.N_nil _ _ _ _ _|exact Kd.V_nil _ _ _ _ _|exact Kd.Q_nil _ _ _ _ _|exact Kd.S_nil _ _ _ _ _,by repeat (first|(with_reducible first|exact HB.out|apply zlA|apply zlN|apply zlD|refine zlS ?_ GE292.out|refine zlS ?_ GE293.out)|exact HB.out)⟩
   ·rw [if_neg c6] at H
    exact absurd H (by simp)
  ·rw [if_neg c5] at H
   exact absurd H (by simp)
 ·rw [if_neg c4] at H
  have c4b0:(t294 == 0)=false:=beq_eq_false_iff_ne.mpr c4
  have c4b1:(t294 != 0)=true:=bne_iff_ne.mpr c4
  simp only [Option.some.injEq,Prod.mk.injEq] at H
  obtain ⟨rfl,rfl,rfl⟩:=H
  go_enter Try.func20,Try.ntmps20
  go_wp2_with (first|((with_reducible refine gate_dst (N:=2) rfl ?_);refine box_event ?hg (N:=2) ?hd (cs:=#[.slice A0_0 l0_0.length c0_0,.slice A0_1 l0_1.length c0_1]) (t:=25) ?hr ?_;(case hd=>rfl);(case hg=>rfl);(case hr=>first|(go_simp;done)|(go_simp;rfl));intro gb292 hg w27 hbox hb;have n0_:=zm (below_step (by repeat (first|(with_reducible first|exact HB.out|apply zlA|apply zlN|apply zlD)|exact HB.out)) hb);have n1_:=zm (hbox);have n2_:=zm ((by rw [hg];exact (below_size (by repeat (first|(with_reducible first|exact HB.out|apply zlA|apply zlN|apply zlD)|exact HB.out))):w.heap.size≤gb292));have n3_:=zm ((by rw [hg];exact (below_size (by repeat (first|(with_reducible first|exact HB.out|apply zlA|apply zlN|apply zlD)|exact HB.out))):w.heap.size≤gb292));clear HB;have HB:=n0_;have BK292:=n1_;have GW292:=n2_;have GE292:=n3_;clear n0_ n1_ n2_ n3_;clear hb hbox hg)|((with_reducible refine gate_dst (N:=4) rfl ?_);refine box_event ?hg (N:=4) ?hd (cs:=#[.slice none 0 0,.slice none 0 0]) (t:=25) ?hr ?_;(case hd=>rfl);(case hg=>rfl);(case hr=>first|(go_simp;done)|(go_simp;rfl));intro gb293 hg w28 hbox hb;have n0_:=zm (zbB (g:=gb292) (o:=.cells #[.slice A0_0 l0_0.length c0_0,.slice A0_1 l0_1.length c0_1] 25 (0,0)) (by (with_reducible repeat (first|refine zbN ?_ _|refine zbD ?_|refine zbA ?_ _));exact BK292.out) hb);have n1_:=zm (below_step (by repeat (first|(with_reducible first|exact HB.out|apply zlA|apply zlN|apply zlD|refine zlS ?_ GE292.out)|exact HB.out)) hb);have n2_:=zm (hbox);have n3_:=zm ((by rw [hg];exact (below_size (by repeat (first|(with_reducible first|exact HB.out|apply zlA|apply zlN|apply zlD|refine zlS ?_ GE292.out)|exact HB.out))):w.heap.size≤gb293));have n4_:=zm ((by rw [hg];exact (below_size (by repeat (first|(with_reducible first|exact HB.out|apply zlA|apply zlN|apply zlD|refine zlS ?_ GE292.out)|exact HB.out))):w.heap.size≤gb293));have n5_:=zm ((by rw [hg];exact Nat.ne_of_lt (blk_lt (g:=gb292) (o:=.cells #[.slice A0_0 l0_0.length c0_0,.slice A0_1 l0_1.length c0_1] 25 (0,0)) (by (with_reducible repeat (first|refine zbN ?_ _|refine zbD ?_|refine zbA ?_ _));exact BK292.out)):gb292≠gb293));have n6_:=zm ((by rw [hg];exact Nat.ne_of_gt (blk_lt (g:=gb292) (o:=.cells #[.slice A0_0 l0_0.length c0_0,.slice A0_1 l0_1.length c0_1] 25 (0,0)) (by (with_reducible repeat (first|refine zbN ?_ _|refine zbD ?_|refine zbA ?_ _));exact BK292.out)):gb293≠gb292));clear BK292 HB;have BK292:=n0_;have HB:=n1_;have BK293:=n2_;have GW293:=n3_;have GE293:=n4_;have NB292_293:=n5_;have NB293_292:=n6_;clear n0_ n1_ n2_ n3_ n4_ n5_ n6_;clear hb hbox hg;have hnb29:=NB292_293.out;have hnc29:=NB293_292.out;have hcz30_0:w28.cell? ⟨gb292,0,none⟩=some (.slice A0_0 l0_0.length c0_0):=(blk_cell BK292.out 0).trans rfl;have hcz30_1:w28.cell? ⟨gb292,1,none⟩=some (.slice A0_1 l0_1.length c0_1):=(blk_cell BK292.out 1).trans rfl;have hfz30_0:=blk_frozen BK292.out 0;have hfz30_1:=blk_frozen BK292.out 1)|((with_reducible refine gate_callee (f:=42) rfl ?_);refine goesL_ (some 11) rfl rfl Try.func42 (by kernel_rfl) rfl #[.agg #[.slice A0_0 l0_0.length c0_0,.slice A0_1 l0_1.length c0_1],.int .i64 a1] rfl (by (try simp only [List.map_toArray,List.map_cons,List.map_nil]);first|done|rfl|(simp only [List.length_drop,List.length_take];rfl)) ?_;(with_reducible refine (pool_asks.calls k _ _ l0_0 _ _ l0_1 a1 t294 _ ?side1 ?side2 ?side3 ?side4 A3.out).mono ?_);(case side1=>repeat (first|exact (Kd.C_below HR0_0.out HB.out)|(with_reducible refine Kd.C_alloc ?_ _)|(with_reducible refine Kd.C_drewN ?_ _)|(with_reducible refine Kd.C_drew ?_)));(case side2=>exact HC0_0.out);(case side3=>repeat (first|exact (Kd.C_below HR0_1.out HB.out)|(with_reducible refine Kd.C_alloc ?_ _)|(with_reducible refine Kd.C_drewN ?_ _)|(with_reducible refine Kd.C_drew ?_)));(case side4=>exact HC0_1.out);rintro e w31 ⟨rfl,hb⟩;refine ⟨_,rfl,?_⟩;have n0_:=zm (zbB (g:=gb292) (o:=.cells #[.slice A0_0 l0_0.length c0_0,.slice A0_1 l0_1.length c0_1] 25 (0,0)) (by (with_reducible repeat (first|refine zbN ?_ _|refine zbD ?_|refine zbA ?_ _));exact BK292.out) hb);have n1_:=zm (zbB (g:=gb293) (o:=.cells #[.slice none 0 0,.slice none 0 0] 25 (0,0)) (by (with_reducible repeat (first|refine zbN ?_ _|refine zbD ?_|refine zbA ?_ _));exact BK293.out) hb);have n2_:=zm (below_step (by repeat (first|(with_reducible first|exact HB.out|apply zlA|apply zlN|apply zlD|refine zlS ?_ GE292.out|refine zlS ?_ GE293.out)|exact HB.out)) hb);clear BK292 BK293 HB;have BK292:=n0_;have BK293:=n1_;have HB:=n2_;clear n0_ n1_ n2_;(try clear hb);(try clear hb2);(try clear hk);(try clear hi);have hcz32_0:w31.cell? ⟨gb293,0,none⟩=some (.slice none 0 0):=(blk_cell BK293.out 0).trans rfl;have hcz32_1:w31.cell? ⟨gb293,1,none⟩=some (.slice none 0 0):=(blk_cell BK293.out 1).trans rfl;have hfz32_0:=blk_frozen BK293.out 0;have hfz32_1:=blk_frozen BK293.out 1))
  refine bodyPost_ret (results_ct rfl _ _ gb293 25 #[.slice none 0 0,.slice none 0 0] (0,0) _ rfl (by (with_reducible repeat (first|refine zbN ?_ _|refine zbD ?_|refine zbA ?_ _));refine blk_put (cs:=#[.slice none 0 0,.slice none 0 0]) ?_ 1 _ rfl;(with_reducible repeat (first|refine zbN ?_ _|refine zbD ?_|refine zbA ?_ _));refine blk_put (cs:=#[.slice none 0 0,.slice none 0 0]) ?_ 0 _ rfl;(with_reducible repeat (first|refine zbN ?_ _|refine zbD ?_|refine zbA ?_ _));exact BK293.out) Try.underlying25 rfl (by kernel_rfl)) rfl ?_
  exact ⟨_,_,by first|rfl|(simp [errW_none,errW_some] <;> rfl)|(simp [*,errW_none,errW_some] <;> rfl),by first|exact Kd.R_nil _ _ _ _ _|exact Kd.N_nil _ _ _ _ _|exact Kd.V_nil _ _ _ _ _|exact Kd.Q_nil _ _ _ _ _|exact Kd.S_nil _ _ _ _ _,by first|exact Kd.R_nil _ _ _ _ _|exact Kd.N_nil _ _ _ _ _|exact Kd.V_nil _ _ _ _ _|exact Kd.Q_nil _ _ _ _ _|exact Kd.S_nil _ _ _ _ _,by repeat (first|(with_reducible first|exact HB.out|apply zlA|apply zlN|apply zlD|refine zlS ?_ GE292.out|refine zlS ?_ GE293.out)|exact HB.out)⟩
-- NOT PRINTED: function 46 (slices_Values_int_int)
-- NOT PRINTED: function 29 (pool_All)
end Go.Proofs.Ytlegmnpngcadhaa.Print
end
section
namespace Go.Proofs.Ytlegmnpngcadhaa.Print
open Go.RowKit Go.Proofs.YtlegmnpngcadhaaW.PrintWords Go.Proofs.YtlegmnpngcadhaaW.PrintLast Go.Proofs.YtlegmnpngcadhaaW.PrintMore
attribute [local go_sem] max2_int min2_int max_two min_two max_three min_three max_four min_four   -- for this text's walks alone
attribute [local go_sem ↓] Go.Proofs.Ytlegmnpngcadhaa.Sem.isSome_setCell
attribute [local go_sem] Go.Instr.field Go.asAgg
set_option linter.unusedVariables false
set_option linter.unusedSimpArgs false
def slipwayref04_Clone.f (l0_0:List Int) (l0_1:List Int):Option (List Int × List Int):=if ([]:List Int).length + l0_0.length < 17592186044416 then (if ([]:List Int).length + l0_1.length < 17592186044416 then (some ((([]:List Int) ++ l0_0),(([]:List Int) ++ l0_1))) else (none)) else (none)
def slipwayref04_Clone.T1:Bool × List (List Nat × List Nat):=(true,[([],[]),([0],[0]),([1],[1]),([],[]),([3],[3]),([4,2],[4]),([2,5],[2,5]),([6,5,0,1,2,3,4,5,6],[6])])
def slipwayref04_Clone.B1:List Nat:=[0,1,3,0,8,31,63,127]
theorem slipwayref04_Clone.tab1:rtab .any (opsOf Try.f30 1)=slipwayref04_Clone.T1:=by kernel_rfl
theorem slipwayref04_Clone.bits1:waitsOk slipwayref04_Clone.T1.2 slipwayref04_Clone.B1=true:=by kernel_rfl
set_option maxHeartbeats 8000000 in
set_option maxRecDepth 100000 in
theorem slipwayref04_Clone.calls (A0_0:Option Addr) (c0_0:Nat) (l0_0:List Int) (A0_1:Option Addr) (c0_1:Nat) (l0_1:List Int) (r1:List Int) (r2:List Int) (w:World) (hr0_0:Kd.C (Kd.int .i64) w A0_0 l0_0.length l0_0) (hc0_0:l0_0.length≤c0_0) (hr0_1:Kd.C (Kd.int .i64) w A0_1 l0_1.length l0_1) (hc0_1:l0_1.length≤c0_1) (h:slipwayref04_Clone.f l0_0 l0_1=some (r1,r2)) :
  Calls Try.prog 30 #[.agg #[.slice A0_0 l0_0.length c0_0,.slice A0_1 l0_1.length c0_1]] w fun e w'=>∃ v0_ v1_:Value,e=.returned (.agg #[v0_,v1_])∧Kd.R (Kd.int .i64) 3 w' w.heap.size (fun _=>True) v0_ r1∧Kd.R (Kd.int .i64) 2 w' w.heap.size (fun _=>True) v1_ r2∧Below w.heap.size w w':=by
 have hu25:=Try.underlying25
 have HR0_0:=zm hr0_0
 have HC0_0:=zm hc0_0
 clear hr0_0 hc0_0
 have HR0_1:=zm hr0_1
 have HC0_1:=zm hc0_1
 clear hr0_1 hc0_1
 have HB:=zm (Below.refl w.heap.size w)
 have H:(if ([]:List Int).length + l0_0.length < 17592186044416 then (if ([]:List Int).length + l0_1.length < 17592186044416 then (some ((([]:List Int) ++ l0_0),(([]:List Int) ++ l0_1))) else (none)) else (none))=some (r1,r2):=h
 clear h
 by_cases c2:([]:List Int).length + l0_0.length < 17592186044416
 ·rw [if_pos c2] at H
  have LMc2:=zm c2
  clear c2
  obtain ⟨y427,hy427⟩:∃ y_:List Int,y_=(([]:List Int) ++ l0_0):=⟨_,rfl⟩
  replace H:(if ([]:List Int).length + l0_1.length < 17592186044416 then (some (y427,(([]:List Int) ++ l0_1))) else (none))=some (r1,r2):=by first|(rw [hy427];with_reducible exact H)|(have H2_:=(Option.bind_some _ _).symm.trans H;rw [hy427];with_reducible exact H2_)|(have H2_:=(Option.bind_some _ _).symm.trans H;with_reducible exact H2_)|with_reducible exact H|(rw [hy427];exact H)|exact H
  have Ny427:=zm hy427
  clear hy427
  by_cases c3:([]:List Int).length + l0_1.length < 17592186044416
  ·rw [if_pos c3] at H
   have LMc3:=zm c3
   clear c3
   obtain ⟨y430,hy430⟩:∃ y_:List Int,y_=(([]:List Int) ++ l0_1):=⟨_,rfl⟩
   replace H:(some (y427,y430))=some (r1,r2):=by first|(rw [hy430];with_reducible exact H)|(have H2_:=(Option.bind_some _ _).symm.trans H;rw [hy430];with_reducible exact H2_)|(have H2_:=(Option.bind_some _ _).symm.trans H;with_reducible exact H2_)|with_reducible exact H|(rw [hy430];exact H)|exact H
   have Ny430:=zm hy430
   clear hy430
   simp only [Option.some.injEq,Prod.mk.injEq] at H
   obtain ⟨rfl,rfl⟩:=H
   go_enter Try.func30,Try.ntmps30
   try go_wp2_with (first|((with_reducible refine gate_dst (N:=1) rfl ?_);refine box_event ?hg (N:=1) ?hd (cs:=#[.slice A0_0 l0_0.length c0_0,.slice A0_1 l0_1.length c0_1]) (t:=25) ?hr ?_;(case hd=>rfl);(case hg=>rfl);(case hr=>first|(go_simp;done)|(go_simp;rfl));intro gb425 hg w4 hbox hb;have n0_:=zm (below_step (by repeat (first|(with_reducible first|exact HB.out|apply zlA|apply zlN|apply zlD)|exact HB.out)) hb);have n1_:=zm (hbox);have n2_:=zm ((by rw [hg];exact (below_size (by repeat (first|(with_reducible first|exact HB.out|apply zlA|apply zlN|apply zlD)|exact HB.out))):w.heap.size≤gb425));have n3_:=zm ((by rw [hg];exact (below_size (by repeat (first|(with_reducible first|exact HB.out|apply zlA|apply zlN|apply zlD)|exact HB.out))):w.heap.size≤gb425));clear HB;have HB:=n0_;have BK425:=n1_;have GW425:=n2_;have GE425:=n3_;clear n0_ n1_ n2_ n3_;clear hb hbox hg)|((with_reducible refine gate_dst (N:=2) rfl ?_);refine box_event ?hg (N:=2) ?hd (cs:=#[.slice none 0 0,.slice none 0 0]) (t:=25) ?hr ?_;(case hd=>rfl);(case hg=>rfl);(case hr=>first|(go_simp;done)|(go_simp;rfl));intro gb426 hg w5 hbox hb;have n0_:=zm (zbB (g:=gb425) (o:=.cells #[.slice A0_0 l0_0.length c0_0,.slice A0_1 l0_1.length c0_1] 25 (0,0)) (by (with_reducible repeat (first|refine zbN ?_ _|refine zbD ?_|refine zbA ?_ _));exact BK425.out) hb);have n1_:=zm (below_step (by repeat (first|(with_reducible first|exact HB.out|apply zlA|apply zlN|apply zlD|refine zlS ?_ GE425.out)|exact HB.out)) hb);have n2_:=zm (hbox);have n3_:=zm ((by rw [hg];exact (below_size (by repeat (first|(with_reducible first|exact HB.out|apply zlA|apply zlN|apply zlD|refine zlS ?_ GE425.out)|exact HB.out))):w.heap.size≤gb426));have n4_:=zm ((by rw [hg];exact (below_size (by repeat (first|(with_reducible first|exact HB.out|apply zlA|apply zlN|apply zlD|refine zlS ?_ GE425.out)|exact HB.out))):w.heap.size≤gb426));have n5_:=zm ((by rw [hg];exact Nat.ne_of_lt (blk_lt (g:=gb425) (o:=.cells #[.slice A0_0 l0_0.length c0_0,.slice A0_1 l0_1.length c0_1] 25 (0,0)) (by (with_reducible repeat (first|refine zbN ?_ _|refine zbD ?_|refine zbA ?_ _));exact BK425.out)):gb425≠gb426));have n6_:=zm ((by rw [hg];exact Nat.ne_of_gt (blk_lt (g:=gb425) (o:=.cells #[.slice A0_0 l0_0.length c0_0,.slice A0_1 l0_1.length c0_1] 25 (0,0)) (by (with_reducible repeat (first|refine zbN ?_ _|refine zbD ?_|refine zbA ?_ _));exact BK425.out)):gb426≠gb425));clear BK425 HB;have BK425:=n0_;have HB:=n1_;have BK426:=n2_;have GW426:=n3_;have GE426:=n4_;have NB425_426:=n5_;have NB426_425:=n6_;clear n0_ n1_ n2_ n3_ n4_ n5_ n6_;clear hb hbox hg))
   have n0_:=zm (zbD BK425.out)
   have n1_:=zm (zbD BK426.out)
   have n2_:=zm (zlD HB.out)
   clear BK425 BK426 HB
   have BK425:=n0_
   have BK426:=n1_
   have HB:=n2_
   clear n0_ n1_ n2_
   refine start_ (n:=8) (S:=fun w'=>w'.cell? ⟨gb425,0,none⟩=some (.slice A0_0 l0_0.length c0_0)∧w'.cell? ⟨gb425,1,none⟩=some (.slice A0_1 l0_1.length c0_1)) (ds:=[]) #[false,false,false,false,false,false,false,false] (by kernel_rfl) rfl rfl ⟨(blk_cell BK425.out 0).trans rfl,(blk_cell BK425.out 1).trans rfl⟩ (fun hHeld=>?_);refine with_tabW slipwayref04_Clone.tab1 slipwayref04_Clone.bits1 (fun HT_ HW_=>?_)
   generalize w5.drew=w6 at BK425 BK426 HB hHeld ⊢
   refine pure_ (i:=0) (N:=some 3) (v:=?_) (a':=?_) #[true,false,false,false,false,false,false,false] rfl rfl (any_of HT_.out (by kernel_rfl)) (fun _ _ _ h=>h) (Or.inl ⟨by rfl,?_⟩) ?_ ?_
   rotate_left
   ·intro w'
    go_simp
    with_reducible rfl
   rotate_left
   ·simp only [Act.put,List.setIfInBounds_toArray,List.set_cons_zero,List.set_cons_succ,i64_w,i32_w]
    rfl
   refine pure_ (i:=3) (N:=some 6) (v:=?_) (a':=?_) #[true,false,false,true,false,false,false,false] rfl rfl (any_of HT_.out (by kernel_rfl)) (fun _ _ _ h=>h) (Or.inl ⟨by rfl,?_⟩) ?_ ?_
   rotate_left
   ·intro w'
    go_simp
    with_reducible rfl
   rotate_left
   ·simp only [Act.put,List.setIfInBounds_toArray,List.set_cons_zero,List.set_cons_succ,i64_w,i32_w]
    rfl
   refine take_ (i:=1) (N:=some 4) (v:=?_) (a':=?_) #[true,true,false,true,false,false,false,false] rfl rfl (take_ofW HT_.out HW_.out (by kernel_rfl)) (fun _ _ _ h=>h) (Or.inl ⟨by rfl,?_⟩) hHeld ?_ ?_
   rotate_left
   ·rintro w' ⟨s0,s1⟩
    go_simp
    with_reducible rfl
   rotate_left
   ·simp only [Act.put,List.setIfInBounds_toArray,List.set_cons_zero,List.set_cons_succ,i64_w,i32_w]
    rfl
   refine take_ (i:=4) (N:=some 7) (v:=?_) (a':=?_) #[true,true,false,true,true,false,false,false] rfl rfl (take_ofW HT_.out HW_.out (by kernel_rfl)) (fun _ _ _ h=>h) (Or.inl ⟨by rfl,?_⟩) hHeld ?_ ?_
   rotate_left
   ·rintro w' ⟨s0,s1⟩
    go_simp
    with_reducible rfl
   rotate_left
   ·simp only [Act.put,List.setIfInBounds_toArray,List.set_cons_zero,List.set_cons_succ,i64_w,i32_w]
    rfl
   refine one_ (i:=2) (N:=some 5) #[true,true,true,true,true,false,false,false] rfl rfl (one_of HT_.out (by kernel_rfl)) (by decide) (fun K hK=>?_)
   refine Kd.R_append_rows_step (Kd.int .i64) (w0:=w) w.heap.size (by rfl) (.const (.slice none 0 0)) (.tmp 4) 22 3 (.int .i64 0) 8 rfl Try.underlying22 info3 rfl (by decide) (by omega) (.slice none 0 0) ([]:List Int) l0_0 _ _ _ (fun _=>True) (fun _=>False) rfl rfl ?aO ?aR (fun _ _ h=>h) (fun _ h=>h.elim) ?aF ?aB ?aS ?aL ?_
   (case aR=>repeat (first|exact (Kd.C_below HR0_0.out HB.out)|(with_reducible refine Kd.C_alloc ?_ _)|(with_reducible refine Kd.C_drewN ?_ _)|(with_reducible refine Kd.C_drew ?_)))
   (case aB=>exact (by repeat (first|(with_reducible first|exact HB.out|apply zlA|apply zlN|apply zlD|refine zlS ?_ GE425.out|refine zlS ?_ GE426.out)|exact HB.out)))
   (case aF=>exact (fun _ _=>trivial))
   (case aO=>exact ((Kd.R_nil _ _ _ _ (fun _=>True))))
   (case aS=>exact (below_size (by repeat (first|(with_reducible first|exact HB.out|apply zlA|apply zlN|apply zlD|refine zlS ?_ GE425.out|refine zlS ?_ GE426.out)|exact HB.out))))
   (case aL=>have:=LMc2.out;omega)
   intro v428 w7 ho hb hg hat
   rw [← Ny427.out] at ho
   have n0_:=zm (blk_grown (g:=gb425) (o:=.cells #[.slice A0_0 l0_0.length c0_0,.slice A0_1 l0_1.length c0_1] 25 (0,0)) (by (with_reducible repeat (first|refine zbN ?_ _|refine zbD ?_|refine zbA ?_ _));exact BK425.out) hg (by simp [Value.ownBlock]))
   have n1_:=zm (blk_grown (g:=gb426) (o:=.cells #[.slice none 0 0,.slice none 0 0] 25 (0,0)) (by (with_reducible repeat (first|refine zbN ?_ _|refine zbD ?_|refine zbA ?_ _));exact BK426.out) hg (by simp [Value.ownBlock]))
   have n2_:=zm (hb)
   have n3_:=zm (ho)
   clear BK425 BK426 HB
   have BK425:=n0_
   have BK426:=n1_
   have HB:=n2_
   have HO429:=n3_
   clear n0_ n1_ n2_ n3_ ho hb hg hat
   refine hK.out _ _ ⟨(blk_cell BK425.out 0).trans rfl,(blk_cell BK425.out 1).trans rfl⟩ (fun hHeld=>?_)
   clear hK K
   refine norm_ (a':=?_) ?_ ?_
   rotate_left
   ·show Act.put _ (some 5) _=_
    simp only [Act.put,List.setIfInBounds_toArray,List.set_cons_zero,List.set_cons_succ,i64_w,i32_w]
    rfl
   refine one_ (i:=5) (N:=some 8) #[true,true,true,true,true,true,false,false] rfl rfl (one_of HT_.out (by kernel_rfl)) (by decide) (fun K hK=>?_)
   refine Kd.R_append_rows_step (Kd.int .i64) (w0:=w) w.heap.size (by rfl) (.const (.slice none 0 0)) (.tmp 7) 23 2 (.int .i64 0) 8 rfl Try.underlying23 info2 rfl (by decide) (by omega) (.slice none 0 0) ([]:List Int) l0_1 _ _ _ (fun _=>True) (fun _=>False) rfl rfl ?aO ?aR (fun _ _ h=>h) (fun _ h=>h.elim) ?aF ?aB ?aS ?aL ?_
   (case aR=>repeat (first|exact (Kd.C_below HR0_1.out HB.out)|(with_reducible refine Kd.C_alloc ?_ _)|(with_reducible refine Kd.C_drewN ?_ _)|(with_reducible refine Kd.C_drew ?_)))
   (case aB=>exact (by repeat (first|(with_reducible first|exact HB.out|apply zlA|apply zlN|apply zlD|refine zlS ?_ GE425.out|refine zlS ?_ GE426.out)|exact HB.out)))
   (case aF=>exact (fun _ _=>trivial))
   (case aO=>exact ((Kd.R_nil _ _ _ _ (fun _=>True))))
   (case aS=>exact (below_size (by repeat (first|(with_reducible first|exact HB.out|apply zlA|apply zlN|apply zlD|refine zlS ?_ GE425.out|refine zlS ?_ GE426.out)|exact HB.out))))
   (case aL=>have:=LMc3.out;omega)
   intro v431 w8 ho hb hg hat
   rw [← Ny430.out] at ho
   have n0_:=zm (blk_grown (g:=gb425) (o:=.cells #[.slice A0_0 l0_0.length c0_0,.slice A0_1 l0_1.length c0_1] 25 (0,0)) (by (with_reducible repeat (first|refine zbN ?_ _|refine zbD ?_|refine zbA ?_ _));exact BK425.out) hg (by simp [Value.ownBlock]))
   have n1_:=zm (blk_grown (g:=gb426) (o:=.cells #[.slice none 0 0,.slice none 0 0] 25 (0,0)) (by (with_reducible repeat (first|refine zbN ?_ _|refine zbD ?_|refine zbA ?_ _));exact BK426.out) hg (by simp [Value.ownBlock]))
   have n2_:=zm (Kd.R_grown (by (with_reducible repeat (first|apply zrA|apply zrN|apply zrD));exact HO429.out) hg (fun _ _=>by simp [Value.ownBlock]))
   have n3_:=zm (hb)
   have n4_:=zm (ho)
   clear BK425 BK426 HO429 HB
   have BK425:=n0_
   have BK426:=n1_
   have HO429:=n2_
   have HB:=n3_
   have HO432:=n4_
   clear n0_ n1_ n2_ n3_ n4_ ho hb hg hat
   obtain ⟨Ao9,co9,eo9⟩:=Kd.R_slice HO432.out
   (first|subst eo9|(injection eo9 with f1_ f2_ f3_;have f4_:=f1_.symm;have f5_:=f3_.symm;clear f1_ f2_ f3_;subst f4_;subst f5_))
   obtain ⟨Ao10,co10,eo10⟩:=Kd.R_slice HO429.out
   (first|subst eo10|(injection eo10 with f1_ f2_ f3_;have f4_:=f1_.symm;have f5_:=f3_.symm;clear f1_ f2_ f3_;subst f4_;subst f5_))
   refine hK.out _ _ ⟨(blk_cell BK425.out 0).trans rfl,(blk_cell BK425.out 1).trans rfl⟩ (fun hHeld=>?_)
   clear hK K
   refine norm_ (a':=?_) ?_ ?_
   rotate_left
   ·show Act.put _ (some 8) _=_
    simp only [Act.put,List.setIfInBounds_toArray,List.set_cons_zero,List.set_cons_succ,i64_w,i32_w]
    rfl
   refine pure_ (i:=6) (N:=some 9) (v:=?_) (a':=?_) #[true,true,true,true,true,true,true,false] rfl rfl (any_of HT_.out (by kernel_rfl)) (fun _ _ _ h=>h) (Or.inl ⟨by rfl,?_⟩) ?_ ?_
   rotate_left
   ·intro w'
    go_simp
    with_reducible rfl
   rotate_left
   ·simp only [Act.put,List.setIfInBounds_toArray,List.set_cons_zero,List.set_cons_succ,i64_w,i32_w]
    rfl
   refine one_ (i:=7) (N:=none) #[true,true,true,true,true,true,true,true] rfl rfl (one_of HT_.out (by kernel_rfl)) (by decide) (fun K hK=>?_)
   have hs11:w8.cell? ⟨gb426,0,none⟩=some (.slice none 0 0):=(blk_cell BK426.out 0).trans rfl
   have hfs11:=blk_frozen BK426.out 0
   have hns11_0:=NB425_426.out
   have hms11_0:=NB426_425.out
   have hs12:w8.cell? ⟨gb426,1,none⟩=some (.slice none 0 0):=(blk_cell BK426.out 1).trans rfl
   have hfs12:=blk_frozen BK426.out 1
   have hns12_0:=NB425_426.out
   have hms12_0:=NB426_425.out
   refine skip_ (w1:=?_) (by rfl) rfl ?_ ?_
   rotate_left
   ·go_simp
    rfl
   refine hK.out _ _ ⟨?_,?_⟩ ?_
   ·exact ((Go.Proofs.Ytlegmnpngcadhaa.Sem.far2 (g:=gb426) NB425_426.out).trans (hHeld.1))
   ·exact ((Go.Proofs.Ytlegmnpngcadhaa.Sem.far2 (g:=gb426) NB425_426.out).trans (hHeld.2))
   intro hHeld
   clear hK K
   refine done_ (done_of HT_.out (by kernel_rfl)) ?_
   try go_wp2
   refine bodyPost_ret (results_cell_row rfl _ _ gb426 25 #[.slice Ao10 y427.length co10,.slice Ao9 y430.length co9] (0,0) _ rfl (by (with_reducible repeat (first|refine zbN ?_ _|refine zbD ?_|refine zbA ?_ _));refine blk_put (cs:=#[.slice Ao10 y427.length co10,.slice none 0 0]) ?_ 1 _ rfl;(with_reducible repeat (first|refine zbN ?_ _|refine zbD ?_|refine zbA ?_ _));refine blk_put (cs:=#[.slice none 0 0,.slice none 0 0]) ?_ 0 _ rfl;(with_reducible repeat (first|refine zbN ?_ _|refine zbD ?_|refine zbA ?_ _));exact BK426.out) Try.underlying25 rfl (by kernel_rfl)) rfl ?_
   exact ⟨_,_,by first|rfl|(simp [errW_none,errW_some] <;> rfl)|(simp [*,errW_none,errW_some] <;> rfl),by (with_reducible repeat (first|apply zrA|apply zrN|apply zrD));exact Kd.R_mono (Kd.R_far (p:=⟨gb426,1,none⟩) (Kd.R_far (p:=⟨gb426,0,none⟩) (Kd.R_types HO429.out BK426.out (by decide)) (fun _ hk=>hk.2) (.slice Ao10 y427.length co10)) (fun _ hk=>hk.2) (.slice Ao9 y430.length co9)) (fun _ hk=>trivial),by (with_reducible repeat (first|apply zrA|apply zrN|apply zrD));exact Kd.R_mono (Kd.R_far (p:=⟨gb426,1,none⟩) (Kd.R_far (p:=⟨gb426,0,none⟩) (Kd.R_types HO432.out BK426.out (by decide)) (fun _ hk=>hk.2) (.slice Ao10 y427.length co10)) (fun _ hk=>hk.2) (.slice Ao9 y430.length co9)) (fun _ hk=>trivial),by repeat (first|(with_reducible first|exact HB.out|apply zlA|apply zlN|apply zlD|refine zlS ?_ GE425.out|refine zlS ?_ GE426.out)|exact HB.out)⟩
  ·rw [if_neg c3] at H
   exact absurd H (by simp)
 ·rw [if_neg c2] at H
  exact absurd H (by simp)
end Go.Proofs.Ytlegmnpngcadhaa.Print
end
