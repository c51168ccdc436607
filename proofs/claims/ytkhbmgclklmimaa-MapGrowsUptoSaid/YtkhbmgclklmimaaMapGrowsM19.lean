/- Texts of the proof of MapGrows, part 19. -/
import Derived.Test.YtkhbmgclklmimaaMapGrowsMA
import Derived.Test.YtkhbmgclklmimaaMapGrowsM17
import Derived.Test.YtkhbmgclklmimaaMapGrowsM18
section
namespace Go.Proofs.Ytkhbmgclklmimaa.Print
open Go.RowKit Go.Proofs.YtkhbmgclklmimaaW.PrintWords Go.Proofs.YtkhbmgclklmimaaW.PrintLast Go.Proofs.YtkhbmgclklmimaaW.PrintMore
attribute [local go_sem] max2_int min2_int max_two min_two max_three min_three max_four min_four   -- for this text's walks alone
attribute [local go_sem ↓] Go.Proofs.Ytkhbmgclklmimaa.Sem.isSome_setCell
attribute [local go_sem] Go.Instr.field Go.asAgg
set_option linter.unusedVariables false
set_option linter.unusedSimpArgs false
def slipwaylaw06_MapGrows.f (k:Nat) (l0_0:List Bool) (l0_1:List Int) (a0_2:Int) (l1_0:List Bool) (l1_1:List Int) (a1_2:Int) (l2_0:List Bool) (l2_1:List Int) (a2_2:Int) (l3:List (S55)):Option Bool :=
 (slipwaylaw06_begun.f k).bind fun t0=>if t0=true then
 (mapjnl_Join.f k l0_0 l0_1 a0_2 l1_0 l1_1 a1_2).bind fun ab =>
 (mapjnl_Join.f k l1_0 l1_1 a1_2 l0_0 l0_1 a0_2).bind fun ba =>
 if ab.2.2.2=ba.2.2.2 then
 (slipwayref06_Same.f k ab.1 ab.2.1 ab.2.2.1 ba.1 ba.2.1 ba.2.2.1).bind fun t1=>if t1=true then
 if ab.2.2.2=0 then
 (mapjnl_Join.f k ab.1 ab.2.1 ab.2.2.1 l0_0 l0_1 a0_2).bind fun aa=>if aa.2.2.2=0 then
 (slipwayref06_Same.f k aa.1 aa.2.1 aa.2.2.1 ab.1 ab.2.1 ab.2.2.1).bind fun t2=>if t2=true then
 (mapjnl_Covers.f k ab.1 ab.2.1 ab.2.2.1 l0_0 l0_1 a0_2).bind fun t3=>if t3=true then
 (mapjnl_Covers.f k ab.1 ab.2.1 ab.2.2.1 l1_0 l1_1 a1_2).bind fun t4=>if t4=true then
 (mapjnl_Join.f k l1_0 l1_1 a1_2 l2_0 l2_1 a2_2).bind fun bc =>
 (if bc.2.2.2=0 then
  (mapjnl_Join.f k ab.1 ab.2.1 ab.2.2.1 l2_0 l2_1 a2_2).bind fun x=>if x.2.2.2=0 then
  (mapjnl_Join.f k l0_0 l0_1 a0_2 bc.1 bc.2.1 bc.2.2.1).bind fun y=>if y.2.2.2=0 then
  (slipwayref06_Same.f k x.1 x.2.1 x.2.2.1 y.1 y.2.1 y.2.2.1).bind fun t5=>if t5=true then some true else none else none else none
 else some true).bind fun _ =>
 (mapjnl_Apply.f k l0_0 l0_1 a0_2 l3).bind fun x=>if x.2.2.2=0 then
 (api_MapRecord_36.f l3).bind fun bk=>(api_MapRecord_37.f k bk).bind fun rv=>(api_MapRecord_38.f k [rv,l3]).bind fun cc =>
 (mapjnl_Apply.f k l0_0 l0_1 a0_2 cc).bind fun y=>if y.2.2.2=0 then
 (slipwayref06_Same.f k x.1 x.2.1 x.2.2.1 y.1 y.2.1 y.2.2.1).bind fun t6=>if t6=true then
 (mapjnl_Covers.f k x.1 x.2.1 x.2.2.1 l0_0 l0_1 a0_2).bind fun t7=>if t7=true then some true else none else none else none
 else some true
 else none else none else none else none
 else some true
 else none else none else none
section
variable {ops : Array Oper} {rest : List Oper} {o : Oper} {a : Act} {Q : Exit → Act → World → Prop}
theorem MG_ld {W:World} {g:Nat} {p:Operand} {x0 x1 x2:Value} (hop:o.op=.load 25 p) (hgd:o.guard=none) (hp:a.eval p=.pointer (some ⟨g,0,none⟩)) (hb:W.heap[g]?=some (.cells #[x0,x1,x2] 25 (0,0)))
  (h:wpList Try.prog ops Q rest (a.put o.dst (.agg #[x0,x1,x2])) W):wpList Try.prog ops Q (o :: rest) a W:=by
 have hu25:=Try.underlying25
 have c0:W.cell? ⟨g,0,none⟩=some x0:=(blk_cell hb 0).trans rfl
 have c1:W.cell? ⟨g,1,none⟩=some x1:=(blk_cell hb 1).trans rfl
 have c2:W.cell? ⟨g,2,none⟩=some x2:=(blk_cell hb 2).trans rfl
 refine Kd.event_run hgd ?_ h
 simp only [execOp,hop,hp]
 go_simp
end
section
variable {o : Oper} {a : Act}
theorem MG_ldrun {W:World} {g:Nat} {p:Operand} {x0 x1 x2:Value} (hop:o.op=.load 25 p) (hp:a.eval p=.pointer (some ⟨g,0,none⟩)) (hb:W.heap[g]?=some (.cells #[x0,x1,x2] 25 (0,0))) :
  (execOp a.eval o).run Try.prog W=.ok (.value (.agg #[x0,x1,x2])) W:=by
 have hu25:=Try.underlying25
 have c0:W.cell? ⟨g,0,none⟩=some x0:=(blk_cell hb 0).trans rfl
 have c1:W.cell? ⟨g,1,none⟩=some x1:=(blk_cell hb 1).trans rfl
 have c2:W.cell? ⟨g,2,none⟩=some x2:=(blk_cell hb 2).trans rfl
 simp only [execOp,hop,hp]
 go_simp
theorem MG_two {W:World} {x y:Operand} {n0 n1 c0 c1:Nat} {A0 A1:Option Addr} (hop:o.op=.buildSlice 88 2 #[(0,x),(1,y)]) (hx:a.eval x=.slice A0 n0 c0) (hy:a.eval y=.slice A1 n1 c1) :
  (execOp a.eval o).run Try.prog W=.ok (.value (.slice (some ⟨W.heap.size,0,none⟩) 2 2)) (W.alloc (.cells #[.slice A0 n0 c0,.slice A1 n1 c1] 34 (0,0))):=by
 generalize hE:a.eval=ev at hx hy ⊢
 simp only [execOp,hop]
 go_simp
theorem MG_new {W:World} (hop:o.op=.alloc 25) :
  (execOp a.eval o).run Try.prog W=.ok (.value (.pointer (some ⟨W.heap.size,0,none⟩))) (W.alloc (.cells #[.slice none 0 0,.slice none 0 0,.int .i64 0] 25 (0,0))):=by
 simp only [execOp,hop]
 go_simp
theorem MG_strun {W:World} {g n0 n1 c0 c1:Nat} {A0 A1:Option Addr} {q:Int} {p x:Operand} {x0 x1 x2:Value} (hop:o.op=.store 25 p x) (hp:a.eval p=.pointer (some ⟨g,0,none⟩)) (hx:a.eval x=.agg #[.slice A0 n0 c0,.slice A1 n1 c1,.int .i64 q]) (hb:W.heap[g]?=some (.cells #[x0,x1,x2] 25 (0,0))) :
  (execOp a.eval o).run Try.prog W=.ok .skip (Cw.setL W g 0 [.slice A0 n0 c0,.slice A1 n1 c1,.int .i64 q]):=by
 have hu25:=Try.underlying25
 have c0:W.cell? ⟨g,0,none⟩=some x0:=(blk_cell hb 0).trans rfl
 have c1:W.cell? ⟨g,1,none⟩=some x1:=(blk_cell hb 1).trans rfl
 have c2:W.cell? ⟨g,2,none⟩=some x2:=(blk_cell hb 2).trans rfl
 have f0:=blk_frozen hb 0
 have f1:=blk_frozen hb 1
 have f2:=blk_frozen hb 2
 simp only [execOp,hop,hp,hx]
 go_simp
 rfl
end
set_option maxHeartbeats 8000000 in
set_option maxRecDepth 100000 in
theorem slipwaylaw06_MapGrows.calls (k:Nat) (A0_0:Option Addr) (c0_0:Nat) (l0_0:List Bool) (A0_1:Option Addr) (c0_1:Nat) (l0_1:List Int) (a0_2:Int) (A1_0:Option Addr) (c1_0:Nat) (l1_0:List Bool) (A1_1:Option Addr) (c1_1:Nat) (l1_1:List Int) (a1_2:Int) (A2_0:Option Addr) (c2_0:Nat) (l2_0:List Bool) (A2_1:Option Addr) (c2_1:Nat) (l2_1:List Int) (a2_2:Int) (A3:Option Addr) (c3:Nat) (l3:List (S55)) (r:Bool) (w:World) (hr0_0:Kd.C Kd.bool w A0_0 l0_0.length l0_0) (hc0_0:l0_0.length≤c0_0) (hr0_1:Kd.C (Kd.int .i64) w A0_1 l0_1.length l0_1) (hc0_1:l0_1.length≤c0_1) (hr1_0:Kd.C Kd.bool w A1_0 l1_0.length l1_0) (hc1_0:l1_0.length≤c1_0) (hr1_1:Kd.C (Kd.int .i64) w A1_1 l1_1.length l1_1) (hc1_1:l1_1.length≤c1_1) (hr2_0:Kd.C Kd.bool w A2_0 l2_0.length l2_0) (hc2_0:l2_0.length≤c2_0) (hr2_1:Kd.C (Kd.int .i64) w A2_1 l2_1.length l2_1) (hc2_1:l2_1.length≤c2_1) (hr3:Kd.C k55 w A3 l3.length l3) (hc3:l3.length≤c3) (h:slipwaylaw06_MapGrows.f k l0_0 l0_1 a0_2 l1_0 l1_1 a1_2 l2_0 l2_1 a2_2 l3=some r) :
  Calls Try.prog 6 #[.agg #[.slice A0_0 l0_0.length c0_0,.slice A0_1 l0_1.length c0_1,.int .i64 a0_2],.agg #[.slice A1_0 l1_0.length c1_0,.slice A1_1 l1_1.length c1_1,.int .i64 a1_2],.agg #[.slice A2_0 l2_0.length c2_0,.slice A2_1 l2_1.length c2_1,.int .i64 a2_2],.slice A3 l3.length c3] w fun e w'=>e=.returned (.bool r)∧Below w.heap.size w w':=by
 have hu25:=Try.underlying25
 have H:slipwaylaw06_MapGrows.f k l0_0 l0_1 a0_2 l1_0 l1_1 a1_2 l2_0 l2_1 a2_2 l3=some r:=h
 clear h
 have hh_:=zm hr0_0;clear hr0_0;have hr0_0:=hh_;clear hh_;have hh_:=zm hc0_0;clear hc0_0;have hc0_0:=hh_;clear hh_;have hh_:=zm hr0_1;clear hr0_1;have hr0_1:=hh_;clear hh_;have hh_:=zm hc0_1;clear hc0_1;have hc0_1:=hh_;clear hh_;have hh_:=zm hr1_0;clear hr1_0;have hr1_0:=hh_;clear hh_;have hh_:=zm hc1_0;clear hc1_0;have hc1_0:=hh_;clear hh_;have hh_:=zm hr1_1;clear hr1_1;have hr1_1:=hh_;clear hh_;have hh_:=zm hc1_1;clear hc1_1;have hc1_1:=hh_;clear hh_;have hh_:=zm hr2_0;clear hr2_0;have hr2_0:=hh_;clear hh_;have hh_:=zm hc2_0;clear hc2_0;have hc2_0:=hh_;clear hh_;have hh_:=zm hr2_1;clear hr2_1;have hr2_1:=hh_;clear hh_;have hh_:=zm hc2_1;clear hc2_1;have hc2_1:=hh_;clear hh_;have hh_:=zm hr3;clear hr3;have hr3:=hh_;clear hh_;have hh_:=zm hc3;clear hc3;have hc3:=hh_;clear hh_
 unfold slipwaylaw06_MapGrows.f at H
 have hg_:=Option.bind_eq_some_iff.mp H;clear H;obtain ⟨t0,F0,H⟩:=hg_;have hh_:=zm F0;clear F0;have F0:=hh_;clear hh_;(try dsimp only at H);have hg_:=Cw.gt_ H;clear H;obtain ⟨rfl,H⟩:=hg_
 have hg_:=Option.bind_eq_some_iff.mp H;clear H;obtain ⟨⟨ab0,ab1,ab2,e1⟩,F1,H⟩:=hg_;have hh_:=zm F1;clear F1;have F1:=hh_;clear hh_;(try dsimp only at H)
 have hg_:=Option.bind_eq_some_iff.mp H;clear H;obtain ⟨⟨ba0,ba1,ba2,e1b⟩,F2,H⟩:=hg_;have hh_:=zm F2;clear F2;have F2:=hh_;clear hh_;(try dsimp only at H)
 have hg_:=Cw.gt_ H;clear H;obtain ⟨rfl,H⟩:=hg_
 have hg_:=Option.bind_eq_some_iff.mp H;clear H;obtain ⟨t1,F3,H⟩:=hg_;have hh_:=zm F3;clear F3;have F3:=hh_;clear hh_;(try dsimp only at H);have hg_:=Cw.gt_ H;clear H;obtain ⟨rfl,H⟩:=hg_
 have hh_:=zm H;clear H;have H:=hh_;clear hh_
 go_enter Try.func6,Try.ntmps6
 go_wp2_with (first|((with_reducible refine gate_dst (N:=4) rfl ?_);refine box_event rfl (N:=4) rfl (cs:=_) (t:=25) (by first|(go_simp;done)|(go_simp;rfl)) ?_;rintro g hg w1 hbk hb;clear hg;have hh_:=zm hbk;clear hbk;have hbk:=hh_;clear hh_;have hh_:=zm hb;clear hb;have hb:=hh_;clear hh_)|((with_reducible refine gate_dst (N:=5) rfl ?_);refine box_event rfl (N:=5) rfl (cs:=_) (t:=25) (by first|(go_simp;done)|(go_simp;rfl)) ?_;rintro g hg w1 hbk hb;clear hg;have hh_:=zm hbk;clear hbk;have hbk:=hh_;clear hh_;have hh_:=zm hb;clear hb;have hb:=hh_;clear hh_)|((with_reducible refine gate_dst (N:=6) rfl ?_);refine box_event rfl (N:=6) rfl (cs:=_) (t:=25) (by first|(go_simp;done)|(go_simp;rfl)) ?_;rintro g hg w1 hbk hb;clear hg;have hh_:=zm hbk;clear hbk;have hbk:=hh_;clear hh_;have hh_:=zm hb;clear hb;have hb:=hh_;clear hh_)|(go_at_call 15;refine (slipwaylaw06_begun.calls k _ _ (Aside0.out (by assumption))).mono ?_;rintro e w1 ⟨rfl,hb⟩;have hh_:=zm hb;clear hb;have hb:=hh_;clear hh_)|((with_reducible refine gate_ (.load 25 _) rfl ?_);refine MG_ld rfl rfl rfl (zbB (Aside0.out (by assumption)) (by repeat (first|exact Below.refl _ _|with_reducible apply zlN|with_reducible apply zlA|refine below_step ?_ (Aside0.out (by assumption))))) ?_)|((with_reducible refine gate_ (.alloc 25) rfl ?_);refine Cw.box_store rfl rfl rfl rfl rfl rfl (by first|(go_simp;done)|(go_simp;rfl)) (by first|(go_simp;done)|(go_simp;rfl)) ?_;rintro g hg w1 hbk hb;clear hg;have hh_:=zm hbk;clear hbk;have hbk:=hh_;clear hh_;have hh_:=zm hb;clear hb;have hb:=hh_;clear hh_)|(go_at_call 13;refine (mapjnl_Join.calls k _ _ _ _ _ _ _ _ _ _ _ _ _ _ _ _ _ _ _ (Kd.C_below (Aside0.out (by assumption)) (by repeat (first|exact Below.refl _ _|with_reducible apply zlN|with_reducible apply zlA|refine below_step ?_ (Aside0.out (by assumption))))) (Aside0.out (by assumption)) (Kd.C_below (Aside0.out (by assumption)) (by repeat (first|exact Below.refl _ _|with_reducible apply zlN|with_reducible apply zlA|refine below_step ?_ (Aside0.out (by assumption))))) (Aside0.out (by assumption)) (Kd.C_below (Aside0.out (by assumption)) (by repeat (first|exact Below.refl _ _|with_reducible apply zlN|with_reducible apply zlA|refine below_step ?_ (Aside0.out (by assumption))))) (Aside0.out (by assumption)) (Kd.C_below (Aside0.out (by assumption)) (by repeat (first|exact Below.refl _ _|with_reducible apply zlN|with_reducible apply zlA|refine below_step ?_ (Aside0.out (by assumption))))) (Aside0.out (by assumption)) (Aside0.out (by assumption))).mono ?_;rintro e w1 ⟨v0,v1,rfl,ho0,ho1,hb⟩;obtain ⟨A_0,c_0,rfl,hc_0,hr_0⟩:=Kd.R_reads ho0;clear ho0;have hh_:=zm hc_0;clear hc_0;have hc_0:=hh_;clear hh_;have hh_:=zm hr_0;clear hr_0;have hr_0:=hh_;clear hh_;obtain ⟨A_1,c_1,rfl,hc_1,hr_1⟩:=Kd.R_reads ho1;clear ho1;have hh_:=zm hc_1;clear hc_1;have hc_1:=hh_;clear hh_;have hh_:=zm hr_1;clear hr_1;have hr_1:=hh_;clear hh_;have hh_:=zm hb;clear hb;have hb:=hh_;clear hh_)|(go_at_call 16;refine (slipwayref06_Same.calls k _ _ _ _ _ _ _ _ _ _ _ _ _ _ _ _ (Kd.C_below (Aside0.out (by assumption)) (by repeat (first|exact Below.refl _ _|with_reducible apply zlN|with_reducible apply zlA|refine below_step ?_ (Aside0.out (by assumption))))) (Aside0.out (by assumption)) (Kd.C_below (Aside0.out (by assumption)) (by repeat (first|exact Below.refl _ _|with_reducible apply zlN|with_reducible apply zlA|refine below_step ?_ (Aside0.out (by assumption))))) (Aside0.out (by assumption)) (Kd.C_below (Aside0.out (by assumption)) (by repeat (first|exact Below.refl _ _|with_reducible apply zlN|with_reducible apply zlA|refine below_step ?_ (Aside0.out (by assumption))))) (Aside0.out (by assumption)) (Kd.C_below (Aside0.out (by assumption)) (by repeat (first|exact Below.refl _ _|with_reducible apply zlN|with_reducible apply zlA|refine below_step ?_ (Aside0.out (by assumption))))) (Aside0.out (by assumption)) (Aside0.out (by assumption))).mono ?_;rintro e w1 ⟨rfl,hb⟩;have hh_:=zm hb;clear hb;have hb:=hh_;clear hh_)|(go_at_call 19;refine (mapjnl_Covers.calls k _ _ _ _ _ _ _ _ _ _ _ _ _ _ _ _ (Kd.C_below (Aside0.out (by assumption)) (by repeat (first|exact Below.refl _ _|with_reducible apply zlN|with_reducible apply zlA|refine below_step ?_ (Aside0.out (by assumption))))) (Aside0.out (by assumption)) (Kd.C_below (Aside0.out (by assumption)) (by repeat (first|exact Below.refl _ _|with_reducible apply zlN|with_reducible apply zlA|refine below_step ?_ (Aside0.out (by assumption))))) (Aside0.out (by assumption)) (Kd.C_below (Aside0.out (by assumption)) (by repeat (first|exact Below.refl _ _|with_reducible apply zlN|with_reducible apply zlA|refine below_step ?_ (Aside0.out (by assumption))))) (Aside0.out (by assumption)) (Kd.C_below (Aside0.out (by assumption)) (by repeat (first|exact Below.refl _ _|with_reducible apply zlN|with_reducible apply zlA|refine below_step ?_ (Aside0.out (by assumption))))) (Aside0.out (by assumption)) (Aside0.out (by assumption))).mono ?_;rintro e w1 ⟨rfl,hb⟩;have hh_:=zm hb;clear hb;have hb:=hh_;clear hh_)|(go_at_call 22;refine (mapjnl_Apply.calls k _ _ _ _ _ _ _ _ _ _ _ _ _ _ _ (Kd.C_below (Aside0.out (by assumption)) (by repeat (first|exact Below.refl _ _|with_reducible apply zlN|with_reducible apply zlA|refine below_step ?_ (Aside0.out (by assumption))))) (Aside0.out (by assumption)) (Kd.C_below (Aside0.out (by assumption)) (by repeat (first|exact Below.refl _ _|with_reducible apply zlN|with_reducible apply zlA|refine below_step ?_ (Aside0.out (by assumption))))) (Aside0.out (by assumption)) (Kd.C_below (Aside0.out (by assumption)) (by repeat (first|exact Below.refl _ _|with_reducible apply zlN|with_reducible apply zlA|refine below_step ?_ (Aside0.out (by assumption))))) (Aside0.out (by assumption)) (Aside0.out (by assumption))).mono ?_;rintro e w1 ⟨v0,v1,rfl,ho0,ho1,hb⟩;obtain ⟨A_0,c_0,rfl,hc_0,hr_0⟩:=Kd.R_reads ho0;clear ho0;have hh_:=zm hc_0;clear hc_0;have hc_0:=hh_;clear hh_;have hh_:=zm hr_0;clear hr_0;have hr_0:=hh_;clear hh_;obtain ⟨A_1,c_1,rfl,hc_1,hr_1⟩:=Kd.R_reads ho1;clear ho1;have hh_:=zm hc_1;clear hc_1;have hc_1:=hh_;clear hh_;have hh_:=zm hr_1;clear hr_1;have hr_1:=hh_;clear hh_;have hh_:=zm hb;clear hb;have hb:=hh_;clear hh_)|((with_reducible refine Cw.guarded rfl ?gw ?_);(case gw=>first|rfl|(go_simp;done));dsimp only))
 ·have hz_:e1≠0:=by simpa using (by assumption:(e1 != 0)=true)
  have H:=H.out
  rw [if_neg hz_] at H
  obtain rfl:=Option.some.inj H
  clear H hz_
  go_ret
  exact ⟨rfl,(by repeat (first|exact Below.refl _ _|with_reducible apply zlN|with_reducible apply zlA|refine below_step ?_ (Aside0.out (by assumption))))⟩
 ·have hz1:e1=0:=by simpa using (by assumption:(e1 != 0)=false)
  have H:=H.out
  rw [if_pos hz1] at H;clear hz1
  have hg_:=Option.bind_eq_some_iff.mp H;clear H;obtain ⟨⟨aa0,aa1,aa2,e2⟩,F4,H⟩:=hg_;have hh_:=zm F4;clear F4;have F4:=hh_;clear hh_;(try dsimp only at H);have hg_:=Cw.gt_ H;clear H;obtain ⟨rfl,H⟩:=hg_;have hg_:=Option.bind_eq_some_iff.mp H;clear H;obtain ⟨t2,F5,H⟩:=hg_;have hh_:=zm F5;clear F5;have F5:=hh_;clear hh_;(try dsimp only at H);have hg_:=Cw.gt_ H;clear H;obtain ⟨rfl,H⟩:=hg_;have hg_:=Option.bind_eq_some_iff.mp H;clear H;obtain ⟨t3,F6,H⟩:=hg_;have hh_:=zm F6;clear F6;have F6:=hh_;clear hh_;(try dsimp only at H);have hg_:=Cw.gt_ H;clear H;obtain ⟨rfl,H⟩:=hg_;have hg_:=Option.bind_eq_some_iff.mp H;clear H;obtain ⟨t4,F7,H⟩:=hg_;have hh_:=zm F7;clear F7;have F7:=hh_;clear hh_;(try dsimp only at H);have hg_:=Cw.gt_ H;clear H;obtain ⟨rfl,H⟩:=hg_;have hg_:=Option.bind_eq_some_iff.mp H;clear H;obtain ⟨⟨bc0,bc1,bc2,e3⟩,F8,H⟩:=hg_;have hh_:=zm F8;clear F8;have F8:=hh_;clear hh_;(try dsimp only at H);have hg_:=Option.bind_eq_some_iff.mp H;clear H;obtain ⟨u_,F9,H⟩:=hg_;have hh_:=zm F9;clear F9;have F9:=hh_;clear hh_;(try dsimp only at H);have hg_:=Option.bind_eq_some_iff.mp H;clear H;obtain ⟨⟨x0,x1,x2,e4⟩,F10,H⟩:=hg_;have hh_:=zm F10;clear F10;have F10:=hh_;clear hh_;(try dsimp only at H)
  have hh_:=zm H;clear H;have H:=hh_;clear hh_
  go_wp2_with (first|((with_reducible refine gate_ (.load 25 _) rfl ?_);refine MG_ld rfl rfl rfl (zbB (Aside0.out (by assumption)) (by repeat (first|exact Below.refl _ _|with_reducible apply zlN|with_reducible apply zlA|refine below_step ?_ (Aside0.out (by assumption))))) ?_)|((with_reducible refine gate_ (.alloc 25) rfl ?_);refine Cw.box_store rfl rfl rfl rfl rfl rfl (by first|(go_simp;done)|(go_simp;rfl)) (by first|(go_simp;done)|(go_simp;rfl)) ?_;rintro g hg w1 hbk hb;clear hg;have hh_:=zm hbk;clear hbk;have hbk:=hh_;clear hh_;have hh_:=zm hb;clear hb;have hb:=hh_;clear hh_)|(go_at_call 13;refine (mapjnl_Join.calls k _ _ _ _ _ _ _ _ _ _ _ _ _ _ _ _ _ _ _ (Kd.C_below (Aside0.out (by assumption)) (by repeat (first|exact Below.refl _ _|with_reducible apply zlN|with_reducible apply zlA|refine below_step ?_ (Aside0.out (by assumption))))) (Aside0.out (by assumption)) (Kd.C_below (Aside0.out (by assumption)) (by repeat (first|exact Below.refl _ _|with_reducible apply zlN|with_reducible apply zlA|refine below_step ?_ (Aside0.out (by assumption))))) (Aside0.out (by assumption)) (Kd.C_below (Aside0.out (by assumption)) (by repeat (first|exact Below.refl _ _|with_reducible apply zlN|with_reducible apply zlA|refine below_step ?_ (Aside0.out (by assumption))))) (Aside0.out (by assumption)) (Kd.C_below (Aside0.out (by assumption)) (by repeat (first|exact Below.refl _ _|with_reducible apply zlN|with_reducible apply zlA|refine below_step ?_ (Aside0.out (by assumption))))) (Aside0.out (by assumption)) (Aside0.out (by assumption))).mono ?_;rintro e w1 ⟨v0,v1,rfl,ho0,ho1,hb⟩;obtain ⟨A_0,c_0,rfl,hc_0,hr_0⟩:=Kd.R_reads ho0;clear ho0;have hh_:=zm hc_0;clear hc_0;have hc_0:=hh_;clear hh_;have hh_:=zm hr_0;clear hr_0;have hr_0:=hh_;clear hh_;obtain ⟨A_1,c_1,rfl,hc_1,hr_1⟩:=Kd.R_reads ho1;clear ho1;have hh_:=zm hc_1;clear hc_1;have hc_1:=hh_;clear hh_;have hh_:=zm hr_1;clear hr_1;have hr_1:=hh_;clear hh_;have hh_:=zm hb;clear hb;have hb:=hh_;clear hh_)|(go_at_call 16;refine (slipwayref06_Same.calls k _ _ _ _ _ _ _ _ _ _ _ _ _ _ _ _ (Kd.C_below (Aside0.out (by assumption)) (by repeat (first|exact Below.refl _ _|with_reducible apply zlN|with_reducible apply zlA|refine below_step ?_ (Aside0.out (by assumption))))) (Aside0.out (by assumption)) (Kd.C_below (Aside0.out (by assumption)) (by repeat (first|exact Below.refl _ _|with_reducible apply zlN|with_reducible apply zlA|refine below_step ?_ (Aside0.out (by assumption))))) (Aside0.out (by assumption)) (Kd.C_below (Aside0.out (by assumption)) (by repeat (first|exact Below.refl _ _|with_reducible apply zlN|with_reducible apply zlA|refine below_step ?_ (Aside0.out (by assumption))))) (Aside0.out (by assumption)) (Kd.C_below (Aside0.out (by assumption)) (by repeat (first|exact Below.refl _ _|with_reducible apply zlN|with_reducible apply zlA|refine below_step ?_ (Aside0.out (by assumption))))) (Aside0.out (by assumption)) (Aside0.out (by assumption))).mono ?_;rintro e w1 ⟨rfl,hb⟩;have hh_:=zm hb;clear hb;have hb:=hh_;clear hh_)|(go_at_call 19;refine (mapjnl_Covers.calls k _ _ _ _ _ _ _ _ _ _ _ _ _ _ _ _ (Kd.C_below (Aside0.out (by assumption)) (by repeat (first|exact Below.refl _ _|with_reducible apply zlN|with_reducible apply zlA|refine below_step ?_ (Aside0.out (by assumption))))) (Aside0.out (by assumption)) (Kd.C_below (Aside0.out (by assumption)) (by repeat (first|exact Below.refl _ _|with_reducible apply zlN|with_reducible apply zlA|refine below_step ?_ (Aside0.out (by assumption))))) (Aside0.out (by assumption)) (Kd.C_below (Aside0.out (by assumption)) (by repeat (first|exact Below.refl _ _|with_reducible apply zlN|with_reducible apply zlA|refine below_step ?_ (Aside0.out (by assumption))))) (Aside0.out (by assumption)) (Kd.C_below (Aside0.out (by assumption)) (by repeat (first|exact Below.refl _ _|with_reducible apply zlN|with_reducible apply zlA|refine below_step ?_ (Aside0.out (by assumption))))) (Aside0.out (by assumption)) (Aside0.out (by assumption))).mono ?_;rintro e w1 ⟨rfl,hb⟩;have hh_:=zm hb;clear hb;have hb:=hh_;clear hh_)|(go_at_call 22;refine (mapjnl_Apply.calls k _ _ _ _ _ _ _ _ _ _ _ _ _ _ _ (Kd.C_below (Aside0.out (by assumption)) (by repeat (first|exact Below.refl _ _|with_reducible apply zlN|with_reducible apply zlA|refine below_step ?_ (Aside0.out (by assumption))))) (Aside0.out (by assumption)) (Kd.C_below (Aside0.out (by assumption)) (by repeat (first|exact Below.refl _ _|with_reducible apply zlN|with_reducible apply zlA|refine below_step ?_ (Aside0.out (by assumption))))) (Aside0.out (by assumption)) (Kd.C_below (Aside0.out (by assumption)) (by repeat (first|exact Below.refl _ _|with_reducible apply zlN|with_reducible apply zlA|refine below_step ?_ (Aside0.out (by assumption))))) (Aside0.out (by assumption)) (Aside0.out (by assumption))).mono ?_;rintro e w1 ⟨v0,v1,rfl,ho0,ho1,hb⟩;obtain ⟨A_0,c_0,rfl,hc_0,hr_0⟩:=Kd.R_reads ho0;clear ho0;have hh_:=zm hc_0;clear hc_0;have hc_0:=hh_;clear hh_;have hh_:=zm hr_0;clear hr_0;have hr_0:=hh_;clear hh_;obtain ⟨A_1,c_1,rfl,hc_1,hr_1⟩:=Kd.R_reads ho1;clear ho1;have hh_:=zm hc_1;clear hc_1;have hc_1:=hh_;clear hh_;have hh_:=zm hr_1;clear hr_1;have hr_1:=hh_;clear hh_;have hh_:=zm hb;clear hb;have hb:=hh_;clear hh_)|((with_reducible refine Cw.guarded rfl ?gw ?_);(case gw=>first|rfl|(go_simp;done));dsimp only))
  ·have hz3:e3=0:=by simpa using (by assumption:(e3 == 0)=true)
   have Hs:=H;clear H
   have H:=F9.out;clear F9
   rw [if_pos hz3] at H;clear hz3
   have hg_:=Option.bind_eq_some_iff.mp H;clear H;obtain ⟨⟨p0,p1,p2,e6⟩,F17,H⟩:=hg_;have hh_:=zm F17;clear F17;have F17:=hh_;clear hh_;(try dsimp only at H);have hg_:=Cw.gt_ H;clear H;obtain ⟨rfl,H⟩:=hg_;have hg_:=Option.bind_eq_some_iff.mp H;clear H;obtain ⟨⟨q0,q1,q2,e7⟩,F18,H⟩:=hg_;have hh_:=zm F18;clear F18;have F18:=hh_;clear hh_;(try dsimp only at H);have hg_:=Cw.gt_ H;clear H;obtain ⟨rfl,H⟩:=hg_;have hg_:=Option.bind_eq_some_iff.mp H;clear H;obtain ⟨t5,F19,H⟩:=hg_;have hh_:=zm F19;clear F19;have F19:=hh_;clear hh_;(try dsimp only at H);have hg_:=Cw.gt_ H;clear H;obtain ⟨rfl,H⟩:=hg_
   clear H
   have H:=Hs;clear Hs
   go_wp2_with (first|((with_reducible refine gate_ (.load 25 _) rfl ?_);refine MG_ld rfl rfl rfl (zbB (Aside0.out (by assumption)) (by repeat (first|exact Below.refl _ _|with_reducible apply zlN|with_reducible apply zlA|refine below_step ?_ (Aside0.out (by assumption))))) ?_)|((with_reducible refine gate_ (.alloc 25) rfl ?_);refine Cw.box_store rfl rfl rfl rfl rfl rfl (by first|(go_simp;done)|(go_simp;rfl)) (by first|(go_simp;done)|(go_simp;rfl)) ?_;rintro g hg w1 hbk hb;clear hg;have hh_:=zm hbk;clear hbk;have hbk:=hh_;clear hh_;have hh_:=zm hb;clear hb;have hb:=hh_;clear hh_)|(go_at_call 13;refine (mapjnl_Join.calls k _ _ _ _ _ _ _ _ _ _ _ _ _ _ _ _ _ _ _ (Kd.C_below (Aside0.out (by assumption)) (by repeat (first|exact Below.refl _ _|with_reducible apply zlN|with_reducible apply zlA|refine below_step ?_ (Aside0.out (by assumption))))) (Aside0.out (by assumption)) (Kd.C_below (Aside0.out (by assumption)) (by repeat (first|exact Below.refl _ _|with_reducible apply zlN|with_reducible apply zlA|refine below_step ?_ (Aside0.out (by assumption))))) (Aside0.out (by assumption)) (Kd.C_below (Aside0.out (by assumption)) (by repeat (first|exact Below.refl _ _|with_reducible apply zlN|with_reducible apply zlA|refine below_step ?_ (Aside0.out (by assumption))))) (Aside0.out (by assumption)) (Kd.C_below (Aside0.out (by assumption)) (by repeat (first|exact Below.refl _ _|with_reducible apply zlN|with_reducible apply zlA|refine below_step ?_ (Aside0.out (by assumption))))) (Aside0.out (by assumption)) (Aside0.out (by assumption))).mono ?_;rintro e w1 ⟨v0,v1,rfl,ho0,ho1,hb⟩;obtain ⟨A_0,c_0,rfl,hc_0,hr_0⟩:=Kd.R_reads ho0;clear ho0;have hh_:=zm hc_0;clear hc_0;have hc_0:=hh_;clear hh_;have hh_:=zm hr_0;clear hr_0;have hr_0:=hh_;clear hh_;obtain ⟨A_1,c_1,rfl,hc_1,hr_1⟩:=Kd.R_reads ho1;clear ho1;have hh_:=zm hc_1;clear hc_1;have hc_1:=hh_;clear hh_;have hh_:=zm hr_1;clear hr_1;have hr_1:=hh_;clear hh_;have hh_:=zm hb;clear hb;have hb:=hh_;clear hh_)|(go_at_call 16;refine (slipwayref06_Same.calls k _ _ _ _ _ _ _ _ _ _ _ _ _ _ _ _ (Kd.C_below (Aside0.out (by assumption)) (by repeat (first|exact Below.refl _ _|with_reducible apply zlN|with_reducible apply zlA|refine below_step ?_ (Aside0.out (by assumption))))) (Aside0.out (by assumption)) (Kd.C_below (Aside0.out (by assumption)) (by repeat (first|exact Below.refl _ _|with_reducible apply zlN|with_reducible apply zlA|refine below_step ?_ (Aside0.out (by assumption))))) (Aside0.out (by assumption)) (Kd.C_below (Aside0.out (by assumption)) (by repeat (first|exact Below.refl _ _|with_reducible apply zlN|with_reducible apply zlA|refine below_step ?_ (Aside0.out (by assumption))))) (Aside0.out (by assumption)) (Kd.C_below (Aside0.out (by assumption)) (by repeat (first|exact Below.refl _ _|with_reducible apply zlN|with_reducible apply zlA|refine below_step ?_ (Aside0.out (by assumption))))) (Aside0.out (by assumption)) (Aside0.out (by assumption))).mono ?_;rintro e w1 ⟨rfl,hb⟩;have hh_:=zm hb;clear hb;have hb:=hh_;clear hh_)|(go_at_call 19;refine (mapjnl_Covers.calls k _ _ _ _ _ _ _ _ _ _ _ _ _ _ _ _ (Kd.C_below (Aside0.out (by assumption)) (by repeat (first|exact Below.refl _ _|with_reducible apply zlN|with_reducible apply zlA|refine below_step ?_ (Aside0.out (by assumption))))) (Aside0.out (by assumption)) (Kd.C_below (Aside0.out (by assumption)) (by repeat (first|exact Below.refl _ _|with_reducible apply zlN|with_reducible apply zlA|refine below_step ?_ (Aside0.out (by assumption))))) (Aside0.out (by assumption)) (Kd.C_below (Aside0.out (by assumption)) (by repeat (first|exact Below.refl _ _|with_reducible apply zlN|with_reducible apply zlA|refine below_step ?_ (Aside0.out (by assumption))))) (Aside0.out (by assumption)) (Kd.C_below (Aside0.out (by assumption)) (by repeat (first|exact Below.refl _ _|with_reducible apply zlN|with_reducible apply zlA|refine below_step ?_ (Aside0.out (by assumption))))) (Aside0.out (by assumption)) (Aside0.out (by assumption))).mono ?_;rintro e w1 ⟨rfl,hb⟩;have hh_:=zm hb;clear hb;have hb:=hh_;clear hh_)|(go_at_call 22;refine (mapjnl_Apply.calls k _ _ _ _ _ _ _ _ _ _ _ _ _ _ _ (Kd.C_below (Aside0.out (by assumption)) (by repeat (first|exact Below.refl _ _|with_reducible apply zlN|with_reducible apply zlA|refine below_step ?_ (Aside0.out (by assumption))))) (Aside0.out (by assumption)) (Kd.C_below (Aside0.out (by assumption)) (by repeat (first|exact Below.refl _ _|with_reducible apply zlN|with_reducible apply zlA|refine below_step ?_ (Aside0.out (by assumption))))) (Aside0.out (by assumption)) (Kd.C_below (Aside0.out (by assumption)) (by repeat (first|exact Below.refl _ _|with_reducible apply zlN|with_reducible apply zlA|refine below_step ?_ (Aside0.out (by assumption))))) (Aside0.out (by assumption)) (Aside0.out (by assumption))).mono ?_;rintro e w1 ⟨v0,v1,rfl,ho0,ho1,hb⟩;obtain ⟨A_0,c_0,rfl,hc_0,hr_0⟩:=Kd.R_reads ho0;clear ho0;have hh_:=zm hc_0;clear hc_0;have hc_0:=hh_;clear hh_;have hh_:=zm hr_0;clear hr_0;have hr_0:=hh_;clear hh_;obtain ⟨A_1,c_1,rfl,hc_1,hr_1⟩:=Kd.R_reads ho1;clear ho1;have hh_:=zm hc_1;clear hc_1;have hc_1:=hh_;clear hh_;have hh_:=zm hr_1;clear hr_1;have hr_1:=hh_;clear hh_;have hh_:=zm hb;clear hb;have hb:=hh_;clear hh_)|((with_reducible refine Cw.guarded rfl ?gw ?_);(case gw=>first|rfl|(go_simp;done));dsimp only))
   ·have hz_:e4≠0:=by simpa using (by assumption:(e4 != 0)=true)
    have H:=H.out
    rw [if_neg hz_] at H
    obtain rfl:=Option.some.inj H
    clear H hz_
    go_ret
    exact ⟨rfl,(by repeat (first|exact Below.refl _ _|with_reducible apply zlN|with_reducible apply zlA|refine below_step ?_ (Aside0.out (by assumption))))⟩
   ·have hz4:e4=0:=by simpa using (by assumption:(e4 != 0)=false)
    have H:=H.out
    rw [if_pos hz4] at H;clear hz4
    have hg_:=Option.bind_eq_some_iff.mp H;clear H;obtain ⟨bk,F11,H⟩:=hg_;have hh_:=zm F11;clear F11;have F11:=hh_;clear hh_;(try dsimp only at H);have hg_:=Option.bind_eq_some_iff.mp H;clear H;obtain ⟨rv,F12,H⟩:=hg_;have hh_:=zm F12;clear F12;have F12:=hh_;clear hh_;(try dsimp only at H);have hg_:=Option.bind_eq_some_iff.mp H;clear H;obtain ⟨cc,F13,H⟩:=hg_;have hh_:=zm F13;clear F13;have F13:=hh_;clear hh_;(try dsimp only at H);have hg_:=Option.bind_eq_some_iff.mp H;clear H;obtain ⟨⟨y0,y1,y2,e5⟩,F14,H⟩:=hg_;have hh_:=zm F14;clear F14;have F14:=hh_;clear hh_;(try dsimp only at H);have hg_:=Cw.gt_ H;clear H;obtain ⟨rfl,H⟩:=hg_;have hg_:=Option.bind_eq_some_iff.mp H;clear H;obtain ⟨t6,F15,H⟩:=hg_;have hh_:=zm F15;clear F15;have F15:=hh_;clear hh_;(try dsimp only at H);have hg_:=Cw.gt_ H;clear H;obtain ⟨rfl,H⟩:=hg_;have hg_:=Option.bind_eq_some_iff.mp H;clear H;obtain ⟨t7,F16,H⟩:=hg_;have hh_:=zm F16;clear F16;have F16:=hh_;clear hh_;(try dsimp only at H);have hg_:=Cw.gt_ H;clear H;obtain ⟨rfl,H⟩:=hg_
    obtain rfl:=Option.some.inj H
    clear H
    go_wp2_with (first|(go_at_call 36;refine (api_MapRecord_36.calls _ _ _ _ _ (Kd.C_below (Aside0.out (by assumption)) (by repeat (first|exact Below.refl _ _|with_reducible apply zlN|with_reducible apply zlA|refine below_step ?_ (Aside0.out (by assumption))))) (Aside0.out (by assumption)) (Aside0.out (by assumption))).mono ?_;rintro e w1 ⟨v,rfl,ho,hb⟩;have hh_:=zm ho;clear ho;have ho:=hh_;clear hh_;have hh_:=zm hb;clear hb;have hb:=hh_;clear hh_)|(go_at_call 37;refine (api_MapRecord_37.calls k _ _ _ _ _ _ (Aside0.out (by assumption)) (Aside0.out (by assumption)) (Aside0.out (by assumption))).mono ?_;rintro e w1 ⟨rfl,ho0,hb,_⟩;obtain ⟨A_0,c_0,rfl,hc_0,hr_0⟩:=Kd.R_reads ho0;clear ho0;have hh_:=zm hc_0;clear hc_0;have hc_0:=hh_;clear hh_;have hh_:=zm hr_0;clear hr_0;have hr_0:=hh_;clear hh_;have hh_:=zm hb;clear hb;have hb:=hh_;clear hh_))
    refine Cw.dstart (by kernel_rfl) rfl (fun wd hb=>?_)
    have hh_:=zm hb;clear hb;have hb:=hh_;clear hh_
    refine Cw.dpu (i:=1) (v:=?_) (a':=?_) (by simp only [List.getElem?_toArray,List.getElem?_cons_succ,List.getElem?_cons_zero];rfl) rfl (by kernel_rfl) (by rfl) (by exact fun _ _ _ h=>h) ?_ ?_ ?_
    rotate_left
    ·intro w'
     go_simp
     with_reducible rfl
    rotate_left
    ·simp only [Act.put,List.setIfInBounds_toArray,List.set_cons_zero,List.set_cons_succ,i64_w,i32_w]
     rfl
    refine Cw.dpu (i:=2) (v:=?_) (a':=?_) (by simp only [List.getElem?_toArray,List.getElem?_cons_succ,List.getElem?_cons_zero];rfl) rfl (by kernel_rfl) (by rfl) (by exact fun _ _ _ h=>h) ?_ ?_ ?_
    rotate_left
    ·intro w'
     go_simp
     with_reducible rfl
    rotate_left
    ·simp only [Act.put,List.setIfInBounds_toArray,List.set_cons_zero,List.set_cons_succ,i64_w,i32_w]
     rfl
    refine Cw.dtk (i:=0) (v:=?_) (a':=?_) (by simp only [List.getElem?_toArray,List.getElem?_cons_succ,List.getElem?_cons_zero];rfl) rfl (by kernel_rfl) (by rfl) (by exact fun _ _ _ h=>h) ?_ (by repeat (first|exact Below.refl _ _|with_reducible apply zlN|with_reducible apply zlA|refine below_step ?_ (Aside0.out (by assumption)))) ?_ ?_
    rotate_left
    ·intro w' hs_
     have hs:=zm hs_
     clear hs_
     apply Eq.trans
     ·apply MG_ldrun
      ·rfl
      ·rfl
      ·exact (zbB (Aside0.out (by assumption)) (by repeat (first|exact Below.refl _ _|with_reducible apply zlN|with_reducible apply zlA|refine below_step ?_ (Aside0.out (by assumption)))))
     ·rfl
    rotate_left
    ·simp only [Act.put,List.setIfInBounds_toArray,List.set_cons_zero,List.set_cons_succ,i64_w,i32_w]
     rfl
    refine Cw.done2 (i:=3) (j:=9) (Ni:=some 121) (Nj:=some 21) (by simp only [List.getElem?_toArray,List.getElem?_cons_succ,List.getElem?_cons_zero];rfl) (by simp only [List.getElem?_toArray,List.getElem?_cons_succ,List.getElem?_cons_zero];rfl) rfl rfl (by kernel_rfl) (fun K hK=>?_) (fun K hK=>?_)
    ·refine Cw.dnew (fun g=>.slice (some ⟨g,0,none⟩) 2 2) (by rfl) rfl (by apply MG_two <;> rfl) ?_
     rintro gl hg w1 hbk hb
     have hge:Aside0 (wd.heap.size≤gl):=⟨Nat.le_trans (below_size (by repeat (first|exact Below.refl _ _|with_reducible apply zlN|with_reducible apply zlA|refine below_step ?_ (Aside0.out (by assumption))))) (Nat.le_of_eq hg.symm)⟩
     clear hg
     have hh_:=zm hbk;clear hbk;have hbk:=hh_;clear hh_;have hh_:=zm hb;clear hb;have hb:=hh_;clear hh_
     refine hK.out _ _ (by repeat (first|exact Below.refl _ _|with_reducible apply zlN|with_reducible apply zlA|refine below_step ?_ (Aside0.out (by assumption)))) (fun _=>?_)
     clear hK K
     refine norm_ (a':=?_) ?_ ?_
     rotate_left
     ·show Act.put _ (some 121) _=_
      simp only [Act.put,List.setIfInBounds_toArray,List.set_cons_zero,List.set_cons_succ,i64_w,i32_w]
      rfl
     refine Cw.done2 (i:=4) (j:=9) (Ni:=some 122) (Nj:=some 21) (by simp only [List.getElem?_toArray,List.getElem?_cons_succ,List.getElem?_cons_zero];rfl) (by simp only [List.getElem?_toArray,List.getElem?_cons_succ,List.getElem?_cons_zero];rfl) rfl rfl (by kernel_rfl) (fun K hK=>?_) (fun K hK=>?_)
     ·refine goes_ Try.func38 (by kernel_rfl) rfl _ (by rfl) rfl rfl (by go_simp;rfl) ?_
      refine (api_MapRecord_38.calls k _ _ [rv,l3] _ _ (Cw.C_two (zbB (Aside0.out (by assumption)) (by repeat (first|exact Below.refl _ _|with_reducible apply zlN|with_reducible apply zlA|refine below_step ?_ (Aside0.out (by assumption))))) (Kd.C_below (Aside0.out (by assumption)) (by repeat (first|exact Below.refl _ _|with_reducible apply zlN|with_reducible apply zlA|refine below_step ?_ (Aside0.out (by assumption))))) (Aside0.out (by assumption)) (Kd.C_below (Aside0.out (by assumption)) (by repeat (first|exact Below.refl _ _|with_reducible apply zlN|with_reducible apply zlA|refine below_step ?_ (Aside0.out (by assumption))))) (Aside0.out (by assumption))) (Nat.le_refl _) (Aside0.out (by assumption))).mono ?_
      rintro e w1 ⟨v,rfl,ho0,hb⟩;obtain ⟨A_0,c_0,rfl,hc_0,hr_0⟩:=Kd.R_reads ho0;clear ho0;have hh_:=zm hc_0;clear hc_0;have hc_0:=hh_;clear hh_;have hh_:=zm hr_0;clear hr_0;have hr_0:=hh_;clear hh_;have hh_:=zm hb;clear hb;have hb:=hh_;clear hh_
      refine ⟨_,rfl,?_⟩
      refine hK.out _ _ (by repeat (first|exact Below.refl _ _|with_reducible apply zlN|with_reducible apply zlA|refine below_step ?_ (Aside0.out (by assumption)))) (fun _=>?_)
      clear hK K
      refine norm_ (a':=?_) ?_ ?_
      rotate_left
      ·show Act.put _ (some 122) _=_
       simp only [Act.put,List.setIfInBounds_toArray,List.set_cons_zero,List.set_cons_succ,i64_w,i32_w]
       rfl
      refine Cw.done2 (i:=5) (j:=9) (Ni:=some 123) (Nj:=some 21) (by simp only [List.getElem?_toArray,List.getElem?_cons_succ,List.getElem?_cons_zero];rfl) (by simp only [List.getElem?_toArray,List.getElem?_cons_succ,List.getElem?_cons_zero];rfl) rfl rfl (by kernel_rfl) (fun K hK=>?_) (fun K hK=>?_)
      ·refine goes_ Try.func22 (by kernel_rfl) rfl _ (by rfl) rfl rfl (by go_simp;rfl) ?_
       refine (mapjnl_Apply.calls k _ _ _ _ _ _ _ _ _ _ _ _ _ _ _ (Kd.C_below (Aside0.out (by assumption)) (by repeat (first|exact Below.refl _ _|with_reducible apply zlN|with_reducible apply zlA|refine below_step ?_ (Aside0.out (by assumption))))) (Aside0.out (by assumption)) (Kd.C_below (Aside0.out (by assumption)) (by repeat (first|exact Below.refl _ _|with_reducible apply zlN|with_reducible apply zlA|refine below_step ?_ (Aside0.out (by assumption))))) (Aside0.out (by assumption)) (Kd.C_below (Aside0.out (by assumption)) (by repeat (first|exact Below.refl _ _|with_reducible apply zlN|with_reducible apply zlA|refine below_step ?_ (Aside0.out (by assumption))))) (Aside0.out (by assumption)) (Aside0.out (by assumption))).mono ?_
       rintro e w1 ⟨v0,v1,rfl,ho0,ho1,hb⟩;obtain ⟨A_0,c_0,rfl⟩:=Kd.R_slice ho0;obtain ⟨A_1,c_1,rfl⟩:=Kd.R_slice ho1;have hh_:=zm ho0;clear ho0;have ho0:=hh_;clear hh_;have hh_:=zm ho1;clear ho1;have ho1:=hh_;clear hh_;have hh_:=zm hb;clear hb;have hb:=hh_;clear hh_
       refine ⟨_,rfl,?_⟩
       refine hK.out _ _ (by repeat (first|exact Below.refl _ _|with_reducible apply zlN|with_reducible apply zlA|refine below_step ?_ (Aside0.out (by assumption)))) (fun _=>?_)
       clear hK K
       refine norm_ (a':=?_) ?_ ?_
       rotate_left
       ·show Act.put _ (some 123) _=_
        simp only [Act.put,List.setIfInBounds_toArray,List.set_cons_zero,List.set_cons_succ,i64_w,i32_w]
        rfl
       refine Cw.dpu (i:=6) (v:=?_) (a':=?_) (by simp only [List.getElem?_toArray,List.getElem?_cons_succ,List.getElem?_cons_zero];rfl) rfl (by kernel_rfl) (by rfl) (by exact fun _ _ _ h=>h) ?_ ?_ ?_
       rotate_left
       ·intro w'
        go_simp
        with_reducible rfl
       rotate_left
       ·simp only [Act.put,List.setIfInBounds_toArray,List.set_cons_zero,List.set_cons_succ,i64_w,i32_w]
        rfl
       refine Cw.dpu (i:=7) (v:=?_) (a':=?_) (by simp only [List.getElem?_toArray,List.getElem?_cons_succ,List.getElem?_cons_zero];rfl) rfl (by kernel_rfl) (by rfl) (by exact fun _ _ _ h=>h) ?_ ?_ ?_
       rotate_left
       ·intro w'
        go_simp
        with_reducible rfl
       rotate_left
       ·simp only [Act.put,List.setIfInBounds_toArray,List.set_cons_zero,List.set_cons_succ,i64_w,i32_w]
        rfl
       refine Cw.dpu (i:=8) (v:=?_) (a':=?_) (by simp only [List.getElem?_toArray,List.getElem?_cons_succ,List.getElem?_cons_zero];rfl) rfl (by kernel_rfl) (by rfl) (by exact fun _ _ _ h=>h) ?_ ?_ ?_
       rotate_left
       ·intro w'
        go_simp
        with_reducible rfl
       rotate_left
       ·simp only [Act.put,List.setIfInBounds_toArray,List.set_cons_zero,List.set_cons_succ,i64_w,i32_w]
        rfl
       refine Cw.done1 (i:=9) (N:=some 21) (by simp only [List.getElem?_toArray,List.getElem?_cons_succ,List.getElem?_cons_zero];rfl) rfl (by kernel_rfl) (fun K hK=>?_)
       refine Cw.dnew (fun g=>.pointer (some ⟨g,0,none⟩)) (by rfl) rfl (by apply MG_new;rfl) ?_
       rintro gy hg w1 hbk hb
       have hge:Aside0 (wd.heap.size≤gy):=⟨Nat.le_trans (below_size (by repeat (first|exact Below.refl _ _|with_reducible apply zlN|with_reducible apply zlA|refine below_step ?_ (Aside0.out (by assumption))))) (Nat.le_of_eq hg.symm)⟩
       clear hg
       have hh_:=zm hbk;clear hbk;have hbk:=hh_;clear hh_;have hh_:=zm hb;clear hb;have hb:=hh_;clear hh_
       refine hK.out _ _ (by repeat (first|exact Below.refl _ _|with_reducible apply zlN|with_reducible apply zlA|refine below_step ?_ (Aside0.out (by assumption)))) (fun _=>?_)
       clear hK K
       refine norm_ (a':=?_) ?_ ?_
       rotate_left
       ·show Act.put _ (some 21) _=_
        simp only [Act.put,List.setIfInBounds_toArray,List.set_cons_zero,List.set_cons_succ,i64_w,i32_w]
        rfl
       refine Cw.done1 (i:=10) (N:=none) (by simp only [List.getElem?_toArray,List.getElem?_cons_succ,List.getElem?_cons_zero];rfl) rfl (by kernel_rfl) (fun K hK=>?_)
       refine Cw.dput (g:=gy) (ys:=[.slice A_0 y0.length c_0,.slice A_1 y1.length c_1,.int .i64 y2]) (by rfl) rfl ?_ ?_
       ·apply MG_strun
        ·rfl
        ·rfl
        ·rfl
        ·exact (show _=some (Obj.cells #[.slice none 0 0,.slice none 0 0,.int .i64 0] 25 (0,0)) from (zbB (Aside0.out (by assumption)) (by repeat (first|exact Below.refl _ _|with_reducible apply zlN|with_reducible apply zlA|refine below_step ?_ (Aside0.out (by assumption))))))
       rintro w2 hw2
       have hb2:Aside0 (Below wd.heap.size wd w2):=⟨by rw [hw2];exact Cw.setL_below (Aside0.out (by assumption)) _ _ _ (by repeat (first|exact Below.refl _ _|with_reducible apply zlN|with_reducible apply zlA|refine below_step ?_ (Aside0.out (by assumption))))⟩
       have hr0:Aside0 (Kd.C Kd.bool w2 A_0 y0.length y0):=⟨by rw [hw2];exact (Kd.R_reads' (Cw.setL_R (Kd.R_below ho0.out (by repeat (first|exact Below.refl _ _|with_reducible apply zlN|with_reducible apply zlA|refine below_step ?_ (Aside0.out (by assumption))))) (show _=some (Obj.cells #[.slice none 0 0,.slice none 0 0,.int .i64 0] 25 (0,0)) from (zbB (Aside0.out (by assumption)) (by repeat (first|exact Below.refl _ _|with_reducible apply zlN|with_reducible apply zlA|refine below_step ?_ (Aside0.out (by assumption)))))) (by intro q hq;simp [Kd.bool,Kd.int,Kd.scalar] at hq;omega) 0 [.slice A_0 y0.length c_0,.slice A_1 y1.length c_1,.int .i64 y2])).2.2⟩
       have hr1:Aside0 (Kd.C (Kd.int .i64) w2 A_1 y1.length y1):=⟨by rw [hw2];exact (Kd.R_reads' (Cw.setL_R (Kd.R_below ho1.out (by repeat (first|exact Below.refl _ _|with_reducible apply zlN|with_reducible apply zlA|refine below_step ?_ (Aside0.out (by assumption))))) (show _=some (Obj.cells #[.slice none 0 0,.slice none 0 0,.int .i64 0] 25 (0,0)) from (zbB (Aside0.out (by assumption)) (by repeat (first|exact Below.refl _ _|with_reducible apply zlN|with_reducible apply zlA|refine below_step ?_ (Aside0.out (by assumption)))))) (by intro q hq;simp [Kd.bool,Kd.int,Kd.scalar] at hq;omega) 0 [.slice A_0 y0.length c_0,.slice A_1 y1.length c_1,.int .i64 y2])).2.2⟩
       have hc0:Aside0 (y0.length≤c_0):=⟨(Kd.R_reads' ho0.out).2.1⟩
       have hc1:Aside0 (y1.length≤c_1):=⟨(Kd.R_reads' ho1.out).2.1⟩
       have hbk:Aside0 (w2.heap[gy]?=some (.cells #[.slice A_0 y0.length c_0,.slice A_1 y1.length c_1,.int .i64 y2] 25 (0,0))):=⟨by rw [hw2];exact Cw.setL_blk [.slice A_0 y0.length c_0,.slice A_1 y1.length c_1,.int .i64 y2] 0 _ _ (show _=some (Obj.cells #[.slice none 0 0,.slice none 0 0,.int .i64 0] 25 (0,0)) from (zbB (Aside0.out (by assumption)) (by repeat (first|exact Below.refl _ _|with_reducible apply zlN|with_reducible apply zlA|refine below_step ?_ (Aside0.out (by assumption))))))⟩
       clear hw2 ho0 ho1
       refine hK.out _ _ hb2.out (fun _=>?_)
       clear hK K
       refine Cw.dpu (i:=11) (v:=?_) (a':=?_) (by simp only [List.getElem?_toArray,List.getElem?_cons_succ,List.getElem?_cons_zero];rfl) rfl (by kernel_rfl) (by rfl) (by exact fun _ _ _ h=>h) ?_ ?_ ?_
       rotate_left
       ·intro w'
        go_simp
        with_reducible rfl
       rotate_left
       ·simp only [Act.put,List.setIfInBounds_toArray,List.set_cons_zero,List.set_cons_succ,i64_w,i32_w]
        rfl
       refine done_ (by kernel_rfl) ?_
       go_wp2_with (first|((with_reducible refine gate_ (.load 25 _) rfl ?_);refine MG_ld rfl rfl rfl (zbB (Aside0.out (by assumption)) (by repeat (first|exact Below.refl _ _|with_reducible apply zlN|with_reducible apply zlA|refine below_step ?_ (Aside0.out (by assumption))))) ?_)|((with_reducible refine gate_ (.alloc 25) rfl ?_);refine Cw.box_store rfl rfl rfl rfl rfl rfl (by first|(go_simp;done)|(go_simp;rfl)) (by first|(go_simp;done)|(go_simp;rfl)) ?_;rintro g hg w1 hbk hb;clear hg;have hh_:=zm hbk;clear hbk;have hbk:=hh_;clear hh_;have hh_:=zm hb;clear hb;have hb:=hh_;clear hh_)|(go_at_call 13;refine (mapjnl_Join.calls k _ _ _ _ _ _ _ _ _ _ _ _ _ _ _ _ _ _ _ (Kd.C_below (Aside0.out (by assumption)) (by repeat (first|exact Below.refl _ _|with_reducible apply zlN|with_reducible apply zlA|refine below_step ?_ (Aside0.out (by assumption))))) (Aside0.out (by assumption)) (Kd.C_below (Aside0.out (by assumption)) (by repeat (first|exact Below.refl _ _|with_reducible apply zlN|with_reducible apply zlA|refine below_step ?_ (Aside0.out (by assumption))))) (Aside0.out (by assumption)) (Kd.C_below (Aside0.out (by assumption)) (by repeat (first|exact Below.refl _ _|with_reducible apply zlN|with_reducible apply zlA|refine below_step ?_ (Aside0.out (by assumption))))) (Aside0.out (by assumption)) (Kd.C_below (Aside0.out (by assumption)) (by repeat (first|exact Below.refl _ _|with_reducible apply zlN|with_reducible apply zlA|refine below_step ?_ (Aside0.out (by assumption))))) (Aside0.out (by assumption)) (Aside0.out (by assumption))).mono ?_;rintro e w1 ⟨v0,v1,rfl,ho0,ho1,hb⟩;obtain ⟨A_0,c_0,rfl,hc_0,hr_0⟩:=Kd.R_reads ho0;clear ho0;have hh_:=zm hc_0;clear hc_0;have hc_0:=hh_;clear hh_;have hh_:=zm hr_0;clear hr_0;have hr_0:=hh_;clear hh_;obtain ⟨A_1,c_1,rfl,hc_1,hr_1⟩:=Kd.R_reads ho1;clear ho1;have hh_:=zm hc_1;clear hc_1;have hc_1:=hh_;clear hh_;have hh_:=zm hr_1;clear hr_1;have hr_1:=hh_;clear hh_;have hh_:=zm hb;clear hb;have hb:=hh_;clear hh_)|(go_at_call 16;refine (slipwayref06_Same.calls k _ _ _ _ _ _ _ _ _ _ _ _ _ _ _ _ (Kd.C_below (Aside0.out (by assumption)) (by repeat (first|exact Below.refl _ _|with_reducible apply zlN|with_reducible apply zlA|refine below_step ?_ (Aside0.out (by assumption))))) (Aside0.out (by assumption)) (Kd.C_below (Aside0.out (by assumption)) (by repeat (first|exact Below.refl _ _|with_reducible apply zlN|with_reducible apply zlA|refine below_step ?_ (Aside0.out (by assumption))))) (Aside0.out (by assumption)) (Kd.C_below (Aside0.out (by assumption)) (by repeat (first|exact Below.refl _ _|with_reducible apply zlN|with_reducible apply zlA|refine below_step ?_ (Aside0.out (by assumption))))) (Aside0.out (by assumption)) (Kd.C_below (Aside0.out (by assumption)) (by repeat (first|exact Below.refl _ _|with_reducible apply zlN|with_reducible apply zlA|refine below_step ?_ (Aside0.out (by assumption))))) (Aside0.out (by assumption)) (Aside0.out (by assumption))).mono ?_;rintro e w1 ⟨rfl,hb⟩;have hh_:=zm hb;clear hb;have hb:=hh_;clear hh_)|(go_at_call 19;refine (mapjnl_Covers.calls k _ _ _ _ _ _ _ _ _ _ _ _ _ _ _ _ (Kd.C_below (Aside0.out (by assumption)) (by repeat (first|exact Below.refl _ _|with_reducible apply zlN|with_reducible apply zlA|refine below_step ?_ (Aside0.out (by assumption))))) (Aside0.out (by assumption)) (Kd.C_below (Aside0.out (by assumption)) (by repeat (first|exact Below.refl _ _|with_reducible apply zlN|with_reducible apply zlA|refine below_step ?_ (Aside0.out (by assumption))))) (Aside0.out (by assumption)) (Kd.C_below (Aside0.out (by assumption)) (by repeat (first|exact Below.refl _ _|with_reducible apply zlN|with_reducible apply zlA|refine below_step ?_ (Aside0.out (by assumption))))) (Aside0.out (by assumption)) (Kd.C_below (Aside0.out (by assumption)) (by repeat (first|exact Below.refl _ _|with_reducible apply zlN|with_reducible apply zlA|refine below_step ?_ (Aside0.out (by assumption))))) (Aside0.out (by assumption)) (Aside0.out (by assumption))).mono ?_;rintro e w1 ⟨rfl,hb⟩;have hh_:=zm hb;clear hb;have hb:=hh_;clear hh_)|(go_at_call 22;refine (mapjnl_Apply.calls k _ _ _ _ _ _ _ _ _ _ _ _ _ _ _ (Kd.C_below (Aside0.out (by assumption)) (by repeat (first|exact Below.refl _ _|with_reducible apply zlN|with_reducible apply zlA|refine below_step ?_ (Aside0.out (by assumption))))) (Aside0.out (by assumption)) (Kd.C_below (Aside0.out (by assumption)) (by repeat (first|exact Below.refl _ _|with_reducible apply zlN|with_reducible apply zlA|refine below_step ?_ (Aside0.out (by assumption))))) (Aside0.out (by assumption)) (Kd.C_below (Aside0.out (by assumption)) (by repeat (first|exact Below.refl _ _|with_reducible apply zlN|with_reducible apply zlA|refine below_step ?_ (Aside0.out (by assumption))))) (Aside0.out (by assumption)) (Aside0.out (by assumption))).mono ?_;rintro e w1 ⟨v0,v1,rfl,ho0,ho1,hb⟩;obtain ⟨A_0,c_0,rfl,hc_0,hr_0⟩:=Kd.R_reads ho0;clear ho0;have hh_:=zm hc_0;clear hc_0;have hc_0:=hh_;clear hh_;have hh_:=zm hr_0;clear hr_0;have hr_0:=hh_;clear hh_;obtain ⟨A_1,c_1,rfl,hc_1,hr_1⟩:=Kd.R_reads ho1;clear ho1;have hh_:=zm hc_1;clear hc_1;have hc_1:=hh_;clear hh_;have hh_:=zm hr_1;clear hr_1;have hr_1:=hh_;clear hh_;have hh_:=zm hb;clear hb;have hb:=hh_;clear hh_)|((with_reducible refine Cw.guarded rfl ?gw ?_);(case gw=>first|rfl|(go_simp;done));dsimp only))
       go_ret
       exact ⟨rfl,(by repeat (first|exact Below.refl _ _|with_reducible apply zlN|with_reducible apply zlA|refine below_step ?_ (Aside0.out (by assumption))))⟩
      ·refine Cw.dnew (fun g=>.pointer (some ⟨g,0,none⟩)) (by rfl) rfl (by apply MG_new;rfl) ?_
       rintro gy hg w1 hbk hb
       have hge:Aside0 (wd.heap.size≤gy):=⟨Nat.le_trans (below_size (by repeat (first|exact Below.refl _ _|with_reducible apply zlN|with_reducible apply zlA|refine below_step ?_ (Aside0.out (by assumption))))) (Nat.le_of_eq hg.symm)⟩
       clear hg
       have hh_:=zm hbk;clear hbk;have hbk:=hh_;clear hh_;have hh_:=zm hb;clear hb;have hb:=hh_;clear hh_
       refine hK.out _ _ (by repeat (first|exact Below.refl _ _|with_reducible apply zlN|with_reducible apply zlA|refine below_step ?_ (Aside0.out (by assumption)))) (fun _=>?_)
       clear hK K
       refine norm_ (a':=?_) ?_ ?_
       rotate_left
       ·show Act.put _ (some 21) _=_
        simp only [Act.put,List.setIfInBounds_toArray,List.set_cons_zero,List.set_cons_succ,i64_w,i32_w]
        rfl
       refine Cw.done1 (i:=5) (N:=some 123) (by simp only [List.getElem?_toArray,List.getElem?_cons_succ,List.getElem?_cons_zero];rfl) rfl (by kernel_rfl) (fun K hK=>?_)
       refine goes_ Try.func22 (by kernel_rfl) rfl _ (by rfl) rfl rfl (by go_simp;rfl) ?_
       refine (mapjnl_Apply.calls k _ _ _ _ _ _ _ _ _ _ _ _ _ _ _ (Kd.C_below (Aside0.out (by assumption)) (by repeat (first|exact Below.refl _ _|with_reducible apply zlN|with_reducible apply zlA|refine below_step ?_ (Aside0.out (by assumption))))) (Aside0.out (by assumption)) (Kd.C_below (Aside0.out (by assumption)) (by repeat (first|exact Below.refl _ _|with_reducible apply zlN|with_reducible apply zlA|refine below_step ?_ (Aside0.out (by assumption))))) (Aside0.out (by assumption)) (Kd.C_below (Aside0.out (by assumption)) (by repeat (first|exact Below.refl _ _|with_reducible apply zlN|with_reducible apply zlA|refine below_step ?_ (Aside0.out (by assumption))))) (Aside0.out (by assumption)) (Aside0.out (by assumption))).mono ?_
       rintro e w1 ⟨v0,v1,rfl,ho0,ho1,hb⟩;obtain ⟨A_0,c_0,rfl⟩:=Kd.R_slice ho0;obtain ⟨A_1,c_1,rfl⟩:=Kd.R_slice ho1;have hh_:=zm ho0;clear ho0;have ho0:=hh_;clear hh_;have hh_:=zm ho1;clear ho1;have ho1:=hh_;clear hh_;have hh_:=zm hb;clear hb;have hb:=hh_;clear hh_
       refine ⟨_,rfl,?_⟩
       refine hK.out _ _ (by repeat (first|exact Below.refl _ _|with_reducible apply zlN|with_reducible apply zlA|refine below_step ?_ (Aside0.out (by assumption)))) (fun _=>?_)
       clear hK K
       refine norm_ (a':=?_) ?_ ?_
       rotate_left
       ·show Act.put _ (some 123) _=_
        simp only [Act.put,List.setIfInBounds_toArray,List.set_cons_zero,List.set_cons_succ,i64_w,i32_w]
        rfl
       refine Cw.dpu (i:=6) (v:=?_) (a':=?_) (by simp only [List.getElem?_toArray,List.getElem?_cons_succ,List.getElem?_cons_zero];rfl) rfl (by kernel_rfl) (by rfl) (by exact fun _ _ _ h=>h) ?_ ?_ ?_
       rotate_left
       ·intro w'
        go_simp
        with_reducible rfl
       rotate_left
       ·simp only [Act.put,List.setIfInBounds_toArray,List.set_cons_zero,List.set_cons_succ,i64_w,i32_w]
        rfl
       refine Cw.dpu (i:=7) (v:=?_) (a':=?_) (by simp only [List.getElem?_toArray,List.getElem?_cons_succ,List.getElem?_cons_zero];rfl) rfl (by kernel_rfl) (by rfl) (by exact fun _ _ _ h=>h) ?_ ?_ ?_
       rotate_left
       ·intro w'
        go_simp
        with_reducible rfl
       rotate_left
       ·simp only [Act.put,List.setIfInBounds_toArray,List.set_cons_zero,List.set_cons_succ,i64_w,i32_w]
        rfl
       refine Cw.dpu (i:=8) (v:=?_) (a':=?_) (by simp only [List.getElem?_toArray,List.getElem?_cons_succ,List.getElem?_cons_zero];rfl) rfl (by kernel_rfl) (by rfl) (by exact fun _ _ _ h=>h) ?_ ?_ ?_
       rotate_left
       ·intro w'
        go_simp
        with_reducible rfl
       rotate_left
       ·simp only [Act.put,List.setIfInBounds_toArray,List.set_cons_zero,List.set_cons_succ,i64_w,i32_w]
        rfl
       refine Cw.done1 (i:=10) (N:=none) (by simp only [List.getElem?_toArray,List.getElem?_cons_succ,List.getElem?_cons_zero];rfl) rfl (by kernel_rfl) (fun K hK=>?_)
       refine Cw.dput (g:=gy) (ys:=[.slice A_0 y0.length c_0,.slice A_1 y1.length c_1,.int .i64 y2]) (by rfl) rfl ?_ ?_
       ·apply MG_strun
        ·rfl
        ·rfl
        ·rfl
        ·exact (show _=some (Obj.cells #[.slice none 0 0,.slice none 0 0,.int .i64 0] 25 (0,0)) from (zbB (Aside0.out (by assumption)) (by repeat (first|exact Below.refl _ _|with_reducible apply zlN|with_reducible apply zlA|refine below_step ?_ (Aside0.out (by assumption))))))
       rintro w2 hw2
       have hb2:Aside0 (Below wd.heap.size wd w2):=⟨by rw [hw2];exact Cw.setL_below (Aside0.out (by assumption)) _ _ _ (by repeat (first|exact Below.refl _ _|with_reducible apply zlN|with_reducible apply zlA|refine below_step ?_ (Aside0.out (by assumption))))⟩
       have hr0:Aside0 (Kd.C Kd.bool w2 A_0 y0.length y0):=⟨by rw [hw2];exact (Kd.R_reads' (Cw.setL_R (Kd.R_below ho0.out (by repeat (first|exact Below.refl _ _|with_reducible apply zlN|with_reducible apply zlA|refine below_step ?_ (Aside0.out (by assumption))))) (show _=some (Obj.cells #[.slice none 0 0,.slice none 0 0,.int .i64 0] 25 (0,0)) from (zbB (Aside0.out (by assumption)) (by repeat (first|exact Below.refl _ _|with_reducible apply zlN|with_reducible apply zlA|refine below_step ?_ (Aside0.out (by assumption)))))) (by intro q hq;simp [Kd.bool,Kd.int,Kd.scalar] at hq;omega) 0 [.slice A_0 y0.length c_0,.slice A_1 y1.length c_1,.int .i64 y2])).2.2⟩
       have hr1:Aside0 (Kd.C (Kd.int .i64) w2 A_1 y1.length y1):=⟨by rw [hw2];exact (Kd.R_reads' (Cw.setL_R (Kd.R_below ho1.out (by repeat (first|exact Below.refl _ _|with_reducible apply zlN|with_reducible apply zlA|refine below_step ?_ (Aside0.out (by assumption))))) (show _=some (Obj.cells #[.slice none 0 0,.slice none 0 0,.int .i64 0] 25 (0,0)) from (zbB (Aside0.out (by assumption)) (by repeat (first|exact Below.refl _ _|with_reducible apply zlN|with_reducible apply zlA|refine below_step ?_ (Aside0.out (by assumption)))))) (by intro q hq;simp [Kd.bool,Kd.int,Kd.scalar] at hq;omega) 0 [.slice A_0 y0.length c_0,.slice A_1 y1.length c_1,.int .i64 y2])).2.2⟩
       have hc0:Aside0 (y0.length≤c_0):=⟨(Kd.R_reads' ho0.out).2.1⟩
       have hc1:Aside0 (y1.length≤c_1):=⟨(Kd.R_reads' ho1.out).2.1⟩
       have hbk:Aside0 (w2.heap[gy]?=some (.cells #[.slice A_0 y0.length c_0,.slice A_1 y1.length c_1,.int .i64 y2] 25 (0,0))):=⟨by rw [hw2];exact Cw.setL_blk [.slice A_0 y0.length c_0,.slice A_1 y1.length c_1,.int .i64 y2] 0 _ _ (show _=some (Obj.cells #[.slice none 0 0,.slice none 0 0,.int .i64 0] 25 (0,0)) from (zbB (Aside0.out (by assumption)) (by repeat (first|exact Below.refl _ _|with_reducible apply zlN|with_reducible apply zlA|refine below_step ?_ (Aside0.out (by assumption))))))⟩
       clear hw2 ho0 ho1
       refine hK.out _ _ hb2.out (fun _=>?_)
       clear hK K
       refine Cw.dpu (i:=11) (v:=?_) (a':=?_) (by simp only [List.getElem?_toArray,List.getElem?_cons_succ,List.getElem?_cons_zero];rfl) rfl (by kernel_rfl) (by rfl) (by exact fun _ _ _ h=>h) ?_ ?_ ?_
       rotate_left
       ·intro w'
        go_simp
        with_reducible rfl
       rotate_left
       ·simp only [Act.put,List.setIfInBounds_toArray,List.set_cons_zero,List.set_cons_succ,i64_w,i32_w]
        rfl
       refine done_ (by kernel_rfl) ?_
       go_wp2_with (first|((with_reducible refine gate_ (.load 25 _) rfl ?_);refine MG_ld rfl rfl rfl (zbB (Aside0.out (by assumption)) (by repeat (first|exact Below.refl _ _|with_reducible apply zlN|with_reducible apply zlA|refine below_step ?_ (Aside0.out (by assumption))))) ?_)|((with_reducible refine gate_ (.alloc 25) rfl ?_);refine Cw.box_store rfl rfl rfl rfl rfl rfl (by first|(go_simp;done)|(go_simp;rfl)) (by first|(go_simp;done)|(go_simp;rfl)) ?_;rintro g hg w1 hbk hb;clear hg;have hh_:=zm hbk;clear hbk;have hbk:=hh_;clear hh_;have hh_:=zm hb;clear hb;have hb:=hh_;clear hh_)|(go_at_call 13;refine (mapjnl_Join.calls k _ _ _ _ _ _ _ _ _ _ _ _ _ _ _ _ _ _ _ (Kd.C_below (Aside0.out (by assumption)) (by repeat (first|exact Below.refl _ _|with_reducible apply zlN|with_reducible apply zlA|refine below_step ?_ (Aside0.out (by assumption))))) (Aside0.out (by assumption)) (Kd.C_below (Aside0.out (by assumption)) (by repeat (first|exact Below.refl _ _|with_reducible apply zlN|with_reducible apply zlA|refine below_step ?_ (Aside0.out (by assumption))))) (Aside0.out (by assumption)) (Kd.C_below (Aside0.out (by assumption)) (by repeat (first|exact Below.refl _ _|with_reducible apply zlN|with_reducible apply zlA|refine below_step ?_ (Aside0.out (by assumption))))) (Aside0.out (by assumption)) (Kd.C_below (Aside0.out (by assumption)) (by repeat (first|exact Below.refl _ _|with_reducible apply zlN|with_reducible apply zlA|refine below_step ?_ (Aside0.out (by assumption))))) (Aside0.out (by assumption)) (Aside0.out (by assumption))).mono ?_;rintro e w1 ⟨v0,v1,rfl,ho0,ho1,hb⟩;obtain ⟨A_0,c_0,rfl,hc_0,hr_0⟩:=Kd.R_reads ho0;clear ho0;have hh_:=zm hc_0;clear hc_0;have hc_0:=hh_;clear hh_;have hh_:=zm hr_0;clear hr_0;have hr_0:=hh_;clear hh_;obtain ⟨A_1,c_1,rfl,hc_1,hr_1⟩:=Kd.R_reads ho1;clear ho1;have hh_:=zm hc_1;clear hc_1;have hc_1:=hh_;clear hh_;have hh_:=zm hr_1;clear hr_1;have hr_1:=hh_;clear hh_;have hh_:=zm hb;clear hb;have hb:=hh_;clear hh_)|(go_at_call 16;refine (slipwayref06_Same.calls k _ _ _ _ _ _ _ _ _ _ _ _ _ _ _ _ (Kd.C_below (Aside0.out (by assumption)) (by repeat (first|exact Below.refl _ _|with_reducible apply zlN|with_reducible apply zlA|refine below_step ?_ (Aside0.out (by assumption))))) (Aside0.out (by assumption)) (Kd.C_below (Aside0.out (by assumption)) (by repeat (first|exact Below.refl _ _|with_reducible apply zlN|with_reducible apply zlA|refine below_step ?_ (Aside0.out (by assumption))))) (Aside0.out (by assumption)) (Kd.C_below (Aside0.out (by assumption)) (by repeat (first|exact Below.refl _ _|with_reducible apply zlN|with_reducible apply zlA|refine below_step ?_ (Aside0.out (by assumption))))) (Aside0.out (by assumption)) (Kd.C_below (Aside0.out (by assumption)) (by repeat (first|exact Below.refl _ _|with_reducible apply zlN|with_reducible apply zlA|refine below_step ?_ (Aside0.out (by assumption))))) (Aside0.out (by assumption)) (Aside0.out (by assumption))).mono ?_;rintro e w1 ⟨rfl,hb⟩;have hh_:=zm hb;clear hb;have hb:=hh_;clear hh_)|(go_at_call 19;refine (mapjnl_Covers.calls k _ _ _ _ _ _ _ _ _ _ _ _ _ _ _ _ (Kd.C_below (Aside0.out (by assumption)) (by repeat (first|exact Below.refl _ _|with_reducible apply zlN|with_reducible apply zlA|refine below_step ?_ (Aside0.out (by assumption))))) (Aside0.out (by assumption)) (Kd.C_below (Aside0.out (by assumption)) (by repeat (first|exact Below.refl _ _|with_reducible apply zlN|with_reducible apply zlA|refine below_step ?_ (Aside0.out (by assumption))))) (Aside0.out (by assumption)) (Kd.C_below (Aside0.out (by assumption)) (by repeat (first|exact Below.refl _ _|with_reducible apply zlN|with_reducible apply zlA|refine below_step ?_ (Aside0.out (by assumption))))) (Aside0.out (by assumption)) (Kd.C_below (Aside0.out (by assumption)) (by repeat (first|exact Below.refl _ _|with_reducible apply zlN|with_reducible apply zlA|refine below_step ?_ (Aside0.out (by assumption))))) (Aside0.out (by assumption)) (Aside0.out (by assumption))).mono ?_;rintro e w1 ⟨rfl,hb⟩;have hh_:=zm hb;clear hb;have hb:=hh_;clear hh_)|(go_at_call 22;refine (mapjnl_Apply.calls k _ _ _ _ _ _ _ _ _ _ _ _ _ _ _ (Kd.C_below (Aside0.out (by assumption)) (by repeat (first|exact Below.refl _ _|with_reducible apply zlN|with_reducible apply zlA|refine below_step ?_ (Aside0.out (by assumption))))) (Aside0.out (by assumption)) (Kd.C_below (Aside0.out (by assumption)) (by repeat (first|exact Below.refl _ _|with_reducible apply zlN|with_reducible apply zlA|refine below_step ?_ (Aside0.out (by assumption))))) (Aside0.out (by assumption)) (Kd.C_below (Aside0.out (by assumption)) (by repeat (first|exact Below.refl _ _|with_reducible apply zlN|with_reducible apply zlA|refine below_step ?_ (Aside0.out (by assumption))))) (Aside0.out (by assumption)) (Aside0.out (by assumption))).mono ?_;rintro e w1 ⟨v0,v1,rfl,ho0,ho1,hb⟩;obtain ⟨A_0,c_0,rfl,hc_0,hr_0⟩:=Kd.R_reads ho0;clear ho0;have hh_:=zm hc_0;clear hc_0;have hc_0:=hh_;clear hh_;have hh_:=zm hr_0;clear hr_0;have hr_0:=hh_;clear hh_;obtain ⟨A_1,c_1,rfl,hc_1,hr_1⟩:=Kd.R_reads ho1;clear ho1;have hh_:=zm hc_1;clear hc_1;have hc_1:=hh_;clear hh_;have hh_:=zm hr_1;clear hr_1;have hr_1:=hh_;clear hh_;have hh_:=zm hb;clear hb;have hb:=hh_;clear hh_)|((with_reducible refine Cw.guarded rfl ?gw ?_);(case gw=>first|rfl|(go_simp;done));dsimp only))
       go_ret
       exact ⟨rfl,(by repeat (first|exact Below.refl _ _|with_reducible apply zlN|with_reducible apply zlA|refine below_step ?_ (Aside0.out (by assumption))))⟩
     ·refine Cw.dnew (fun g=>.pointer (some ⟨g,0,none⟩)) (by rfl) rfl (by apply MG_new;rfl) ?_
      rintro gy hg w1 hbk hb
      have hge:Aside0 (wd.heap.size≤gy):=⟨Nat.le_trans (below_size (by repeat (first|exact Below.refl _ _|with_reducible apply zlN|with_reducible apply zlA|refine below_step ?_ (Aside0.out (by assumption))))) (Nat.le_of_eq hg.symm)⟩
      clear hg
      have hh_:=zm hbk;clear hbk;have hbk:=hh_;clear hh_;have hh_:=zm hb;clear hb;have hb:=hh_;clear hh_
      refine hK.out _ _ (by repeat (first|exact Below.refl _ _|with_reducible apply zlN|with_reducible apply zlA|refine below_step ?_ (Aside0.out (by assumption)))) (fun _=>?_)
      clear hK K
      refine norm_ (a':=?_) ?_ ?_
      rotate_left
      ·show Act.put _ (some 21) _=_
       simp only [Act.put,List.setIfInBounds_toArray,List.set_cons_zero,List.set_cons_succ,i64_w,i32_w]
       rfl
      refine Cw.done1 (i:=4) (N:=some 122) (by simp only [List.getElem?_toArray,List.getElem?_cons_succ,List.getElem?_cons_zero];rfl) rfl (by kernel_rfl) (fun K hK=>?_)
      refine goes_ Try.func38 (by kernel_rfl) rfl _ (by rfl) rfl rfl (by go_simp;rfl) ?_
      refine (api_MapRecord_38.calls k _ _ [rv,l3] _ _ (Cw.C_two (zbB (Aside0.out (by assumption)) (by repeat (first|exact Below.refl _ _|with_reducible apply zlN|with_reducible apply zlA|refine below_step ?_ (Aside0.out (by assumption))))) (Kd.C_below (Aside0.out (by assumption)) (by repeat (first|exact Below.refl _ _|with_reducible apply zlN|with_reducible apply zlA|refine below_step ?_ (Aside0.out (by assumption))))) (Aside0.out (by assumption)) (Kd.C_below (Aside0.out (by assumption)) (by repeat (first|exact Below.refl _ _|with_reducible apply zlN|with_reducible apply zlA|refine below_step ?_ (Aside0.out (by assumption))))) (Aside0.out (by assumption))) (Nat.le_refl _) (Aside0.out (by assumption))).mono ?_
      rintro e w1 ⟨v,rfl,ho0,hb⟩;obtain ⟨A_0,c_0,rfl,hc_0,hr_0⟩:=Kd.R_reads ho0;clear ho0;have hh_:=zm hc_0;clear hc_0;have hc_0:=hh_;clear hh_;have hh_:=zm hr_0;clear hr_0;have hr_0:=hh_;clear hh_;have hh_:=zm hb;clear hb;have hb:=hh_;clear hh_
      refine ⟨_,rfl,?_⟩
      refine hK.out _ _ (by repeat (first|exact Below.refl _ _|with_reducible apply zlN|with_reducible apply zlA|refine below_step ?_ (Aside0.out (by assumption)))) (fun _=>?_)
      clear hK K
      refine norm_ (a':=?_) ?_ ?_
      rotate_left
      ·show Act.put _ (some 122) _=_
       simp only [Act.put,List.setIfInBounds_toArray,List.set_cons_zero,List.set_cons_succ,i64_w,i32_w]
       rfl
      refine Cw.done1 (i:=5) (N:=some 123) (by simp only [List.getElem?_toArray,List.getElem?_cons_succ,List.getElem?_cons_zero];rfl) rfl (by kernel_rfl) (fun K hK=>?_)
      refine goes_ Try.func22 (by kernel_rfl) rfl _ (by rfl) rfl rfl (by go_simp;rfl) ?_
      refine (mapjnl_Apply.calls k _ _ _ _ _ _ _ _ _ _ _ _ _ _ _ (Kd.C_below (Aside0.out (by assumption)) (by repeat (first|exact Below.refl _ _|with_reducible apply zlN|with_reducible apply zlA|refine below_step ?_ (Aside0.out (by assumption))))) (Aside0.out (by assumption)) (Kd.C_below (Aside0.out (by assumption)) (by repeat (first|exact Below.refl _ _|with_reducible apply zlN|with_reducible apply zlA|refine below_step ?_ (Aside0.out (by assumption))))) (Aside0.out (by assumption)) (Kd.C_below (Aside0.out (by assumption)) (by repeat (first|exact Below.refl _ _|with_reducible apply zlN|with_reducible apply zlA|refine below_step ?_ (Aside0.out (by assumption))))) (Aside0.out (by assumption)) (Aside0.out (by assumption))).mono ?_
      rintro e w1 ⟨v0,v1,rfl,ho0,ho1,hb⟩;obtain ⟨A_0,c_0,rfl⟩:=Kd.R_slice ho0;obtain ⟨A_1,c_1,rfl⟩:=Kd.R_slice ho1;have hh_:=zm ho0;clear ho0;have ho0:=hh_;clear hh_;have hh_:=zm ho1;clear ho1;have ho1:=hh_;clear hh_;have hh_:=zm hb;clear hb;have hb:=hh_;clear hh_
      refine ⟨_,rfl,?_⟩
      refine hK.out _ _ (by repeat (first|exact Below.refl _ _|with_reducible apply zlN|with_reducible apply zlA|refine below_step ?_ (Aside0.out (by assumption)))) (fun _=>?_)
      clear hK K
      refine norm_ (a':=?_) ?_ ?_
      rotate_left
      ·show Act.put _ (some 123) _=_
       simp only [Act.put,List.setIfInBounds_toArray,List.set_cons_zero,List.set_cons_succ,i64_w,i32_w]
       rfl
      refine Cw.dpu (i:=6) (v:=?_) (a':=?_) (by simp only [List.getElem?_toArray,List.getElem?_cons_succ,List.getElem?_cons_zero];rfl) rfl (by kernel_rfl) (by rfl) (by exact fun _ _ _ h=>h) ?_ ?_ ?_
      rotate_left
      ·intro w'
       go_simp
       with_reducible rfl
      rotate_left
      ·simp only [Act.put,List.setIfInBounds_toArray,List.set_cons_zero,List.set_cons_succ,i64_w,i32_w]
       rfl
      refine Cw.dpu (i:=7) (v:=?_) (a':=?_) (by simp only [List.getElem?_toArray,List.getElem?_cons_succ,List.getElem?_cons_zero];rfl) rfl (by kernel_rfl) (by rfl) (by exact fun _ _ _ h=>h) ?_ ?_ ?_
      rotate_left
      ·intro w'
       go_simp
       with_reducible rfl
      rotate_left
      ·simp only [Act.put,List.setIfInBounds_toArray,List.set_cons_zero,List.set_cons_succ,i64_w,i32_w]
       rfl
      refine Cw.dpu (i:=8) (v:=?_) (a':=?_) (by simp only [List.getElem?_toArray,List.getElem?_cons_succ,List.getElem?_cons_zero];rfl) rfl (by kernel_rfl) (by rfl) (by exact fun _ _ _ h=>h) ?_ ?_ ?_
      rotate_left
      ·intro w'
       go_simp
       with_reducible rfl
      rotate_left
      ·simp only [Act.put,List.setIfInBounds_toArray,List.set_cons_zero,List.set_cons_succ,i64_w,i32_w]
       rfl
      refine Cw.done1 (i:=10) (N:=none) (by simp only [List.getElem?_toArray,List.getElem?_cons_succ,List.getElem?_cons_zero];rfl) rfl (by kernel_rfl) (fun K hK=>?_)
      refine Cw.dput (g:=gy) (ys:=[.slice A_0 y0.length c_0,.slice A_1 y1.length c_1,.int .i64 y2]) (by rfl) rfl ?_ ?_
      ·apply MG_strun
       ·rfl
       ·rfl
       ·rfl
       ·exact (show _=some (Obj.cells #[.slice none 0 0,.slice none 0 0,.int .i64 0] 25 (0,0)) from (zbB (Aside0.out (by assumption)) (by repeat (first|exact Below.refl _ _|with_reducible apply zlN|with_reducible apply zlA|refine below_step ?_ (Aside0.out (by assumption))))))
      rintro w2 hw2
      have hb2:Aside0 (Below wd.heap.size wd w2):=⟨by rw [hw2];exact Cw.setL_below (Aside0.out (by assumption)) _ _ _ (by repeat (first|exact Below.refl _ _|with_reducible apply zlN|with_reducible apply zlA|refine below_step ?_ (Aside0.out (by assumption))))⟩
      have hr0:Aside0 (Kd.C Kd.bool w2 A_0 y0.length y0):=⟨by rw [hw2];exact (Kd.R_reads' (Cw.setL_R (Kd.R_below ho0.out (by repeat (first|exact Below.refl _ _|with_reducible apply zlN|with_reducible apply zlA|refine below_step ?_ (Aside0.out (by assumption))))) (show _=some (Obj.cells #[.slice none 0 0,.slice none 0 0,.int .i64 0] 25 (0,0)) from (zbB (Aside0.out (by assumption)) (by repeat (first|exact Below.refl _ _|with_reducible apply zlN|with_reducible apply zlA|refine below_step ?_ (Aside0.out (by assumption)))))) (by intro q hq;simp [Kd.bool,Kd.int,Kd.scalar] at hq;omega) 0 [.slice A_0 y0.length c_0,.slice A_1 y1.length c_1,.int .i64 y2])).2.2⟩
      have hr1:Aside0 (Kd.C (Kd.int .i64) w2 A_1 y1.length y1):=⟨by rw [hw2];exact (Kd.R_reads' (Cw.setL_R (Kd.R_below ho1.out (by repeat (first|exact Below.refl _ _|with_reducible apply zlN|with_reducible apply zlA|refine below_step ?_ (Aside0.out (by assumption))))) (show _=some (Obj.cells #[.slice none 0 0,.slice none 0 0,.int .i64 0] 25 (0,0)) from (zbB (Aside0.out (by assumption)) (by repeat (first|exact Below.refl _ _|with_reducible apply zlN|with_reducible apply zlA|refine below_step ?_ (Aside0.out (by assumption)))))) (by intro q hq;simp [Kd.bool,Kd.int,Kd.scalar] at hq;omega) 0 [.slice A_0 y0.length c_0,.slice A_1 y1.length c_1,.int .i64 y2])).2.2⟩
      have hc0:Aside0 (y0.length≤c_0):=⟨(Kd.R_reads' ho0.out).2.1⟩
      have hc1:Aside0 (y1.length≤c_1):=⟨(Kd.R_reads' ho1.out).2.1⟩
      have hbk:Aside0 (w2.heap[gy]?=some (.cells #[.slice A_0 y0.length c_0,.slice A_1 y1.length c_1,.int .i64 y2] 25 (0,0))):=⟨by rw [hw2];exact Cw.setL_blk [.slice A_0 y0.length c_0,.slice A_1 y1.length c_1,.int .i64 y2] 0 _ _ (show _=some (Obj.cells #[.slice none 0 0,.slice none 0 0,.int .i64 0] 25 (0,0)) from (zbB (Aside0.out (by assumption)) (by repeat (first|exact Below.refl _ _|with_reducible apply zlN|with_reducible apply zlA|refine below_step ?_ (Aside0.out (by assumption))))))⟩
      clear hw2 ho0 ho1
      refine hK.out _ _ hb2.out (fun _=>?_)
      clear hK K
      refine Cw.dpu (i:=11) (v:=?_) (a':=?_) (by simp only [List.getElem?_toArray,List.getElem?_cons_succ,List.getElem?_cons_zero];rfl) rfl (by kernel_rfl) (by rfl) (by exact fun _ _ _ h=>h) ?_ ?_ ?_
      rotate_left
      ·intro w'
       go_simp
       with_reducible rfl
      rotate_left
      ·simp only [Act.put,List.setIfInBounds_toArray,List.set_cons_zero,List.set_cons_succ,i64_w,i32_w]
       rfl
      refine done_ (by kernel_rfl) ?_
      go_wp2_with (first|((with_reducible refine gate_ (.load 25 _) rfl ?_);refine MG_ld rfl rfl rfl (zbB (Aside0.out (by assumption)) (by repeat (first|exact Below.refl _ _|with_reducible apply zlN|with_reducible apply zlA|refine below_step ?_ (Aside0.out (by assumption))))) ?_)|((with_reducible refine gate_ (.alloc 25) rfl ?_);refine Cw.box_store rfl rfl rfl rfl rfl rfl (by first|(go_simp;done)|(go_simp;rfl)) (by first|(go_simp;done)|(go_simp;rfl)) ?_;rintro g hg w1 hbk hb;clear hg;have hh_:=zm hbk;clear hbk;have hbk:=hh_;clear hh_;have hh_:=zm hb;clear hb;have hb:=hh_;clear hh_)|(go_at_call 13;refine (mapjnl_Join.calls k _ _ _ _ _ _ _ _ _ _ _ _ _ _ _ _ _ _ _ (Kd.C_below (Aside0.out (by assumption)) (by repeat (first|exact Below.refl _ _|with_reducible apply zlN|with_reducible apply zlA|refine below_step ?_ (Aside0.out (by assumption))))) (Aside0.out (by assumption)) (Kd.C_below (Aside0.out (by assumption)) (by repeat (first|exact Below.refl _ _|with_reducible apply zlN|with_reducible apply zlA|refine below_step ?_ (Aside0.out (by assumption))))) (Aside0.out (by assumption)) (Kd.C_below (Aside0.out (by assumption)) (by repeat (first|exact Below.refl _ _|with_reducible apply zlN|with_reducible apply zlA|refine below_step ?_ (Aside0.out (by assumption))))) (Aside0.out (by assumption)) (Kd.C_below (Aside0.out (by assumption)) (by repeat (first|exact Below.refl _ _|with_reducible apply zlN|with_reducible apply zlA|refine below_step ?_ (Aside0.out (by assumption))))) (Aside0.out (by assumption)) (Aside0.out (by assumption))).mono ?_;rintro e w1 ⟨v0,v1,rfl,ho0,ho1,hb⟩;obtain ⟨A_0,c_0,rfl,hc_0,hr_0⟩:=Kd.R_reads ho0;clear ho0;have hh_:=zm hc_0;clear hc_0;have hc_0:=hh_;clear hh_;have hh_:=zm hr_0;clear hr_0;have hr_0:=hh_;clear hh_;obtain ⟨A_1,c_1,rfl,hc_1,hr_1⟩:=Kd.R_reads ho1;clear ho1;have hh_:=zm hc_1;clear hc_1;have hc_1:=hh_;clear hh_;have hh_:=zm hr_1;clear hr_1;have hr_1:=hh_;clear hh_;have hh_:=zm hb;clear hb;have hb:=hh_;clear hh_)|(go_at_call 16;refine (slipwayref06_Same.calls k _ _ _ _ _ _ _ _ _ _ _ _ _ _ _ _ (Kd.C_below (Aside0.out (by assumption)) (by repeat (first|exact Below.refl _ _|with_reducible apply zlN|with_reducible apply zlA|refine below_step ?_ (Aside0.out (by assumption))))) (Aside0.out (by assumption)) (Kd.C_below (Aside0.out (by assumption)) (by repeat (first|exact Below.refl _ _|with_reducible apply zlN|with_reducible apply zlA|refine below_step ?_ (Aside0.out (by assumption))))) (Aside0.out (by assumption)) (Kd.C_below (Aside0.out (by assumption)) (by repeat (first|exact Below.refl _ _|with_reducible apply zlN|with_reducible apply zlA|refine below_step ?_ (Aside0.out (by assumption))))) (Aside0.out (by assumption)) (Kd.C_below (Aside0.out (by assumption)) (by repeat (first|exact Below.refl _ _|with_reducible apply zlN|with_reducible apply zlA|refine below_step ?_ (Aside0.out (by assumption))))) (Aside0.out (by assumption)) (Aside0.out (by assumption))).mono ?_;rintro e w1 ⟨rfl,hb⟩;have hh_:=zm hb;clear hb;have hb:=hh_;clear hh_)|(go_at_call 19;refine (mapjnl_Covers.calls k _ _ _ _ _ _ _ _ _ _ _ _ _ _ _ _ (Kd.C_below (Aside0.out (by assumption)) (by repeat (first|exact Below.refl _ _|with_reducible apply zlN|with_reducible apply zlA|refine below_step ?_ (Aside0.out (by assumption))))) (Aside0.out (by assumption)) (Kd.C_below (Aside0.out (by assumption)) (by repeat (first|exact Below.refl _ _|with_reducible apply zlN|with_reducible apply zlA|refine below_step ?_ (Aside0.out (by assumption))))) (Aside0.out (by assumption)) (Kd.C_below (Aside0.out (by assumption)) (by repeat (first|exact Below.refl _ _|with_reducible apply zlN|with_reducible apply zlA|refine below_step ?_ (Aside0.out (by assumption))))) (Aside0.out (by assumption)) (Kd.C_below (Aside0.out (by assumption)) (by repeat (first|exact Below.refl _ _|with_reducible apply zlN|with_reducible apply zlA|refine below_step ?_ (Aside0.out (by assumption))))) (Aside0.out (by assumption)) (Aside0.out (by assumption))).mono ?_;rintro e w1 ⟨rfl,hb⟩;have hh_:=zm hb;clear hb;have hb:=hh_;clear hh_)|(go_at_call 22;refine (mapjnl_Apply.calls k _ _ _ _ _ _ _ _ _ _ _ _ _ _ _ (Kd.C_below (Aside0.out (by assumption)) (by repeat (first|exact Below.refl _ _|with_reducible apply zlN|with_reducible apply zlA|refine below_step ?_ (Aside0.out (by assumption))))) (Aside0.out (by assumption)) (Kd.C_below (Aside0.out (by assumption)) (by repeat (first|exact Below.refl _ _|with_reducible apply zlN|with_reducible apply zlA|refine below_step ?_ (Aside0.out (by assumption))))) (Aside0.out (by assumption)) (Kd.C_below (Aside0.out (by assumption)) (by repeat (first|exact Below.refl _ _|with_reducible apply zlN|with_reducible apply zlA|refine below_step ?_ (Aside0.out (by assumption))))) (Aside0.out (by assumption)) (Aside0.out (by assumption))).mono ?_;rintro e w1 ⟨v0,v1,rfl,ho0,ho1,hb⟩;obtain ⟨A_0,c_0,rfl,hc_0,hr_0⟩:=Kd.R_reads ho0;clear ho0;have hh_:=zm hc_0;clear hc_0;have hc_0:=hh_;clear hh_;have hh_:=zm hr_0;clear hr_0;have hr_0:=hh_;clear hh_;obtain ⟨A_1,c_1,rfl,hc_1,hr_1⟩:=Kd.R_reads ho1;clear ho1;have hh_:=zm hc_1;clear hc_1;have hc_1:=hh_;clear hh_;have hh_:=zm hr_1;clear hr_1;have hr_1:=hh_;clear hh_;have hh_:=zm hb;clear hb;have hb:=hh_;clear hh_)|((with_reducible refine Cw.guarded rfl ?gw ?_);(case gw=>first|rfl|(go_simp;done));dsimp only))
      go_ret
      exact ⟨rfl,(by repeat (first|exact Below.refl _ _|with_reducible apply zlN|with_reducible apply zlA|refine below_step ?_ (Aside0.out (by assumption))))⟩
    ·refine Cw.dnew (fun g=>.pointer (some ⟨g,0,none⟩)) (by rfl) rfl (by apply MG_new;rfl) ?_
     rintro gy hg w1 hbk hb
     have hge:Aside0 (wd.heap.size≤gy):=⟨Nat.le_trans (below_size (by repeat (first|exact Below.refl _ _|with_reducible apply zlN|with_reducible apply zlA|refine below_step ?_ (Aside0.out (by assumption))))) (Nat.le_of_eq hg.symm)⟩
     clear hg
     have hh_:=zm hbk;clear hbk;have hbk:=hh_;clear hh_;have hh_:=zm hb;clear hb;have hb:=hh_;clear hh_
     refine hK.out _ _ (by repeat (first|exact Below.refl _ _|with_reducible apply zlN|with_reducible apply zlA|refine below_step ?_ (Aside0.out (by assumption)))) (fun _=>?_)
     clear hK K
     refine norm_ (a':=?_) ?_ ?_
     rotate_left
     ·show Act.put _ (some 21) _=_
      simp only [Act.put,List.setIfInBounds_toArray,List.set_cons_zero,List.set_cons_succ,i64_w,i32_w]
      rfl
     refine Cw.done1 (i:=3) (N:=some 121) (by simp only [List.getElem?_toArray,List.getElem?_cons_succ,List.getElem?_cons_zero];rfl) rfl (by kernel_rfl) (fun K hK=>?_)
     refine Cw.dnew (fun g=>.slice (some ⟨g,0,none⟩) 2 2) (by rfl) rfl (by apply MG_two <;> rfl) ?_
     rintro gl hg w1 hbk hb
     have hge:Aside0 (wd.heap.size≤gl):=⟨Nat.le_trans (below_size (by repeat (first|exact Below.refl _ _|with_reducible apply zlN|with_reducible apply zlA|refine below_step ?_ (Aside0.out (by assumption))))) (Nat.le_of_eq hg.symm)⟩
     clear hg
     have hh_:=zm hbk;clear hbk;have hbk:=hh_;clear hh_;have hh_:=zm hb;clear hb;have hb:=hh_;clear hh_
     refine hK.out _ _ (by repeat (first|exact Below.refl _ _|with_reducible apply zlN|with_reducible apply zlA|refine below_step ?_ (Aside0.out (by assumption)))) (fun _=>?_)
     clear hK K
     refine norm_ (a':=?_) ?_ ?_
     rotate_left
     ·show Act.put _ (some 121) _=_
      simp only [Act.put,List.setIfInBounds_toArray,List.set_cons_zero,List.set_cons_succ,i64_w,i32_w]
      rfl
     refine Cw.done1 (i:=4) (N:=some 122) (by simp only [List.getElem?_toArray,List.getElem?_cons_succ,List.getElem?_cons_zero];rfl) rfl (by kernel_rfl) (fun K hK=>?_)
     refine goes_ Try.func38 (by kernel_rfl) rfl _ (by rfl) rfl rfl (by go_simp;rfl) ?_
     refine (api_MapRecord_38.calls k _ _ [rv,l3] _ _ (Cw.C_two (zbB (Aside0.out (by assumption)) (by repeat (first|exact Below.refl _ _|with_reducible apply zlN|with_reducible apply zlA|refine below_step ?_ (Aside0.out (by assumption))))) (Kd.C_below (Aside0.out (by assumption)) (by repeat (first|exact Below.refl _ _|with_reducible apply zlN|with_reducible apply zlA|refine below_step ?_ (Aside0.out (by assumption))))) (Aside0.out (by assumption)) (Kd.C_below (Aside0.out (by assumption)) (by repeat (first|exact Below.refl _ _|with_reducible apply zlN|with_reducible apply zlA|refine below_step ?_ (Aside0.out (by assumption))))) (Aside0.out (by assumption))) (Nat.le_refl _) (Aside0.out (by assumption))).mono ?_
     rintro e w1 ⟨v,rfl,ho0,hb⟩;obtain ⟨A_0,c_0,rfl,hc_0,hr_0⟩:=Kd.R_reads ho0;clear ho0;have hh_:=zm hc_0;clear hc_0;have hc_0:=hh_;clear hh_;have hh_:=zm hr_0;clear hr_0;have hr_0:=hh_;clear hh_;have hh_:=zm hb;clear hb;have hb:=hh_;clear hh_
     refine ⟨_,rfl,?_⟩
     refine hK.out _ _ (by repeat (first|exact Below.refl _ _|with_reducible apply zlN|with_reducible apply zlA|refine below_step ?_ (Aside0.out (by assumption)))) (fun _=>?_)
     clear hK K
     refine norm_ (a':=?_) ?_ ?_
     rotate_left
     ·show Act.put _ (some 122) _=_
      simp only [Act.put,List.setIfInBounds_toArray,List.set_cons_zero,List.set_cons_succ,i64_w,i32_w]
      rfl
     refine Cw.done1 (i:=5) (N:=some 123) (by simp only [List.getElem?_toArray,List.getElem?_cons_succ,List.getElem?_cons_zero];rfl) rfl (by kernel_rfl) (fun K hK=>?_)
     refine goes_ Try.func22 (by kernel_rfl) rfl _ (by rfl) rfl rfl (by go_simp;rfl) ?_
     refine (mapjnl_Apply.calls k _ _ _ _ _ _ _ _ _ _ _ _ _ _ _ (Kd.C_below (Aside0.out (by assumption)) (by repeat (first|exact Below.refl _ _|with_reducible apply zlN|with_reducible apply zlA|refine below_step ?_ (Aside0.out (by assumption))))) (Aside0.out (by assumption)) (Kd.C_below (Aside0.out (by assumption)) (by repeat (first|exact Below.refl _ _|with_reducible apply zlN|with_reducible apply zlA|refine below_step ?_ (Aside0.out (by assumption))))) (Aside0.out (by assumption)) (Kd.C_below (Aside0.out (by assumption)) (by repeat (first|exact Below.refl _ _|with_reducible apply zlN|with_reducible apply zlA|refine below_step ?_ (Aside0.out (by assumption))))) (Aside0.out (by assumption)) (Aside0.out (by assumption))).mono ?_
     rintro e w1 ⟨v0,v1,rfl,ho0,ho1,hb⟩;obtain ⟨A_0,c_0,rfl⟩:=Kd.R_slice ho0;obtain ⟨A_1,c_1,rfl⟩:=Kd.R_slice ho1;have hh_:=zm ho0;clear ho0;have ho0:=hh_;clear hh_;have hh_:=zm ho1;clear ho1;have ho1:=hh_;clear hh_;have hh_:=zm hb;clear hb;have hb:=hh_;clear hh_
     refine ⟨_,rfl,?_⟩
     refine hK.out _ _ (by repeat (first|exact Below.refl _ _|with_reducible apply zlN|with_reducible apply zlA|refine below_step ?_ (Aside0.out (by assumption)))) (fun _=>?_)
     clear hK K
     refine norm_ (a':=?_) ?_ ?_
     rotate_left
     ·show Act.put _ (some 123) _=_
      simp only [Act.put,List.setIfInBounds_toArray,List.set_cons_zero,List.set_cons_succ,i64_w,i32_w]
      rfl
     refine Cw.dpu (i:=6) (v:=?_) (a':=?_) (by simp only [List.getElem?_toArray,List.getElem?_cons_succ,List.getElem?_cons_zero];rfl) rfl (by kernel_rfl) (by rfl) (by exact fun _ _ _ h=>h) ?_ ?_ ?_
     rotate_left
     ·intro w'
      go_simp
      with_reducible rfl
     rotate_left
     ·simp only [Act.put,List.setIfInBounds_toArray,List.set_cons_zero,List.set_cons_succ,i64_w,i32_w]
      rfl
     refine Cw.dpu (i:=7) (v:=?_) (a':=?_) (by simp only [List.getElem?_toArray,List.getElem?_cons_succ,List.getElem?_cons_zero];rfl) rfl (by kernel_rfl) (by rfl) (by exact fun _ _ _ h=>h) ?_ ?_ ?_
     rotate_left
     ·intro w'
      go_simp
      with_reducible rfl
     rotate_left
     ·simp only [Act.put,List.setIfInBounds_toArray,List.set_cons_zero,List.set_cons_succ,i64_w,i32_w]
      rfl
     refine Cw.dpu (i:=8) (v:=?_) (a':=?_) (by simp only [List.getElem?_toArray,List.getElem?_cons_succ,List.getElem?_cons_zero];rfl) rfl (by kernel_rfl) (by rfl) (by exact fun _ _ _ h=>h) ?_ ?_ ?_
     rotate_left
     ·intro w'
      go_simp
      with_reducible rfl
     rotate_left
     ·simp only [Act.put,List.setIfInBounds_toArray,List.set_cons_zero,List.set_cons_succ,i64_w,i32_w]
      rfl
     refine Cw.done1 (i:=10) (N:=none) (by simp only [List.getElem?_toArray,List.getElem?_cons_succ,List.getElem?_cons_zero];rfl) rfl (by kernel_rfl) (fun K hK=>?_)
     refine Cw.dput (g:=gy) (ys:=[.slice A_0 y0.length c_0,.slice A_1 y1.length c_1,.int .i64 y2]) (by rfl) rfl ?_ ?_
     ·apply MG_strun
      ·rfl
      ·rfl
      ·rfl
      ·exact (show _=some (Obj.cells #[.slice none 0 0,.slice none 0 0,.int .i64 0] 25 (0,0)) from (zbB (Aside0.out (by assumption)) (by repeat (first|exact Below.refl _ _|with_reducible apply zlN|with_reducible apply zlA|refine below_step ?_ (Aside0.out (by assumption))))))
     rintro w2 hw2
     have hb2:Aside0 (Below wd.heap.size wd w2):=⟨by rw [hw2];exact Cw.setL_below (Aside0.out (by assumption)) _ _ _ (by repeat (first|exact Below.refl _ _|with_reducible apply zlN|with_reducible apply zlA|refine below_step ?_ (Aside0.out (by assumption))))⟩
     have hr0:Aside0 (Kd.C Kd.bool w2 A_0 y0.length y0):=⟨by rw [hw2];exact (Kd.R_reads' (Cw.setL_R (Kd.R_below ho0.out (by repeat (first|exact Below.refl _ _|with_reducible apply zlN|with_reducible apply zlA|refine below_step ?_ (Aside0.out (by assumption))))) (show _=some (Obj.cells #[.slice none 0 0,.slice none 0 0,.int .i64 0] 25 (0,0)) from (zbB (Aside0.out (by assumption)) (by repeat (first|exact Below.refl _ _|with_reducible apply zlN|with_reducible apply zlA|refine below_step ?_ (Aside0.out (by assumption)))))) (by intro q hq;simp [Kd.bool,Kd.int,Kd.scalar] at hq;omega) 0 [.slice A_0 y0.length c_0,.slice A_1 y1.length c_1,.int .i64 y2])).2.2⟩
     have hr1:Aside0 (Kd.C (Kd.int .i64) w2 A_1 y1.length y1):=⟨by rw [hw2];exact (Kd.R_reads' (Cw.setL_R (Kd.R_below ho1.out (by repeat (first|exact Below.refl _ _|with_reducible apply zlN|with_reducible apply zlA|refine below_step ?_ (Aside0.out (by assumption))))) (show _=some (Obj.cells #[.slice none 0 0,.slice none 0 0,.int .i64 0] 25 (0,0)) from (zbB (Aside0.out (by assumption)) (by repeat (first|exact Below.refl _ _|with_reducible apply zlN|with_reducible apply zlA|refine below_step ?_ (Aside0.out (by assumption)))))) (by intro q hq;simp [Kd.bool,Kd.int,Kd.scalar] at hq;omega) 0 [.slice A_0 y0.length c_0,.slice A_1 y1.length c_1,.int .i64 y2])).2.2⟩
     have hc0:Aside0 (y0.length≤c_0):=⟨(Kd.R_reads' ho0.out).2.1⟩
     have hc1:Aside0 (y1.length≤c_1):=⟨(Kd.R_reads' ho1.out).2.1⟩
     have hbk:Aside0 (w2.heap[gy]?=some (.cells #[.slice A_0 y0.length c_0,.slice A_1 y1.length c_1,.int .i64 y2] 25 (0,0))):=⟨by rw [hw2];exact Cw.setL_blk [.slice A_0 y0.length c_0,.slice A_1 y1.length c_1,.int .i64 y2] 0 _ _ (show _=some (Obj.cells #[.slice none 0 0,.slice none 0 0,.int .i64 0] 25 (0,0)) from (zbB (Aside0.out (by assumption)) (by repeat (first|exact Below.refl _ _|with_reducible apply zlN|with_reducible apply zlA|refine below_step ?_ (Aside0.out (by assumption))))))⟩
     clear hw2 ho0 ho1
     refine hK.out _ _ hb2.out (fun _=>?_)
     clear hK K
     refine Cw.dpu (i:=11) (v:=?_) (a':=?_) (by simp only [List.getElem?_toArray,List.getElem?_cons_succ,List.getElem?_cons_zero];rfl) rfl (by kernel_rfl) (by rfl) (by exact fun _ _ _ h=>h) ?_ ?_ ?_
     rotate_left
     ·intro w'
      go_simp
      with_reducible rfl
     rotate_left
     ·simp only [Act.put,List.setIfInBounds_toArray,List.set_cons_zero,List.set_cons_succ,i64_w,i32_w]
      rfl
     refine done_ (by kernel_rfl) ?_
     go_wp2_with (first|((with_reducible refine gate_ (.load 25 _) rfl ?_);refine MG_ld rfl rfl rfl (zbB (Aside0.out (by assumption)) (by repeat (first|exact Below.refl _ _|with_reducible apply zlN|with_reducible apply zlA|refine below_step ?_ (Aside0.out (by assumption))))) ?_)|((with_reducible refine gate_ (.alloc 25) rfl ?_);refine Cw.box_store rfl rfl rfl rfl rfl rfl (by first|(go_simp;done)|(go_simp;rfl)) (by first|(go_simp;done)|(go_simp;rfl)) ?_;rintro g hg w1 hbk hb;clear hg;have hh_:=zm hbk;clear hbk;have hbk:=hh_;clear hh_;have hh_:=zm hb;clear hb;have hb:=hh_;clear hh_)|(go_at_call 13;refine (mapjnl_Join.calls k _ _ _ _ _ _ _ _ _ _ _ _ _ _ _ _ _ _ _ (Kd.C_below (Aside0.out (by assumption)) (by repeat (first|exact Below.refl _ _|with_reducible apply zlN|with_reducible apply zlA|refine below_step ?_ (Aside0.out (by assumption))))) (Aside0.out (by assumption)) (Kd.C_below (Aside0.out (by assumption)) (by repeat (first|exact Below.refl _ _|with_reducible apply zlN|with_reducible apply zlA|refine below_step ?_ (Aside0.out (by assumption))))) (Aside0.out (by assumption)) (Kd.C_below (Aside0.out (by assumption)) (by repeat (first|exact Below.refl _ _|with_reducible apply zlN|with_reducible apply zlA|refine below_step ?_ (Aside0.out (by assumption))))) (Aside0.out (by assumption)) (Kd.C_below (Aside0.out (by assumption)) (by repeat (first|exact Below.refl _ _|with_reducible apply zlN|with_reducible apply zlA|refine below_step ?_ (Aside0.out (by assumption))))) (Aside0.out (by assumption)) (Aside0.out (by assumption))).mono ?_;rintro e w1 ⟨v0,v1,rfl,ho0,ho1,hb⟩;obtain ⟨A_0,c_0,rfl,hc_0,hr_0⟩:=Kd.R_reads ho0;clear ho0;have hh_:=zm hc_0;clear hc_0;have hc_0:=hh_;clear hh_;have hh_:=zm hr_0;clear hr_0;have hr_0:=hh_;clear hh_;obtain ⟨A_1,c_1,rfl,hc_1,hr_1⟩:=Kd.R_reads ho1;clear ho1;have hh_:=zm hc_1;clear hc_1;have hc_1:=hh_;clear hh_;have hh_:=zm hr_1;clear hr_1;have hr_1:=hh_;clear hh_;have hh_:=zm hb;clear hb;have hb:=hh_;clear hh_)|(go_at_call 16;refine (slipwayref06_Same.calls k _ _ _ _ _ _ _ _ _ _ _ _ _ _ _ _ (Kd.C_below (Aside0.out (by assumption)) (by repeat (first|exact Below.refl _ _|with_reducible apply zlN|with_reducible apply zlA|refine below_step ?_ (Aside0.out (by assumption))))) (Aside0.out (by assumption)) (Kd.C_below (Aside0.out (by assumption)) (by repeat (first|exact Below.refl _ _|with_reducible apply zlN|with_reducible apply zlA|refine below_step ?_ (Aside0.out (by assumption))))) (Aside0.out (by assumption)) (Kd.C_below (Aside0.out (by assumption)) (by repeat (first|exact Below.refl _ _|with_reducible apply zlN|with_reducible apply zlA|refine below_step ?_ (Aside0.out (by assumption))))) (Aside0.out (by assumption)) (Kd.C_below (Aside0.out (by assumption)) (by repeat (first|exact Below.refl _ _|with_reducible apply zlN|with_reducible apply zlA|refine below_step ?_ (Aside0.out (by assumption))))) (Aside0.out (by assumption)) (Aside0.out (by assumption))).mono ?_;rintro e w1 ⟨rfl,hb⟩;have hh_:=zm hb;clear hb;have hb:=hh_;clear hh_)|(go_at_call 19;refine (mapjnl_Covers.calls k _ _ _ _ _ _ _ _ _ _ _ _ _ _ _ _ (Kd.C_below (Aside0.out (by assumption)) (by repeat (first|exact Below.refl _ _|with_reducible apply zlN|with_reducible apply zlA|refine below_step ?_ (Aside0.out (by assumption))))) (Aside0.out (by assumption)) (Kd.C_below (Aside0.out (by assumption)) (by repeat (first|exact Below.refl _ _|with_reducible apply zlN|with_reducible apply zlA|refine below_step ?_ (Aside0.out (by assumption))))) (Aside0.out (by assumption)) (Kd.C_below (Aside0.out (by assumption)) (by repeat (first|exact Below.refl _ _|with_reducible apply zlN|with_reducible apply zlA|refine below_step ?_ (Aside0.out (by assumption))))) (Aside0.out (by assumption)) (Kd.C_below (Aside0.out (by assumption)) (by repeat (first|exact Below.refl _ _|with_reducible apply zlN|with_reducible apply zlA|refine below_step ?_ (Aside0.out (by assumption))))) (Aside0.out (by assumption)) (Aside0.out (by assumption))).mono ?_;rintro e w1 ⟨rfl,hb⟩;have hh_:=zm hb;clear hb;have hb:=hh_;clear hh_)|(go_at_call 22;refine (mapjnl_Apply.calls k _ _ _ _ _ _ _ _ _ _ _ _ _ _ _ (Kd.C_below (Aside0.out (by assumption)) (by repeat (first|exact Below.refl _ _|with_reducible apply zlN|with_reducible apply zlA|refine below_step ?_ (Aside0.out (by assumption))))) (Aside0.out (by assumption)) (Kd.C_below (Aside0.out (by assumption)) (by repeat (first|exact Below.refl _ _|with_reducible apply zlN|with_reducible apply zlA|refine below_step ?_ (Aside0.out (by assumption))))) (Aside0.out (by assumption)) (Kd.C_below (Aside0.out (by assumption)) (by repeat (first|exact Below.refl _ _|with_reducible apply zlN|with_reducible apply zlA|refine below_step ?_ (Aside0.out (by assumption))))) (Aside0.out (by assumption)) (Aside0.out (by assumption))).mono ?_;rintro e w1 ⟨v0,v1,rfl,ho0,ho1,hb⟩;obtain ⟨A_0,c_0,rfl,hc_0,hr_0⟩:=Kd.R_reads ho0;clear ho0;have hh_:=zm hc_0;clear hc_0;have hc_0:=hh_;clear hh_;have hh_:=zm hr_0;clear hr_0;have hr_0:=hh_;clear hh_;obtain ⟨A_1,c_1,rfl,hc_1,hr_1⟩:=Kd.R_reads ho1;clear ho1;have hh_:=zm hc_1;clear hc_1;have hc_1:=hh_;clear hh_;have hh_:=zm hr_1;clear hr_1;have hr_1:=hh_;clear hh_;have hh_:=zm hb;clear hb;have hb:=hh_;clear hh_)|((with_reducible refine Cw.guarded rfl ?gw ?_);(case gw=>first|rfl|(go_simp;done));dsimp only))
     go_ret
     exact ⟨rfl,(by repeat (first|exact Below.refl _ _|with_reducible apply zlN|with_reducible apply zlA|refine below_step ?_ (Aside0.out (by assumption))))⟩
  ·have hz_:e4≠0:=by simpa using (by assumption:(e4 != 0)=true)
   have H:=H.out
   rw [if_neg hz_] at H
   obtain rfl:=Option.some.inj H
   clear H hz_
   go_ret
   exact ⟨rfl,(by repeat (first|exact Below.refl _ _|with_reducible apply zlN|with_reducible apply zlA|refine below_step ?_ (Aside0.out (by assumption))))⟩
  ·have hz4:e4=0:=by simpa using (by assumption:(e4 != 0)=false)
   have H:=H.out
   rw [if_pos hz4] at H;clear hz4
   have hg_:=Option.bind_eq_some_iff.mp H;clear H;obtain ⟨bk,F11,H⟩:=hg_;have hh_:=zm F11;clear F11;have F11:=hh_;clear hh_;(try dsimp only at H);have hg_:=Option.bind_eq_some_iff.mp H;clear H;obtain ⟨rv,F12,H⟩:=hg_;have hh_:=zm F12;clear F12;have F12:=hh_;clear hh_;(try dsimp only at H);have hg_:=Option.bind_eq_some_iff.mp H;clear H;obtain ⟨cc,F13,H⟩:=hg_;have hh_:=zm F13;clear F13;have F13:=hh_;clear hh_;(try dsimp only at H);have hg_:=Option.bind_eq_some_iff.mp H;clear H;obtain ⟨⟨y0,y1,y2,e5⟩,F14,H⟩:=hg_;have hh_:=zm F14;clear F14;have F14:=hh_;clear hh_;(try dsimp only at H);have hg_:=Cw.gt_ H;clear H;obtain ⟨rfl,H⟩:=hg_;have hg_:=Option.bind_eq_some_iff.mp H;clear H;obtain ⟨t6,F15,H⟩:=hg_;have hh_:=zm F15;clear F15;have F15:=hh_;clear hh_;(try dsimp only at H);have hg_:=Cw.gt_ H;clear H;obtain ⟨rfl,H⟩:=hg_;have hg_:=Option.bind_eq_some_iff.mp H;clear H;obtain ⟨t7,F16,H⟩:=hg_;have hh_:=zm F16;clear F16;have F16:=hh_;clear hh_;(try dsimp only at H);have hg_:=Cw.gt_ H;clear H;obtain ⟨rfl,H⟩:=hg_
   obtain rfl:=Option.some.inj H
   clear H
   go_wp2_with (first|(go_at_call 36;refine (api_MapRecord_36.calls _ _ _ _ _ (Kd.C_below (Aside0.out (by assumption)) (by repeat (first|exact Below.refl _ _|with_reducible apply zlN|with_reducible apply zlA|refine below_step ?_ (Aside0.out (by assumption))))) (Aside0.out (by assumption)) (Aside0.out (by assumption))).mono ?_;rintro e w1 ⟨v,rfl,ho,hb⟩;have hh_:=zm ho;clear ho;have ho:=hh_;clear hh_;have hh_:=zm hb;clear hb;have hb:=hh_;clear hh_)|(go_at_call 37;refine (api_MapRecord_37.calls k _ _ _ _ _ _ (Aside0.out (by assumption)) (Aside0.out (by assumption)) (Aside0.out (by assumption))).mono ?_;rintro e w1 ⟨rfl,ho0,hb,_⟩;obtain ⟨A_0,c_0,rfl,hc_0,hr_0⟩:=Kd.R_reads ho0;clear ho0;have hh_:=zm hc_0;clear hc_0;have hc_0:=hh_;clear hh_;have hh_:=zm hr_0;clear hr_0;have hr_0:=hh_;clear hh_;have hh_:=zm hb;clear hb;have hb:=hh_;clear hh_))
   refine Cw.dstart (by kernel_rfl) rfl (fun wd hb=>?_)
   have hh_:=zm hb;clear hb;have hb:=hh_;clear hh_
   refine Cw.dpu (i:=1) (v:=?_) (a':=?_) (by simp only [List.getElem?_toArray,List.getElem?_cons_succ,List.getElem?_cons_zero];rfl) rfl (by kernel_rfl) (by rfl) (by exact fun _ _ _ h=>h) ?_ ?_ ?_
   rotate_left
   ·intro w'
    go_simp
    with_reducible rfl
   rotate_left
   ·simp only [Act.put,List.setIfInBounds_toArray,List.set_cons_zero,List.set_cons_succ,i64_w,i32_w]
    rfl
   refine Cw.dpu (i:=2) (v:=?_) (a':=?_) (by simp only [List.getElem?_toArray,List.getElem?_cons_succ,List.getElem?_cons_zero];rfl) rfl (by kernel_rfl) (by rfl) (by exact fun _ _ _ h=>h) ?_ ?_ ?_
   rotate_left
   ·intro w'
    go_simp
    with_reducible rfl
   rotate_left
   ·simp only [Act.put,List.setIfInBounds_toArray,List.set_cons_zero,List.set_cons_succ,i64_w,i32_w]
    rfl
   refine Cw.dtk (i:=0) (v:=?_) (a':=?_) (by simp only [List.getElem?_toArray,List.getElem?_cons_succ,List.getElem?_cons_zero];rfl) rfl (by kernel_rfl) (by rfl) (by exact fun _ _ _ h=>h) ?_ (by repeat (first|exact Below.refl _ _|with_reducible apply zlN|with_reducible apply zlA|refine below_step ?_ (Aside0.out (by assumption)))) ?_ ?_
   rotate_left
   ·intro w' hs_
    have hs:=zm hs_
    clear hs_
    apply Eq.trans
    ·apply MG_ldrun
     ·rfl
     ·rfl
     ·exact (zbB (Aside0.out (by assumption)) (by repeat (first|exact Below.refl _ _|with_reducible apply zlN|with_reducible apply zlA|refine below_step ?_ (Aside0.out (by assumption)))))
    ·rfl
   rotate_left
   ·simp only [Act.put,List.setIfInBounds_toArray,List.set_cons_zero,List.set_cons_succ,i64_w,i32_w]
    rfl
   refine Cw.done2 (i:=3) (j:=9) (Ni:=some 121) (Nj:=some 21) (by simp only [List.getElem?_toArray,List.getElem?_cons_succ,List.getElem?_cons_zero];rfl) (by simp only [List.getElem?_toArray,List.getElem?_cons_succ,List.getElem?_cons_zero];rfl) rfl rfl (by kernel_rfl) (fun K hK=>?_) (fun K hK=>?_)
   ·refine Cw.dnew (fun g=>.slice (some ⟨g,0,none⟩) 2 2) (by rfl) rfl (by apply MG_two <;> rfl) ?_
    rintro gl hg w1 hbk hb
    have hge:Aside0 (wd.heap.size≤gl):=⟨Nat.le_trans (below_size (by repeat (first|exact Below.refl _ _|with_reducible apply zlN|with_reducible apply zlA|refine below_step ?_ (Aside0.out (by assumption))))) (Nat.le_of_eq hg.symm)⟩
    clear hg
    have hh_:=zm hbk;clear hbk;have hbk:=hh_;clear hh_;have hh_:=zm hb;clear hb;have hb:=hh_;clear hh_
    refine hK.out _ _ (by repeat (first|exact Below.refl _ _|with_reducible apply zlN|with_reducible apply zlA|refine below_step ?_ (Aside0.out (by assumption)))) (fun _=>?_)
    clear hK K
    refine norm_ (a':=?_) ?_ ?_
    rotate_left
    ·show Act.put _ (some 121) _=_
     simp only [Act.put,List.setIfInBounds_toArray,List.set_cons_zero,List.set_cons_succ,i64_w,i32_w]
     rfl
    refine Cw.done2 (i:=4) (j:=9) (Ni:=some 122) (Nj:=some 21) (by simp only [List.getElem?_toArray,List.getElem?_cons_succ,List.getElem?_cons_zero];rfl) (by simp only [List.getElem?_toArray,List.getElem?_cons_succ,List.getElem?_cons_zero];rfl) rfl rfl (by kernel_rfl) (fun K hK=>?_) (fun K hK=>?_)
    ·refine goes_ Try.func38 (by kernel_rfl) rfl _ (by rfl) rfl rfl (by go_simp;rfl) ?_
     refine (api_MapRecord_38.calls k _ _ [rv,l3] _ _ (Cw.C_two (zbB (Aside0.out (by assumption)) (by repeat (first|exact Below.refl _ _|with_reducible apply zlN|with_reducible apply zlA|refine below_step ?_ (Aside0.out (by assumption))))) (Kd.C_below (Aside0.out (by assumption)) (by repeat (first|exact Below.refl _ _|with_reducible apply zlN|with_reducible apply zlA|refine below_step ?_ (Aside0.out (by assumption))))) (Aside0.out (by assumption)) (Kd.C_below (Aside0.out (by assumption)) (by repeat (first|exact Below.refl _ _|with_reducible apply zlN|with_reducible apply zlA|refine below_step ?_ (Aside0.out (by assumption))))) (Aside0.out (by assumption))) (Nat.le_refl _) (Aside0.out (by assumption))).mono ?_
     rintro e w1 ⟨v,rfl,ho0,hb⟩;obtain ⟨A_0,c_0,rfl,hc_0,hr_0⟩:=Kd.R_reads ho0;clear ho0;have hh_:=zm hc_0;clear hc_0;have hc_0:=hh_;clear hh_;have hh_:=zm hr_0;clear hr_0;have hr_0:=hh_;clear hh_;have hh_:=zm hb;clear hb;have hb:=hh_;clear hh_
     refine ⟨_,rfl,?_⟩
     refine hK.out _ _ (by repeat (first|exact Below.refl _ _|with_reducible apply zlN|with_reducible apply zlA|refine below_step ?_ (Aside0.out (by assumption)))) (fun _=>?_)
     clear hK K
     refine norm_ (a':=?_) ?_ ?_
     rotate_left
     ·show Act.put _ (some 122) _=_
      simp only [Act.put,List.setIfInBounds_toArray,List.set_cons_zero,List.set_cons_succ,i64_w,i32_w]
      rfl
     refine Cw.done2 (i:=5) (j:=9) (Ni:=some 123) (Nj:=some 21) (by simp only [List.getElem?_toArray,List.getElem?_cons_succ,List.getElem?_cons_zero];rfl) (by simp only [List.getElem?_toArray,List.getElem?_cons_succ,List.getElem?_cons_zero];rfl) rfl rfl (by kernel_rfl) (fun K hK=>?_) (fun K hK=>?_)
     ·refine goes_ Try.func22 (by kernel_rfl) rfl _ (by rfl) rfl rfl (by go_simp;rfl) ?_
      refine (mapjnl_Apply.calls k _ _ _ _ _ _ _ _ _ _ _ _ _ _ _ (Kd.C_below (Aside0.out (by assumption)) (by repeat (first|exact Below.refl _ _|with_reducible apply zlN|with_reducible apply zlA|refine below_step ?_ (Aside0.out (by assumption))))) (Aside0.out (by assumption)) (Kd.C_below (Aside0.out (by assumption)) (by repeat (first|exact Below.refl _ _|with_reducible apply zlN|with_reducible apply zlA|refine below_step ?_ (Aside0.out (by assumption))))) (Aside0.out (by assumption)) (Kd.C_below (Aside0.out (by assumption)) (by repeat (first|exact Below.refl _ _|with_reducible apply zlN|with_reducible apply zlA|refine below_step ?_ (Aside0.out (by assumption))))) (Aside0.out (by assumption)) (Aside0.out (by assumption))).mono ?_
      rintro e w1 ⟨v0,v1,rfl,ho0,ho1,hb⟩;obtain ⟨A_0,c_0,rfl⟩:=Kd.R_slice ho0;obtain ⟨A_1,c_1,rfl⟩:=Kd.R_slice ho1;have hh_:=zm ho0;clear ho0;have ho0:=hh_;clear hh_;have hh_:=zm ho1;clear ho1;have ho1:=hh_;clear hh_;have hh_:=zm hb;clear hb;have hb:=hh_;clear hh_
      refine ⟨_,rfl,?_⟩
      refine hK.out _ _ (by repeat (first|exact Below.refl _ _|with_reducible apply zlN|with_reducible apply zlA|refine below_step ?_ (Aside0.out (by assumption)))) (fun _=>?_)
      clear hK K
      refine norm_ (a':=?_) ?_ ?_
      rotate_left
      ·show Act.put _ (some 123) _=_
       simp only [Act.put,List.setIfInBounds_toArray,List.set_cons_zero,List.set_cons_succ,i64_w,i32_w]
       rfl
      refine Cw.dpu (i:=6) (v:=?_) (a':=?_) (by simp only [List.getElem?_toArray,List.getElem?_cons_succ,List.getElem?_cons_zero];rfl) rfl (by kernel_rfl) (by rfl) (by exact fun _ _ _ h=>h) ?_ ?_ ?_
      rotate_left
      ·intro w'
       go_simp
       with_reducible rfl
      rotate_left
      ·simp only [Act.put,List.setIfInBounds_toArray,List.set_cons_zero,List.set_cons_succ,i64_w,i32_w]
       rfl
      refine Cw.dpu (i:=7) (v:=?_) (a':=?_) (by simp only [List.getElem?_toArray,List.getElem?_cons_succ,List.getElem?_cons_zero];rfl) rfl (by kernel_rfl) (by rfl) (by exact fun _ _ _ h=>h) ?_ ?_ ?_
      rotate_left
      ·intro w'
       go_simp
       with_reducible rfl
      rotate_left
      ·simp only [Act.put,List.setIfInBounds_toArray,List.set_cons_zero,List.set_cons_succ,i64_w,i32_w]
       rfl
      refine Cw.dpu (i:=8) (v:=?_) (a':=?_) (by simp only [List.getElem?_toArray,List.getElem?_cons_succ,List.getElem?_cons_zero];rfl) rfl (by kernel_rfl) (by rfl) (by exact fun _ _ _ h=>h) ?_ ?_ ?_
      rotate_left
      ·intro w'
       go_simp
       with_reducible rfl
      rotate_left
      ·simp only [Act.put,List.setIfInBounds_toArray,List.set_cons_zero,List.set_cons_succ,i64_w,i32_w]
       rfl
      refine Cw.done1 (i:=9) (N:=some 21) (by simp only [List.getElem?_toArray,List.getElem?_cons_succ,List.getElem?_cons_zero];rfl) rfl (by kernel_rfl) (fun K hK=>?_)
      refine Cw.dnew (fun g=>.pointer (some ⟨g,0,none⟩)) (by rfl) rfl (by apply MG_new;rfl) ?_
      rintro gy hg w1 hbk hb
      have hge:Aside0 (wd.heap.size≤gy):=⟨Nat.le_trans (below_size (by repeat (first|exact Below.refl _ _|with_reducible apply zlN|with_reducible apply zlA|refine below_step ?_ (Aside0.out (by assumption))))) (Nat.le_of_eq hg.symm)⟩
      clear hg
      have hh_:=zm hbk;clear hbk;have hbk:=hh_;clear hh_;have hh_:=zm hb;clear hb;have hb:=hh_;clear hh_
      refine hK.out _ _ (by repeat (first|exact Below.refl _ _|with_reducible apply zlN|with_reducible apply zlA|refine below_step ?_ (Aside0.out (by assumption)))) (fun _=>?_)
      clear hK K
      refine norm_ (a':=?_) ?_ ?_
      rotate_left
      ·show Act.put _ (some 21) _=_
       simp only [Act.put,List.setIfInBounds_toArray,List.set_cons_zero,List.set_cons_succ,i64_w,i32_w]
       rfl
      refine Cw.done1 (i:=10) (N:=none) (by simp only [List.getElem?_toArray,List.getElem?_cons_succ,List.getElem?_cons_zero];rfl) rfl (by kernel_rfl) (fun K hK=>?_)
      refine Cw.dput (g:=gy) (ys:=[.slice A_0 y0.length c_0,.slice A_1 y1.length c_1,.int .i64 y2]) (by rfl) rfl ?_ ?_
      ·apply MG_strun
       ·rfl
       ·rfl
       ·rfl
       ·exact (show _=some (Obj.cells #[.slice none 0 0,.slice none 0 0,.int .i64 0] 25 (0,0)) from (zbB (Aside0.out (by assumption)) (by repeat (first|exact Below.refl _ _|with_reducible apply zlN|with_reducible apply zlA|refine below_step ?_ (Aside0.out (by assumption))))))
      rintro w2 hw2
      have hb2:Aside0 (Below wd.heap.size wd w2):=⟨by rw [hw2];exact Cw.setL_below (Aside0.out (by assumption)) _ _ _ (by repeat (first|exact Below.refl _ _|with_reducible apply zlN|with_reducible apply zlA|refine below_step ?_ (Aside0.out (by assumption))))⟩
      have hr0:Aside0 (Kd.C Kd.bool w2 A_0 y0.length y0):=⟨by rw [hw2];exact (Kd.R_reads' (Cw.setL_R (Kd.R_below ho0.out (by repeat (first|exact Below.refl _ _|with_reducible apply zlN|with_reducible apply zlA|refine below_step ?_ (Aside0.out (by assumption))))) (show _=some (Obj.cells #[.slice none 0 0,.slice none 0 0,.int .i64 0] 25 (0,0)) from (zbB (Aside0.out (by assumption)) (by repeat (first|exact Below.refl _ _|with_reducible apply zlN|with_reducible apply zlA|refine below_step ?_ (Aside0.out (by assumption)))))) (by intro q hq;simp [Kd.bool,Kd.int,Kd.scalar] at hq;omega) 0 [.slice A_0 y0.length c_0,.slice A_1 y1.length c_1,.int .i64 y2])).2.2⟩
      have hr1:Aside0 (Kd.C (Kd.int .i64) w2 A_1 y1.length y1):=⟨by rw [hw2];exact (Kd.R_reads' (Cw.setL_R (Kd.R_below ho1.out (by repeat (first|exact Below.refl _ _|with_reducible apply zlN|with_reducible apply zlA|refine below_step ?_ (Aside0.out (by assumption))))) (show _=some (Obj.cells #[.slice none 0 0,.slice none 0 0,.int .i64 0] 25 (0,0)) from (zbB (Aside0.out (by assumption)) (by repeat (first|exact Below.refl _ _|with_reducible apply zlN|with_reducible apply zlA|refine below_step ?_ (Aside0.out (by assumption)))))) (by intro q hq;simp [Kd.bool,Kd.int,Kd.scalar] at hq;omega) 0 [.slice A_0 y0.length c_0,.slice A_1 y1.length c_1,.int .i64 y2])).2.2⟩
      have hc0:Aside0 (y0.length≤c_0):=⟨(Kd.R_reads' ho0.out).2.1⟩
      have hc1:Aside0 (y1.length≤c_1):=⟨(Kd.R_reads' ho1.out).2.1⟩
      have hbk:Aside0 (w2.heap[gy]?=some (.cells #[.slice A_0 y0.length c_0,.slice A_1 y1.length c_1,.int .i64 y2] 25 (0,0))):=⟨by rw [hw2];exact Cw.setL_blk [.slice A_0 y0.length c_0,.slice A_1 y1.length c_1,.int .i64 y2] 0 _ _ (show _=some (Obj.cells #[.slice none 0 0,.slice none 0 0,.int .i64 0] 25 (0,0)) from (zbB (Aside0.out (by assumption)) (by repeat (first|exact Below.refl _ _|with_reducible apply zlN|with_reducible apply zlA|refine below_step ?_ (Aside0.out (by assumption))))))⟩
      clear hw2 ho0 ho1
      refine hK.out _ _ hb2.out (fun _=>?_)
      clear hK K
      refine Cw.dpu (i:=11) (v:=?_) (a':=?_) (by simp only [List.getElem?_toArray,List.getElem?_cons_succ,List.getElem?_cons_zero];rfl) rfl (by kernel_rfl) (by rfl) (by exact fun _ _ _ h=>h) ?_ ?_ ?_
      rotate_left
      ·intro w'
       go_simp
       with_reducible rfl
      rotate_left
      ·simp only [Act.put,List.setIfInBounds_toArray,List.set_cons_zero,List.set_cons_succ,i64_w,i32_w]
       rfl
      refine done_ (by kernel_rfl) ?_
      go_wp2_with (first|((with_reducible refine gate_ (.load 25 _) rfl ?_);refine MG_ld rfl rfl rfl (zbB (Aside0.out (by assumption)) (by repeat (first|exact Below.refl _ _|with_reducible apply zlN|with_reducible apply zlA|refine below_step ?_ (Aside0.out (by assumption))))) ?_)|((with_reducible refine gate_ (.alloc 25) rfl ?_);refine Cw.box_store rfl rfl rfl rfl rfl rfl (by first|(go_simp;done)|(go_simp;rfl)) (by first|(go_simp;done)|(go_simp;rfl)) ?_;rintro g hg w1 hbk hb;clear hg;have hh_:=zm hbk;clear hbk;have hbk:=hh_;clear hh_;have hh_:=zm hb;clear hb;have hb:=hh_;clear hh_)|(go_at_call 13;refine (mapjnl_Join.calls k _ _ _ _ _ _ _ _ _ _ _ _ _ _ _ _ _ _ _ (Kd.C_below (Aside0.out (by assumption)) (by repeat (first|exact Below.refl _ _|with_reducible apply zlN|with_reducible apply zlA|refine below_step ?_ (Aside0.out (by assumption))))) (Aside0.out (by assumption)) (Kd.C_below (Aside0.out (by assumption)) (by repeat (first|exact Below.refl _ _|with_reducible apply zlN|with_reducible apply zlA|refine below_step ?_ (Aside0.out (by assumption))))) (Aside0.out (by assumption)) (Kd.C_below (Aside0.out (by assumption)) (by repeat (first|exact Below.refl _ _|with_reducible apply zlN|with_reducible apply zlA|refine below_step ?_ (Aside0.out (by assumption))))) (Aside0.out (by assumption)) (Kd.C_below (Aside0.out (by assumption)) (by repeat (first|exact Below.refl _ _|with_reducible apply zlN|with_reducible apply zlA|refine below_step ?_ (Aside0.out (by assumption))))) (Aside0.out (by assumption)) (Aside0.out (by assumption))).mono ?_;rintro e w1 ⟨v0,v1,rfl,ho0,ho1,hb⟩;obtain ⟨A_0,c_0,rfl,hc_0,hr_0⟩:=Kd.R_reads ho0;clear ho0;have hh_:=zm hc_0;clear hc_0;have hc_0:=hh_;clear hh_;have hh_:=zm hr_0;clear hr_0;have hr_0:=hh_;clear hh_;obtain ⟨A_1,c_1,rfl,hc_1,hr_1⟩:=Kd.R_reads ho1;clear ho1;have hh_:=zm hc_1;clear hc_1;have hc_1:=hh_;clear hh_;have hh_:=zm hr_1;clear hr_1;have hr_1:=hh_;clear hh_;have hh_:=zm hb;clear hb;have hb:=hh_;clear hh_)|(go_at_call 16;refine (slipwayref06_Same.calls k _ _ _ _ _ _ _ _ _ _ _ _ _ _ _ _ (Kd.C_below (Aside0.out (by assumption)) (by repeat (first|exact Below.refl _ _|with_reducible apply zlN|with_reducible apply zlA|refine below_step ?_ (Aside0.out (by assumption))))) (Aside0.out (by assumption)) (Kd.C_below (Aside0.out (by assumption)) (by repeat (first|exact Below.refl _ _|with_reducible apply zlN|with_reducible apply zlA|refine below_step ?_ (Aside0.out (by assumption))))) (Aside0.out (by assumption)) (Kd.C_below (Aside0.out (by assumption)) (by repeat (first|exact Below.refl _ _|with_reducible apply zlN|with_reducible apply zlA|refine below_step ?_ (Aside0.out (by assumption))))) (Aside0.out (by assumption)) (Kd.C_below (Aside0.out (by assumption)) (by repeat (first|exact Below.refl _ _|with_reducible apply zlN|with_reducible apply zlA|refine below_step ?_ (Aside0.out (by assumption))))) (Aside0.out (by assumption)) (Aside0.out (by assumption))).mono ?_;rintro e w1 ⟨rfl,hb⟩;have hh_:=zm hb;clear hb;have hb:=hh_;clear hh_)|(go_at_call 19;refine (mapjnl_Covers.calls k _ _ _ _ _ _ _ _ _ _ _ _ _ _ _ _ (Kd.C_below (Aside0.out (by assumption)) (by repeat (first|exact Below.refl _ _|with_reducible apply zlN|with_reducible apply zlA|refine below_step ?_ (Aside0.out (by assumption))))) (Aside0.out (by assumption)) (Kd.C_below (Aside0.out (by assumption)) (by repeat (first|exact Below.refl _ _|with_reducible apply zlN|with_reducible apply zlA|refine below_step ?_ (Aside0.out (by assumption))))) (Aside0.out (by assumption)) (Kd.C_below (Aside0.out (by assumption)) (by repeat (first|exact Below.refl _ _|with_reducible apply zlN|with_reducible apply zlA|refine below_step ?_ (Aside0.out (by assumption))))) (Aside0.out (by assumption)) (Kd.C_below (Aside0.out (by assumption)) (by repeat (first|exact Below.refl _ _|with_reducible apply zlN|with_reducible apply zlA|refine below_step ?_ (Aside0.out (by assumption))))) (Aside0.out (by assumption)) (Aside0.out (by assumption))).mono ?_;rintro e w1 ⟨rfl,hb⟩;have hh_:=zm hb;clear hb;have hb:=hh_;clear hh_)|(go_at_call 22;refine (mapjnl_Apply.calls k _ _ _ _ _ _ _ _ _ _ _ _ _ _ _ (Kd.C_below (Aside0.out (by assumption)) (by repeat (first|exact Below.refl _ _|with_reducible apply zlN|with_reducible apply zlA|refine below_step ?_ (Aside0.out (by assumption))))) (Aside0.out (by assumption)) (Kd.C_below (Aside0.out (by assumption)) (by repeat (first|exact Below.refl _ _|with_reducible apply zlN|with_reducible apply zlA|refine below_step ?_ (Aside0.out (by assumption))))) (Aside0.out (by assumption)) (Kd.C_below (Aside0.out (by assumption)) (by repeat (first|exact Below.refl _ _|with_reducible apply zlN|with_reducible apply zlA|refine below_step ?_ (Aside0.out (by assumption))))) (Aside0.out (by assumption)) (Aside0.out (by assumption))).mono ?_;rintro e w1 ⟨v0,v1,rfl,ho0,ho1,hb⟩;obtain ⟨A_0,c_0,rfl,hc_0,hr_0⟩:=Kd.R_reads ho0;clear ho0;have hh_:=zm hc_0;clear hc_0;have hc_0:=hh_;clear hh_;have hh_:=zm hr_0;clear hr_0;have hr_0:=hh_;clear hh_;obtain ⟨A_1,c_1,rfl,hc_1,hr_1⟩:=Kd.R_reads ho1;clear ho1;have hh_:=zm hc_1;clear hc_1;have hc_1:=hh_;clear hh_;have hh_:=zm hr_1;clear hr_1;have hr_1:=hh_;clear hh_;have hh_:=zm hb;clear hb;have hb:=hh_;clear hh_)|((with_reducible refine Cw.guarded rfl ?gw ?_);(case gw=>first|rfl|(go_simp;done));dsimp only))
      go_ret
      exact ⟨rfl,(by repeat (first|exact Below.refl _ _|with_reducible apply zlN|with_reducible apply zlA|refine below_step ?_ (Aside0.out (by assumption))))⟩
     ·refine Cw.dnew (fun g=>.pointer (some ⟨g,0,none⟩)) (by rfl) rfl (by apply MG_new;rfl) ?_
      rintro gy hg w1 hbk hb
      have hge:Aside0 (wd.heap.size≤gy):=⟨Nat.le_trans (below_size (by repeat (first|exact Below.refl _ _|with_reducible apply zlN|with_reducible apply zlA|refine below_step ?_ (Aside0.out (by assumption))))) (Nat.le_of_eq hg.symm)⟩
      clear hg
      have hh_:=zm hbk;clear hbk;have hbk:=hh_;clear hh_;have hh_:=zm hb;clear hb;have hb:=hh_;clear hh_
      refine hK.out _ _ (by repeat (first|exact Below.refl _ _|with_reducible apply zlN|with_reducible apply zlA|refine below_step ?_ (Aside0.out (by assumption)))) (fun _=>?_)
      clear hK K
      refine norm_ (a':=?_) ?_ ?_
      rotate_left
      ·show Act.put _ (some 21) _=_
       simp only [Act.put,List.setIfInBounds_toArray,List.set_cons_zero,List.set_cons_succ,i64_w,i32_w]
       rfl
      refine Cw.done1 (i:=5) (N:=some 123) (by simp only [List.getElem?_toArray,List.getElem?_cons_succ,List.getElem?_cons_zero];rfl) rfl (by kernel_rfl) (fun K hK=>?_)
      refine goes_ Try.func22 (by kernel_rfl) rfl _ (by rfl) rfl rfl (by go_simp;rfl) ?_
      refine (mapjnl_Apply.calls k _ _ _ _ _ _ _ _ _ _ _ _ _ _ _ (Kd.C_below (Aside0.out (by assumption)) (by repeat (first|exact Below.refl _ _|with_reducible apply zlN|with_reducible apply zlA|refine below_step ?_ (Aside0.out (by assumption))))) (Aside0.out (by assumption)) (Kd.C_below (Aside0.out (by assumption)) (by repeat (first|exact Below.refl _ _|with_reducible apply zlN|with_reducible apply zlA|refine below_step ?_ (Aside0.out (by assumption))))) (Aside0.out (by assumption)) (Kd.C_below (Aside0.out (by assumption)) (by repeat (first|exact Below.refl _ _|with_reducible apply zlN|with_reducible apply zlA|refine below_step ?_ (Aside0.out (by assumption))))) (Aside0.out (by assumption)) (Aside0.out (by assumption))).mono ?_
      rintro e w1 ⟨v0,v1,rfl,ho0,ho1,hb⟩;obtain ⟨A_0,c_0,rfl⟩:=Kd.R_slice ho0;obtain ⟨A_1,c_1,rfl⟩:=Kd.R_slice ho1;have hh_:=zm ho0;clear ho0;have ho0:=hh_;clear hh_;have hh_:=zm ho1;clear ho1;have ho1:=hh_;clear hh_;have hh_:=zm hb;clear hb;have hb:=hh_;clear hh_
      refine ⟨_,rfl,?_⟩
      refine hK.out _ _ (by repeat (first|exact Below.refl _ _|with_reducible apply zlN|with_reducible apply zlA|refine below_step ?_ (Aside0.out (by assumption)))) (fun _=>?_)
      clear hK K
      refine norm_ (a':=?_) ?_ ?_
      rotate_left
      ·show Act.put _ (some 123) _=_
       simp only [Act.put,List.setIfInBounds_toArray,List.set_cons_zero,List.set_cons_succ,i64_w,i32_w]
       rfl
      refine Cw.dpu (i:=6) (v:=?_) (a':=?_) (by simp only [List.getElem?_toArray,List.getElem?_cons_succ,List.getElem?_cons_zero];rfl) rfl (by kernel_rfl) (by rfl) (by exact fun _ _ _ h=>h) ?_ ?_ ?_
      rotate_left
      ·intro w'
       go_simp
       with_reducible rfl
      rotate_left
      ·simp only [Act.put,List.setIfInBounds_toArray,List.set_cons_zero,List.set_cons_succ,i64_w,i32_w]
       rfl
      refine Cw.dpu (i:=7) (v:=?_) (a':=?_) (by simp only [List.getElem?_toArray,List.getElem?_cons_succ,List.getElem?_cons_zero];rfl) rfl (by kernel_rfl) (by rfl) (by exact fun _ _ _ h=>h) ?_ ?_ ?_
      rotate_left
      ·intro w'
       go_simp
       with_reducible rfl
      rotate_left
      ·simp only [Act.put,List.setIfInBounds_toArray,List.set_cons_zero,List.set_cons_succ,i64_w,i32_w]
       rfl
      refine Cw.dpu (i:=8) (v:=?_) (a':=?_) (by simp only [List.getElem?_toArray,List.getElem?_cons_succ,List.getElem?_cons_zero];rfl) rfl (by kernel_rfl) (by rfl) (by exact fun _ _ _ h=>h) ?_ ?_ ?_
      rotate_left
      ·intro w'
       go_simp
       with_reducible rfl
      rotate_left
      ·simp only [Act.put,List.setIfInBounds_toArray,List.set_cons_zero,List.set_cons_succ,i64_w,i32_w]
       rfl
      refine Cw.done1 (i:=10) (N:=none) (by simp only [List.getElem?_toArray,List.getElem?_cons_succ,List.getElem?_cons_zero];rfl) rfl (by kernel_rfl) (fun K hK=>?_)
      refine Cw.dput (g:=gy) (ys:=[.slice A_0 y0.length c_0,.slice A_1 y1.length c_1,.int .i64 y2]) (by rfl) rfl ?_ ?_
      ·apply MG_strun
       ·rfl
       ·rfl
       ·rfl
       ·exact (show _=some (Obj.cells #[.slice none 0 0,.slice none 0 0,.int .i64 0] 25 (0,0)) from (zbB (Aside0.out (by assumption)) (by repeat (first|exact Below.refl _ _|with_reducible apply zlN|with_reducible apply zlA|refine below_step ?_ (Aside0.out (by assumption))))))
      rintro w2 hw2
      have hb2:Aside0 (Below wd.heap.size wd w2):=⟨by rw [hw2];exact Cw.setL_below (Aside0.out (by assumption)) _ _ _ (by repeat (first|exact Below.refl _ _|with_reducible apply zlN|with_reducible apply zlA|refine below_step ?_ (Aside0.out (by assumption))))⟩
      have hr0:Aside0 (Kd.C Kd.bool w2 A_0 y0.length y0):=⟨by rw [hw2];exact (Kd.R_reads' (Cw.setL_R (Kd.R_below ho0.out (by repeat (first|exact Below.refl _ _|with_reducible apply zlN|with_reducible apply zlA|refine below_step ?_ (Aside0.out (by assumption))))) (show _=some (Obj.cells #[.slice none 0 0,.slice none 0 0,.int .i64 0] 25 (0,0)) from (zbB (Aside0.out (by assumption)) (by repeat (first|exact Below.refl _ _|with_reducible apply zlN|with_reducible apply zlA|refine below_step ?_ (Aside0.out (by assumption)))))) (by intro q hq;simp [Kd.bool,Kd.int,Kd.scalar] at hq;omega) 0 [.slice A_0 y0.length c_0,.slice A_1 y1.length c_1,.int .i64 y2])).2.2⟩
      have hr1:Aside0 (Kd.C (Kd.int .i64) w2 A_1 y1.length y1):=⟨by rw [hw2];exact (Kd.R_reads' (Cw.setL_R (Kd.R_below ho1.out (by repeat (first|exact Below.refl _ _|with_reducible apply zlN|with_reducible apply zlA|refine below_step ?_ (Aside0.out (by assumption))))) (show _=some (Obj.cells #[.slice none 0 0,.slice none 0 0,.int .i64 0] 25 (0,0)) from (zbB (Aside0.out (by assumption)) (by repeat (first|exact Below.refl _ _|with_reducible apply zlN|with_reducible apply zlA|refine below_step ?_ (Aside0.out (by assumption)))))) (by intro q hq;simp [Kd.bool,Kd.int,Kd.scalar] at hq;omega) 0 [.slice A_0 y0.length c_0,.slice A_1 y1.length c_1,.int .i64 y2])).2.2⟩
      have hc0:Aside0 (y0.length≤c_0):=⟨(Kd.R_reads' ho0.out).2.1⟩
      have hc1:Aside0 (y1.length≤c_1):=⟨(Kd.R_reads' ho1.out).2.1⟩
      have hbk:Aside0 (w2.heap[gy]?=some (.cells #[.slice A_0 y0.length c_0,.slice A_1 y1.length c_1,.int .i64 y2] 25 (0,0))):=⟨by rw [hw2];exact Cw.setL_blk [.slice A_0 y0.length c_0,.slice A_1 y1.length c_1,.int .i64 y2] 0 _ _ (show _=some (Obj.cells #[.slice none 0 0,.slice none 0 0,.int .i64 0] 25 (0,0)) from (zbB (Aside0.out (by assumption)) (by repeat (first|exact Below.refl _ _|with_reducible apply zlN|with_reducible apply zlA|refine below_step ?_ (Aside0.out (by assumption))))))⟩
      clear hw2 ho0 ho1
      refine hK.out _ _ hb2.out (fun _=>?_)
      clear hK K
      refine Cw.dpu (i:=11) (v:=?_) (a':=?_) (by simp only [List.getElem?_toArray,List.getElem?_cons_succ,List.getElem?_cons_zero];rfl) rfl (by kernel_rfl) (by rfl) (by exact fun _ _ _ h=>h) ?_ ?_ ?_
      rotate_left
      ·intro w'
       go_simp
       with_reducible rfl
      rotate_left
      ·simp only [Act.put,List.setIfInBounds_toArray,List.set_cons_zero,List.set_cons_succ,i64_w,i32_w]
       rfl
      refine done_ (by kernel_rfl) ?_
      go_wp2_with (first|((with_reducible refine gate_ (.load 25 _) rfl ?_);refine MG_ld rfl rfl rfl (zbB (Aside0.out (by assumption)) (by repeat (first|exact Below.refl _ _|with_reducible apply zlN|with_reducible apply zlA|refine below_step ?_ (Aside0.out (by assumption))))) ?_)|((with_reducible refine gate_ (.alloc 25) rfl ?_);refine Cw.box_store rfl rfl rfl rfl rfl rfl (by first|(go_simp;done)|(go_simp;rfl)) (by first|(go_simp;done)|(go_simp;rfl)) ?_;rintro g hg w1 hbk hb;clear hg;have hh_:=zm hbk;clear hbk;have hbk:=hh_;clear hh_;have hh_:=zm hb;clear hb;have hb:=hh_;clear hh_)|(go_at_call 13;refine (mapjnl_Join.calls k _ _ _ _ _ _ _ _ _ _ _ _ _ _ _ _ _ _ _ (Kd.C_below (Aside0.out (by assumption)) (by repeat (first|exact Below.refl _ _|with_reducible apply zlN|with_reducible apply zlA|refine below_step ?_ (Aside0.out (by assumption))))) (Aside0.out (by assumption)) (Kd.C_below (Aside0.out (by assumption)) (by repeat (first|exact Below.refl _ _|with_reducible apply zlN|with_reducible apply zlA|refine below_step ?_ (Aside0.out (by assumption))))) (Aside0.out (by assumption)) (Kd.C_below (Aside0.out (by assumption)) (by repeat (first|exact Below.refl _ _|with_reducible apply zlN|with_reducible apply zlA|refine below_step ?_ (Aside0.out (by assumption))))) (Aside0.out (by assumption)) (Kd.C_below (Aside0.out (by assumption)) (by repeat (first|exact Below.refl _ _|with_reducible apply zlN|with_reducible apply zlA|refine below_step ?_ (Aside0.out (by assumption))))) (Aside0.out (by assumption)) (Aside0.out (by assumption))).mono ?_;rintro e w1 ⟨v0,v1,rfl,ho0,ho1,hb⟩;obtain ⟨A_0,c_0,rfl,hc_0,hr_0⟩:=Kd.R_reads ho0;clear ho0;have hh_:=zm hc_0;clear hc_0;have hc_0:=hh_;clear hh_;have hh_:=zm hr_0;clear hr_0;have hr_0:=hh_;clear hh_;obtain ⟨A_1,c_1,rfl,hc_1,hr_1⟩:=Kd.R_reads ho1;clear ho1;have hh_:=zm hc_1;clear hc_1;have hc_1:=hh_;clear hh_;have hh_:=zm hr_1;clear hr_1;have hr_1:=hh_;clear hh_;have hh_:=zm hb;clear hb;have hb:=hh_;clear hh_)|(go_at_call 16;refine (slipwayref06_Same.calls k _ _ _ _ _ _ _ _ _ _ _ _ _ _ _ _ (Kd.C_below (Aside0.out (by assumption)) (by repeat (first|exact Below.refl _ _|with_reducible apply zlN|with_reducible apply zlA|refine below_step ?_ (Aside0.out (by assumption))))) (Aside0.out (by assumption)) (Kd.C_below (Aside0.out (by assumption)) (by repeat (first|exact Below.refl _ _|with_reducible apply zlN|with_reducible apply zlA|refine below_step ?_ (Aside0.out (by assumption))))) (Aside0.out (by assumption)) (Kd.C_below (Aside0.out (by assumption)) (by repeat (first|exact Below.refl _ _|with_reducible apply zlN|with_reducible apply zlA|refine below_step ?_ (Aside0.out (by assumption))))) (Aside0.out (by assumption)) (Kd.C_below (Aside0.out (by assumption)) (by repeat (first|exact Below.refl _ _|with_reducible apply zlN|with_reducible apply zlA|refine below_step ?_ (Aside0.out (by assumption))))) (Aside0.out (by assumption)) (Aside0.out (by assumption))).mono ?_;rintro e w1 ⟨rfl,hb⟩;have hh_:=zm hb;clear hb;have hb:=hh_;clear hh_)|(go_at_call 19;refine (mapjnl_Covers.calls k _ _ _ _ _ _ _ _ _ _ _ _ _ _ _ _ (Kd.C_below (Aside0.out (by assumption)) (by repeat (first|exact Below.refl _ _|with_reducible apply zlN|with_reducible apply zlA|refine below_step ?_ (Aside0.out (by assumption))))) (Aside0.out (by assumption)) (Kd.C_below (Aside0.out (by assumption)) (by repeat (first|exact Below.refl _ _|with_reducible apply zlN|with_reducible apply zlA|refine below_step ?_ (Aside0.out (by assumption))))) (Aside0.out (by assumption)) (Kd.C_below (Aside0.out (by assumption)) (by repeat (first|exact Below.refl _ _|with_reducible apply zlN|with_reducible apply zlA|refine below_step ?_ (Aside0.out (by assumption))))) (Aside0.out (by assumption)) (Kd.C_below (Aside0.out (by assumption)) (by repeat (first|exact Below.refl _ _|with_reducible apply zlN|with_reducible apply zlA|refine below_step ?_ (Aside0.out (by assumption))))) (Aside0.out (by assumption)) (Aside0.out (by assumption))).mono ?_;rintro e w1 ⟨rfl,hb⟩;have hh_:=zm hb;clear hb;have hb:=hh_;clear hh_)|(go_at_call 22;refine (mapjnl_Apply.calls k _ _ _ _ _ _ _ _ _ _ _ _ _ _ _ (Kd.C_below (Aside0.out (by assumption)) (by repeat (first|exact Below.refl _ _|with_reducible apply zlN|with_reducible apply zlA|refine below_step ?_ (Aside0.out (by assumption))))) (Aside0.out (by assumption)) (Kd.C_below (Aside0.out (by assumption)) (by repeat (first|exact Below.refl _ _|with_reducible apply zlN|with_reducible apply zlA|refine below_step ?_ (Aside0.out (by assumption))))) (Aside0.out (by assumption)) (Kd.C_below (Aside0.out (by assumption)) (by repeat (first|exact Below.refl _ _|with_reducible apply zlN|with_reducible apply zlA|refine below_step ?_ (Aside0.out (by assumption))))) (Aside0.out (by assumption)) (Aside0.out (by assumption))).mono ?_;rintro e w1 ⟨v0,v1,rfl,ho0,ho1,hb⟩;obtain ⟨A_0,c_0,rfl,hc_0,hr_0⟩:=Kd.R_reads ho0;clear ho0;have hh_:=zm hc_0;clear hc_0;have hc_0:=hh_;clear hh_;have hh_:=zm hr_0;clear hr_0;have hr_0:=hh_;clear hh_;obtain ⟨A_1,c_1,rfl,hc_1,hr_1⟩:=Kd.R_reads ho1;clear ho1;have hh_:=zm hc_1;clear hc_1;have hc_1:=hh_;clear hh_;have hh_:=zm hr_1;clear hr_1;have hr_1:=hh_;clear hh_;have hh_:=zm hb;clear hb;have hb:=hh_;clear hh_)|((with_reducible refine Cw.guarded rfl ?gw ?_);(case gw=>first|rfl|(go_simp;done));dsimp only))
      go_ret
      exact ⟨rfl,(by repeat (first|exact Below.refl _ _|with_reducible apply zlN|with_reducible apply zlA|refine below_step ?_ (Aside0.out (by assumption))))⟩
    ·refine Cw.dnew (fun g=>.pointer (some ⟨g,0,none⟩)) (by rfl) rfl (by apply MG_new;rfl) ?_
     rintro gy hg w1 hbk hb
     have hge:Aside0 (wd.heap.size≤gy):=⟨Nat.le_trans (below_size (by repeat (first|exact Below.refl _ _|with_reducible apply zlN|with_reducible apply zlA|refine below_step ?_ (Aside0.out (by assumption))))) (Nat.le_of_eq hg.symm)⟩
     clear hg
     have hh_:=zm hbk;clear hbk;have hbk:=hh_;clear hh_;have hh_:=zm hb;clear hb;have hb:=hh_;clear hh_
     refine hK.out _ _ (by repeat (first|exact Below.refl _ _|with_reducible apply zlN|with_reducible apply zlA|refine below_step ?_ (Aside0.out (by assumption)))) (fun _=>?_)
     clear hK K
     refine norm_ (a':=?_) ?_ ?_
     rotate_left
     ·show Act.put _ (some 21) _=_
      simp only [Act.put,List.setIfInBounds_toArray,List.set_cons_zero,List.set_cons_succ,i64_w,i32_w]
      rfl
     refine Cw.done1 (i:=4) (N:=some 122) (by simp only [List.getElem?_toArray,List.getElem?_cons_succ,List.getElem?_cons_zero];rfl) rfl (by kernel_rfl) (fun K hK=>?_)
     refine goes_ Try.func38 (by kernel_rfl) rfl _ (by rfl) rfl rfl (by go_simp;rfl) ?_
     refine (api_MapRecord_38.calls k _ _ [rv,l3] _ _ (Cw.C_two (zbB (Aside0.out (by assumption)) (by repeat (first|exact Below.refl _ _|with_reducible apply zlN|with_reducible apply zlA|refine below_step ?_ (Aside0.out (by assumption))))) (Kd.C_below (Aside0.out (by assumption)) (by repeat (first|exact Below.refl _ _|with_reducible apply zlN|with_reducible apply zlA|refine below_step ?_ (Aside0.out (by assumption))))) (Aside0.out (by assumption)) (Kd.C_below (Aside0.out (by assumption)) (by repeat (first|exact Below.refl _ _|with_reducible apply zlN|with_reducible apply zlA|refine below_step ?_ (Aside0.out (by assumption))))) (Aside0.out (by assumption))) (Nat.le_refl _) (Aside0.out (by assumption))).mono ?_
     rintro e w1 ⟨v,rfl,ho0,hb⟩;obtain ⟨A_0,c_0,rfl,hc_0,hr_0⟩:=Kd.R_reads ho0;clear ho0;have hh_:=zm hc_0;clear hc_0;have hc_0:=hh_;clear hh_;have hh_:=zm hr_0;clear hr_0;have hr_0:=hh_;clear hh_;have hh_:=zm hb;clear hb;have hb:=hh_;clear hh_
     refine ⟨_,rfl,?_⟩
     refine hK.out _ _ (by repeat (first|exact Below.refl _ _|with_reducible apply zlN|with_reducible apply zlA|refine below_step ?_ (Aside0.out (by assumption)))) (fun _=>?_)
     clear hK K
     refine norm_ (a':=?_) ?_ ?_
     rotate_left
     ·show Act.put _ (some 122) _=_
      simp only [Act.put,List.setIfInBounds_toArray,List.set_cons_zero,List.set_cons_succ,i64_w,i32_w]
      rfl
     refine Cw.done1 (i:=5) (N:=some 123) (by simp only [List.getElem?_toArray,List.getElem?_cons_succ,List.getElem?_cons_zero];rfl) rfl (by kernel_rfl) (fun K hK=>?_)
     refine goes_ Try.func22 (by kernel_rfl) rfl _ (by rfl) rfl rfl (by go_simp;rfl) ?_
     refine (mapjnl_Apply.calls k _ _ _ _ _ _ _ _ _ _ _ _ _ _ _ (Kd.C_below (Aside0.out (by assumption)) (by repeat (first|exact Below.refl _ _|with_reducible apply zlN|with_reducible apply zlA|refine below_step ?_ (Aside0.out (by assumption))))) (Aside0.out (by assumption)) (Kd.C_below (Aside0.out (by assumption)) (by repeat (first|exact Below.refl _ _|with_reducible apply zlN|with_reducible apply zlA|refine below_step ?_ (Aside0.out (by assumption))))) (Aside0.out (by assumption)) (Kd.C_below (Aside0.out (by assumption)) (by repeat (first|exact Below.refl _ _|with_reducible apply zlN|with_reducible apply zlA|refine below_step ?_ (Aside0.out (by assumption))))) (Aside0.out (by assumption)) (Aside0.out (by assumption))).mono ?_
     rintro e w1 ⟨v0,v1,rfl,ho0,ho1,hb⟩;obtain ⟨A_0,c_0,rfl⟩:=Kd.R_slice ho0;obtain ⟨A_1,c_1,rfl⟩:=Kd.R_slice ho1;have hh_:=zm ho0;clear ho0;have ho0:=hh_;clear hh_;have hh_:=zm ho1;clear ho1;have ho1:=hh_;clear hh_;have hh_:=zm hb;clear hb;have hb:=hh_;clear hh_
     refine ⟨_,rfl,?_⟩
     refine hK.out _ _ (by repeat (first|exact Below.refl _ _|with_reducible apply zlN|with_reducible apply zlA|refine below_step ?_ (Aside0.out (by assumption)))) (fun _=>?_)
     clear hK K
     refine norm_ (a':=?_) ?_ ?_
     rotate_left
     ·show Act.put _ (some 123) _=_
      simp only [Act.put,List.setIfInBounds_toArray,List.set_cons_zero,List.set_cons_succ,i64_w,i32_w]
      rfl
     refine Cw.dpu (i:=6) (v:=?_) (a':=?_) (by simp only [List.getElem?_toArray,List.getElem?_cons_succ,List.getElem?_cons_zero];rfl) rfl (by kernel_rfl) (by rfl) (by exact fun _ _ _ h=>h) ?_ ?_ ?_
     rotate_left
     ·intro w'
      go_simp
      with_reducible rfl
     rotate_left
     ·simp only [Act.put,List.setIfInBounds_toArray,List.set_cons_zero,List.set_cons_succ,i64_w,i32_w]
      rfl
     refine Cw.dpu (i:=7) (v:=?_) (a':=?_) (by simp only [List.getElem?_toArray,List.getElem?_cons_succ,List.getElem?_cons_zero];rfl) rfl (by kernel_rfl) (by rfl) (by exact fun _ _ _ h=>h) ?_ ?_ ?_
     rotate_left
     ·intro w'
      go_simp
      with_reducible rfl
     rotate_left
     ·simp only [Act.put,List.setIfInBounds_toArray,List.set_cons_zero,List.set_cons_succ,i64_w,i32_w]
      rfl
     refine Cw.dpu (i:=8) (v:=?_) (a':=?_) (by simp only [List.getElem?_toArray,List.getElem?_cons_succ,List.getElem?_cons_zero];rfl) rfl (by kernel_rfl) (by rfl) (by exact fun _ _ _ h=>h) ?_ ?_ ?_
     rotate_left
     ·intro w'
      go_simp
      with_reducible rfl
     rotate_left
     ·simp only [Act.put,List.setIfInBounds_toArray,List.set_cons_zero,List.set_cons_succ,i64_w,i32_w]
      rfl
     refine Cw.done1 (i:=10) (N:=none) (by simp only [List.getElem?_toArray,List.getElem?_cons_succ,List.getElem?_cons_zero];rfl) rfl (by kernel_rfl) (fun K hK=>?_)
     refine Cw.dput (g:=gy) (ys:=[.slice A_0 y0.length c_0,.slice A_1 y1.length c_1,.int .i64 y2]) (by rfl) rfl ?_ ?_
     ·apply MG_strun
      ·rfl
      ·rfl
      ·rfl
      ·exact (show _=some (Obj.cells #[.slice none 0 0,.slice none 0 0,.int .i64 0] 25 (0,0)) from (zbB (Aside0.out (by assumption)) (by repeat (first|exact Below.refl _ _|with_reducible apply zlN|with_reducible apply zlA|refine below_step ?_ (Aside0.out (by assumption))))))
     rintro w2 hw2
     have hb2:Aside0 (Below wd.heap.size wd w2):=⟨by rw [hw2];exact Cw.setL_below (Aside0.out (by assumption)) _ _ _ (by repeat (first|exact Below.refl _ _|with_reducible apply zlN|with_reducible apply zlA|refine below_step ?_ (Aside0.out (by assumption))))⟩
     have hr0:Aside0 (Kd.C Kd.bool w2 A_0 y0.length y0):=⟨by rw [hw2];exact (Kd.R_reads' (Cw.setL_R (Kd.R_below ho0.out (by repeat (first|exact Below.refl _ _|with_reducible apply zlN|with_reducible apply zlA|refine below_step ?_ (Aside0.out (by assumption))))) (show _=some (Obj.cells #[.slice none 0 0,.slice none 0 0,.int .i64 0] 25 (0,0)) from (zbB (Aside0.out (by assumption)) (by repeat (first|exact Below.refl _ _|with_reducible apply zlN|with_reducible apply zlA|refine below_step ?_ (Aside0.out (by assumption)))))) (by intro q hq;simp [Kd.bool,Kd.int,Kd.scalar] at hq;omega) 0 [.slice A_0 y0.length c_0,.slice A_1 y1.length c_1,.int .i64 y2])).2.2⟩
     have hr1:Aside0 (Kd.C (Kd.int .i64) w2 A_1 y1.length y1):=⟨by rw [hw2];exact (Kd.R_reads' (Cw.setL_R (Kd.R_below ho1.out (by repeat (first|exact Below.refl _ _|with_reducible apply zlN|with_reducible apply zlA|refine below_step ?_ (Aside0.out (by assumption))))) (show _=some (Obj.cells #[.slice none 0 0,.slice none 0 0,.int .i64 0] 25 (0,0)) from (zbB (Aside0.out (by assumption)) (by repeat (first|exact Below.refl _ _|with_reducible apply zlN|with_reducible apply zlA|refine below_step ?_ (Aside0.out (by assumption)))))) (by intro q hq;simp [Kd.bool,Kd.int,Kd.scalar] at hq;omega) 0 [.slice A_0 y0.length c_0,.slice A_1 y1.length c_1,.int .i64 y2])).2.2⟩
     have hc0:Aside0 (y0.length≤c_0):=⟨(Kd.R_reads' ho0.out).2.1⟩
     have hc1:Aside0 (y1.length≤c_1):=⟨(Kd.R_reads' ho1.out).2.1⟩
     have hbk:Aside0 (w2.heap[gy]?=some (.cells #[.slice A_0 y0.length c_0,.slice A_1 y1.length c_1,.int .i64 y2] 25 (0,0))):=⟨by rw [hw2];exact Cw.setL_blk [.slice A_0 y0.length c_0,.slice A_1 y1.length c_1,.int .i64 y2] 0 _ _ (show _=some (Obj.cells #[.slice none 0 0,.slice none 0 0,.int .i64 0] 25 (0,0)) from (zbB (Aside0.out (by assumption)) (by repeat (first|exact Below.refl _ _|with_reducible apply zlN|with_reducible apply zlA|refine below_step ?_ (Aside0.out (by assumption))))))⟩
     clear hw2 ho0 ho1
     refine hK.out _ _ hb2.out (fun _=>?_)
     clear hK K
     refine Cw.dpu (i:=11) (v:=?_) (a':=?_) (by simp only [List.getElem?_toArray,List.getElem?_cons_succ,List.getElem?_cons_zero];rfl) rfl (by kernel_rfl) (by rfl) (by exact fun _ _ _ h=>h) ?_ ?_ ?_
     rotate_left
     ·intro w'
      go_simp
      with_reducible rfl
     rotate_left
     ·simp only [Act.put,List.setIfInBounds_toArray,List.set_cons_zero,List.set_cons_succ,i64_w,i32_w]
      rfl
     refine done_ (by kernel_rfl) ?_
     go_wp2_with (first|((with_reducible refine gate_ (.load 25 _) rfl ?_);refine MG_ld rfl rfl rfl (zbB (Aside0.out (by assumption)) (by repeat (first|exact Below.refl _ _|with_reducible apply zlN|with_reducible apply zlA|refine below_step ?_ (Aside0.out (by assumption))))) ?_)|((with_reducible refine gate_ (.alloc 25) rfl ?_);refine Cw.box_store rfl rfl rfl rfl rfl rfl (by first|(go_simp;done)|(go_simp;rfl)) (by first|(go_simp;done)|(go_simp;rfl)) ?_;rintro g hg w1 hbk hb;clear hg;have hh_:=zm hbk;clear hbk;have hbk:=hh_;clear hh_;have hh_:=zm hb;clear hb;have hb:=hh_;clear hh_)|(go_at_call 13;refine (mapjnl_Join.calls k _ _ _ _ _ _ _ _ _ _ _ _ _ _ _ _ _ _ _ (Kd.C_below (Aside0.out (by assumption)) (by repeat (first|exact Below.refl _ _|with_reducible apply zlN|with_reducible apply zlA|refine below_step ?_ (Aside0.out (by assumption))))) (Aside0.out (by assumption)) (Kd.C_below (Aside0.out (by assumption)) (by repeat (first|exact Below.refl _ _|with_reducible apply zlN|with_reducible apply zlA|refine below_step ?_ (Aside0.out (by assumption))))) (Aside0.out (by assumption)) (Kd.C_below (Aside0.out (by assumption)) (by repeat (first|exact Below.refl _ _|with_reducible apply zlN|with_reducible apply zlA|refine below_step ?_ (Aside0.out (by assumption))))) (Aside0.out (by assumption)) (Kd.C_below (Aside0.out (by assumption)) (by repeat (first|exact Below.refl _ _|with_reducible apply zlN|with_reducible apply zlA|refine below_step ?_ (Aside0.out (by assumption))))) (Aside0.out (by assumption)) (Aside0.out (by assumption))).mono ?_;rintro e w1 ⟨v0,v1,rfl,ho0,ho1,hb⟩;obtain ⟨A_0,c_0,rfl,hc_0,hr_0⟩:=Kd.R_reads ho0;clear ho0;have hh_:=zm hc_0;clear hc_0;have hc_0:=hh_;clear hh_;have hh_:=zm hr_0;clear hr_0;have hr_0:=hh_;clear hh_;obtain ⟨A_1,c_1,rfl,hc_1,hr_1⟩:=Kd.R_reads ho1;clear ho1;have hh_:=zm hc_1;clear hc_1;have hc_1:=hh_;clear hh_;have hh_:=zm hr_1;clear hr_1;have hr_1:=hh_;clear hh_;have hh_:=zm hb;clear hb;have hb:=hh_;clear hh_)|(go_at_call 16;refine (slipwayref06_Same.calls k _ _ _ _ _ _ _ _ _ _ _ _ _ _ _ _ (Kd.C_below (Aside0.out (by assumption)) (by repeat (first|exact Below.refl _ _|with_reducible apply zlN|with_reducible apply zlA|refine below_step ?_ (Aside0.out (by assumption))))) (Aside0.out (by assumption)) (Kd.C_below (Aside0.out (by assumption)) (by repeat (first|exact Below.refl _ _|with_reducible apply zlN|with_reducible apply zlA|refine below_step ?_ (Aside0.out (by assumption))))) (Aside0.out (by assumption)) (Kd.C_below (Aside0.out (by assumption)) (by repeat (first|exact Below.refl _ _|with_reducible apply zlN|with_reducible apply zlA|refine below_step ?_ (Aside0.out (by assumption))))) (Aside0.out (by assumption)) (Kd.C_below (Aside0.out (by assumption)) (by repeat (first|exact Below.refl _ _|with_reducible apply zlN|with_reducible apply zlA|refine below_step ?_ (Aside0.out (by assumption))))) (Aside0.out (by assumption)) (Aside0.out (by assumption))).mono ?_;rintro e w1 ⟨rfl,hb⟩;have hh_:=zm hb;clear hb;have hb:=hh_;clear hh_)|(go_at_call 19;refine (mapjnl_Covers.calls k _ _ _ _ _ _ _ _ _ _ _ _ _ _ _ _ (Kd.C_below (Aside0.out (by assumption)) (by repeat (first|exact Below.refl _ _|with_reducible apply zlN|with_reducible apply zlA|refine below_step ?_ (Aside0.out (by assumption))))) (Aside0.out (by assumption)) (Kd.C_below (Aside0.out (by assumption)) (by repeat (first|exact Below.refl _ _|with_reducible apply zlN|with_reducible apply zlA|refine below_step ?_ (Aside0.out (by assumption))))) (Aside0.out (by assumption)) (Kd.C_below (Aside0.out (by assumption)) (by repeat (first|exact Below.refl _ _|with_reducible apply zlN|with_reducible apply zlA|refine below_step ?_ (Aside0.out (by assumption))))) (Aside0.out (by assumption)) (Kd.C_below (Aside0.out (by assumption)) (by repeat (first|exact Below.refl _ _|with_reducible apply zlN|with_reducible apply zlA|refine below_step ?_ (Aside0.out (by assumption))))) (Aside0.out (by assumption)) (Aside0.out (by assumption))).mono ?_;rintro e w1 ⟨rfl,hb⟩;have hh_:=zm hb;clear hb;have hb:=hh_;clear hh_)|(go_at_call 22;refine (mapjnl_Apply.calls k _ _ _ _ _ _ _ _ _ _ _ _ _ _ _ (Kd.C_below (Aside0.out (by assumption)) (by repeat (first|exact Below.refl _ _|with_reducible apply zlN|with_reducible apply zlA|refine below_step ?_ (Aside0.out (by assumption))))) (Aside0.out (by assumption)) (Kd.C_below (Aside0.out (by assumption)) (by repeat (first|exact Below.refl _ _|with_reducible apply zlN|with_reducible apply zlA|refine below_step ?_ (Aside0.out (by assumption))))) (Aside0.out (by assumption)) (Kd.C_below (Aside0.out (by assumption)) (by repeat (first|exact Below.refl _ _|with_reducible apply zlN|with_reducible apply zlA|refine below_step ?_ (Aside0.out (by assumption))))) (Aside0.out (by assumption)) (Aside0.out (by assumption))).mono ?_;rintro e w1 ⟨v0,v1,rfl,ho0,ho1,hb⟩;obtain ⟨A_0,c_0,rfl,hc_0,hr_0⟩:=Kd.R_reads ho0;clear ho0;have hh_:=zm hc_0;clear hc_0;have hc_0:=hh_;clear hh_;have hh_:=zm hr_0;clear hr_0;have hr_0:=hh_;clear hh_;obtain ⟨A_1,c_1,rfl,hc_1,hr_1⟩:=Kd.R_reads ho1;clear ho1;have hh_:=zm hc_1;clear hc_1;have hc_1:=hh_;clear hh_;have hh_:=zm hr_1;clear hr_1;have hr_1:=hh_;clear hh_;have hh_:=zm hb;clear hb;have hb:=hh_;clear hh_)|((with_reducible refine Cw.guarded rfl ?gw ?_);(case gw=>first|rfl|(go_simp;done));dsimp only))
     go_ret
     exact ⟨rfl,(by repeat (first|exact Below.refl _ _|with_reducible apply zlN|with_reducible apply zlA|refine below_step ?_ (Aside0.out (by assumption))))⟩
   ·refine Cw.dnew (fun g=>.pointer (some ⟨g,0,none⟩)) (by rfl) rfl (by apply MG_new;rfl) ?_
    rintro gy hg w1 hbk hb
    have hge:Aside0 (wd.heap.size≤gy):=⟨Nat.le_trans (below_size (by repeat (first|exact Below.refl _ _|with_reducible apply zlN|with_reducible apply zlA|refine below_step ?_ (Aside0.out (by assumption))))) (Nat.le_of_eq hg.symm)⟩
    clear hg
    have hh_:=zm hbk;clear hbk;have hbk:=hh_;clear hh_;have hh_:=zm hb;clear hb;have hb:=hh_;clear hh_
    refine hK.out _ _ (by repeat (first|exact Below.refl _ _|with_reducible apply zlN|with_reducible apply zlA|refine below_step ?_ (Aside0.out (by assumption)))) (fun _=>?_)
    clear hK K
    refine norm_ (a':=?_) ?_ ?_
    rotate_left
    ·show Act.put _ (some 21) _=_
     simp only [Act.put,List.setIfInBounds_toArray,List.set_cons_zero,List.set_cons_succ,i64_w,i32_w]
     rfl
    refine Cw.done1 (i:=3) (N:=some 121) (by simp only [List.getElem?_toArray,List.getElem?_cons_succ,List.getElem?_cons_zero];rfl) rfl (by kernel_rfl) (fun K hK=>?_)
    refine Cw.dnew (fun g=>.slice (some ⟨g,0,none⟩) 2 2) (by rfl) rfl (by apply MG_two <;> rfl) ?_
    rintro gl hg w1 hbk hb
    have hge:Aside0 (wd.heap.size≤gl):=⟨Nat.le_trans (below_size (by repeat (first|exact Below.refl _ _|with_reducible apply zlN|with_reducible apply zlA|refine below_step ?_ (Aside0.out (by assumption))))) (Nat.le_of_eq hg.symm)⟩
    clear hg
    have hh_:=zm hbk;clear hbk;have hbk:=hh_;clear hh_;have hh_:=zm hb;clear hb;have hb:=hh_;clear hh_
    refine hK.out _ _ (by repeat (first|exact Below.refl _ _|with_reducible apply zlN|with_reducible apply zlA|refine below_step ?_ (Aside0.out (by assumption)))) (fun _=>?_)
    clear hK K
    refine norm_ (a':=?_) ?_ ?_
    rotate_left
    ·show Act.put _ (some 121) _=_
     simp only [Act.put,List.setIfInBounds_toArray,List.set_cons_zero,List.set_cons_succ,i64_w,i32_w]
     rfl
    refine Cw.done1 (i:=4) (N:=some 122) (by simp only [List.getElem?_toArray,List.getElem?_cons_succ,List.getElem?_cons_zero];rfl) rfl (by kernel_rfl) (fun K hK=>?_)
    refine goes_ Try.func38 (by kernel_rfl) rfl _ (by rfl) rfl rfl (by go_simp;rfl) ?_
    refine (api_MapRecord_38.calls k _ _ [rv,l3] _ _ (Cw.C_two (zbB (Aside0.out (by assumption)) (by repeat (first|exact Below.refl _ _|with_reducible apply zlN|with_reducible apply zlA|refine below_step ?_ (Aside0.out (by assumption))))) (Kd.C_below (Aside0.out (by assumption)) (by repeat (first|exact Below.refl _ _|with_reducible apply zlN|with_reducible apply zlA|refine below_step ?_ (Aside0.out (by assumption))))) (Aside0.out (by assumption)) (Kd.C_below (Aside0.out (by assumption)) (by repeat (first|exact Below.refl _ _|with_reducible apply zlN|with_reducible apply zlA|refine below_step ?_ (Aside0.out (by assumption))))) (Aside0.out (by assumption))) (Nat.le_refl _) (Aside0.out (by assumption))).mono ?_
    rintro e w1 ⟨v,rfl,ho0,hb⟩;obtain ⟨A_0,c_0,rfl,hc_0,hr_0⟩:=Kd.R_reads ho0;clear ho0;have hh_:=zm hc_0;clear hc_0;have hc_0:=hh_;clear hh_;have hh_:=zm hr_0;clear hr_0;have hr_0:=hh_;clear hh_;have hh_:=zm hb;clear hb;have hb:=hh_;clear hh_
    refine ⟨_,rfl,?_⟩
    refine hK.out _ _ (by repeat (first|exact Below.refl _ _|with_reducible apply zlN|with_reducible apply zlA|refine below_step ?_ (Aside0.out (by assumption)))) (fun _=>?_)
    clear hK K
    refine norm_ (a':=?_) ?_ ?_
    rotate_left
    ·show Act.put _ (some 122) _=_
     simp only [Act.put,List.setIfInBounds_toArray,List.set_cons_zero,List.set_cons_succ,i64_w,i32_w]
     rfl
    refine Cw.done1 (i:=5) (N:=some 123) (by simp only [List.getElem?_toArray,List.getElem?_cons_succ,List.getElem?_cons_zero];rfl) rfl (by kernel_rfl) (fun K hK=>?_)
    refine goes_ Try.func22 (by kernel_rfl) rfl _ (by rfl) rfl rfl (by go_simp;rfl) ?_
    refine (mapjnl_Apply.calls k _ _ _ _ _ _ _ _ _ _ _ _ _ _ _ (Kd.C_below (Aside0.out (by assumption)) (by repeat (first|exact Below.refl _ _|with_reducible apply zlN|with_reducible apply zlA|refine below_step ?_ (Aside0.out (by assumption))))) (Aside0.out (by assumption)) (Kd.C_below (Aside0.out (by assumption)) (by repeat (first|exact Below.refl _ _|with_reducible apply zlN|with_reducible apply zlA|refine below_step ?_ (Aside0.out (by assumption))))) (Aside0.out (by assumption)) (Kd.C_below (Aside0.out (by assumption)) (by repeat (first|exact Below.refl _ _|with_reducible apply zlN|with_reducible apply zlA|refine below_step ?_ (Aside0.out (by assumption))))) (Aside0.out (by assumption)) (Aside0.out (by assumption))).mono ?_
    rintro e w1 ⟨v0,v1,rfl,ho0,ho1,hb⟩;obtain ⟨A_0,c_0,rfl⟩:=Kd.R_slice ho0;obtain ⟨A_1,c_1,rfl⟩:=Kd.R_slice ho1;have hh_:=zm ho0;clear ho0;have ho0:=hh_;clear hh_;have hh_:=zm ho1;clear ho1;have ho1:=hh_;clear hh_;have hh_:=zm hb;clear hb;have hb:=hh_;clear hh_
    refine ⟨_,rfl,?_⟩
    refine hK.out _ _ (by repeat (first|exact Below.refl _ _|with_reducible apply zlN|with_reducible apply zlA|refine below_step ?_ (Aside0.out (by assumption)))) (fun _=>?_)
    clear hK K
    refine norm_ (a':=?_) ?_ ?_
    rotate_left
    ·show Act.put _ (some 123) _=_
     simp only [Act.put,List.setIfInBounds_toArray,List.set_cons_zero,List.set_cons_succ,i64_w,i32_w]
     rfl
    refine Cw.dpu (i:=6) (v:=?_) (a':=?_) (by simp only [List.getElem?_toArray,List.getElem?_cons_succ,List.getElem?_cons_zero];rfl) rfl (by kernel_rfl) (by rfl) (by exact fun _ _ _ h=>h) ?_ ?_ ?_
    rotate_left
    ·intro w'
     go_simp
     with_reducible rfl
    rotate_left
    ·simp only [Act.put,List.setIfInBounds_toArray,List.set_cons_zero,List.set_cons_succ,i64_w,i32_w]
     rfl
    refine Cw.dpu (i:=7) (v:=?_) (a':=?_) (by simp only [List.getElem?_toArray,List.getElem?_cons_succ,List.getElem?_cons_zero];rfl) rfl (by kernel_rfl) (by rfl) (by exact fun _ _ _ h=>h) ?_ ?_ ?_
    rotate_left
    ·intro w'
     go_simp
     with_reducible rfl
    rotate_left
    ·simp only [Act.put,List.setIfInBounds_toArray,List.set_cons_zero,List.set_cons_succ,i64_w,i32_w]
     rfl
    refine Cw.dpu (i:=8) (v:=?_) (a':=?_) (by simp only [List.getElem?_toArray,List.getElem?_cons_succ,List.getElem?_cons_zero];rfl) rfl (by kernel_rfl) (by rfl) (by exact fun _ _ _ h=>h) ?_ ?_ ?_
    rotate_left
    ·intro w'
     go_simp
     with_reducible rfl
    rotate_left
    ·simp only [Act.put,List.setIfInBounds_toArray,List.set_cons_zero,List.set_cons_succ,i64_w,i32_w]
     rfl
    refine Cw.done1 (i:=10) (N:=none) (by simp only [List.getElem?_toArray,List.getElem?_cons_succ,List.getElem?_cons_zero];rfl) rfl (by kernel_rfl) (fun K hK=>?_)
    refine Cw.dput (g:=gy) (ys:=[.slice A_0 y0.length c_0,.slice A_1 y1.length c_1,.int .i64 y2]) (by rfl) rfl ?_ ?_
    ·apply MG_strun
     ·rfl
     ·rfl
     ·rfl
     ·exact (show _=some (Obj.cells #[.slice none 0 0,.slice none 0 0,.int .i64 0] 25 (0,0)) from (zbB (Aside0.out (by assumption)) (by repeat (first|exact Below.refl _ _|with_reducible apply zlN|with_reducible apply zlA|refine below_step ?_ (Aside0.out (by assumption))))))
    rintro w2 hw2
    have hb2:Aside0 (Below wd.heap.size wd w2):=⟨by rw [hw2];exact Cw.setL_below (Aside0.out (by assumption)) _ _ _ (by repeat (first|exact Below.refl _ _|with_reducible apply zlN|with_reducible apply zlA|refine below_step ?_ (Aside0.out (by assumption))))⟩
    have hr0:Aside0 (Kd.C Kd.bool w2 A_0 y0.length y0):=⟨by rw [hw2];exact (Kd.R_reads' (Cw.setL_R (Kd.R_below ho0.out (by repeat (first|exact Below.refl _ _|with_reducible apply zlN|with_reducible apply zlA|refine below_step ?_ (Aside0.out (by assumption))))) (show _=some (Obj.cells #[.slice none 0 0,.slice none 0 0,.int .i64 0] 25 (0,0)) from (zbB (Aside0.out (by assumption)) (by repeat (first|exact Below.refl _ _|with_reducible apply zlN|with_reducible apply zlA|refine below_step ?_ (Aside0.out (by assumption)))))) (by intro q hq;simp [Kd.bool,Kd.int,Kd.scalar] at hq;omega) 0 [.slice A_0 y0.length c_0,.slice A_1 y1.length c_1,.int .i64 y2])).2.2⟩
    have hr1:Aside0 (Kd.C (Kd.int .i64) w2 A_1 y1.length y1):=⟨by rw [hw2];exact (Kd.R_reads' (Cw.setL_R (Kd.R_below ho1.out (by repeat (first|exact Below.refl _ _|with_reducible apply zlN|with_reducible apply zlA|refine below_step ?_ (Aside0.out (by assumption))))) (show _=some (Obj.cells #[.slice none 0 0,.slice none 0 0,.int .i64 0] 25 (0,0)) from (zbB (Aside0.out (by assumption)) (by repeat (first|exact Below.refl _ _|with_reducible apply zlN|with_reducible apply zlA|refine below_step ?_ (Aside0.out (by assumption)))))) (by intro q hq;simp [Kd.bool,Kd.int,Kd.scalar] at hq;omega) 0 [.slice A_0 y0.length c_0,.slice A_1 y1.length c_1,.int .i64 y2])).2.2⟩
    have hc0:Aside0 (y0.length≤c_0):=⟨(Kd.R_reads' ho0.out).2.1⟩
    have hc1:Aside0 (y1.length≤c_1):=⟨(Kd.R_reads' ho1.out).2.1⟩
    have hbk:Aside0 (w2.heap[gy]?=some (.cells #[.slice A_0 y0.length c_0,.slice A_1 y1.length c_1,.int .i64 y2] 25 (0,0))):=⟨by rw [hw2];exact Cw.setL_blk [.slice A_0 y0.length c_0,.slice A_1 y1.length c_1,.int .i64 y2] 0 _ _ (show _=some (Obj.cells #[.slice none 0 0,.slice none 0 0,.int .i64 0] 25 (0,0)) from (zbB (Aside0.out (by assumption)) (by repeat (first|exact Below.refl _ _|with_reducible apply zlN|with_reducible apply zlA|refine below_step ?_ (Aside0.out (by assumption))))))⟩
    clear hw2 ho0 ho1
    refine hK.out _ _ hb2.out (fun _=>?_)
    clear hK K
    refine Cw.dpu (i:=11) (v:=?_) (a':=?_) (by simp only [List.getElem?_toArray,List.getElem?_cons_succ,List.getElem?_cons_zero];rfl) rfl (by kernel_rfl) (by rfl) (by exact fun _ _ _ h=>h) ?_ ?_ ?_
    rotate_left
    ·intro w'
     go_simp
     with_reducible rfl
    rotate_left
    ·simp only [Act.put,List.setIfInBounds_toArray,List.set_cons_zero,List.set_cons_succ,i64_w,i32_w]
     rfl
    refine done_ (by kernel_rfl) ?_
    go_wp2_with (first|((with_reducible refine gate_ (.load 25 _) rfl ?_);refine MG_ld rfl rfl rfl (zbB (Aside0.out (by assumption)) (by repeat (first|exact Below.refl _ _|with_reducible apply zlN|with_reducible apply zlA|refine below_step ?_ (Aside0.out (by assumption))))) ?_)|((with_reducible refine gate_ (.alloc 25) rfl ?_);refine Cw.box_store rfl rfl rfl rfl rfl rfl (by first|(go_simp;done)|(go_simp;rfl)) (by first|(go_simp;done)|(go_simp;rfl)) ?_;rintro g hg w1 hbk hb;clear hg;have hh_:=zm hbk;clear hbk;have hbk:=hh_;clear hh_;have hh_:=zm hb;clear hb;have hb:=hh_;clear hh_)|(go_at_call 13;refine (mapjnl_Join.calls k _ _ _ _ _ _ _ _ _ _ _ _ _ _ _ _ _ _ _ (Kd.C_below (Aside0.out (by assumption)) (by repeat (first|exact Below.refl _ _|with_reducible apply zlN|with_reducible apply zlA|refine below_step ?_ (Aside0.out (by assumption))))) (Aside0.out (by assumption)) (Kd.C_below (Aside0.out (by assumption)) (by repeat (first|exact Below.refl _ _|with_reducible apply zlN|with_reducible apply zlA|refine below_step ?_ (Aside0.out (by assumption))))) (Aside0.out (by assumption)) (Kd.C_below (Aside0.out (by assumption)) (by repeat (first|exact Below.refl _ _|with_reducible apply zlN|with_reducible apply zlA|refine below_step ?_ (Aside0.out (by assumption))))) (Aside0.out (by assumption)) (Kd.C_below (Aside0.out (by assumption)) (by repeat (first|exact Below.refl _ _|with_reducible apply zlN|with_reducible apply zlA|refine below_step ?_ (Aside0.out (by assumption))))) (Aside0.out (by assumption)) (Aside0.out (by assumption))).mono ?_;rintro e w1 ⟨v0,v1,rfl,ho0,ho1,hb⟩;obtain ⟨A_0,c_0,rfl,hc_0,hr_0⟩:=Kd.R_reads ho0;clear ho0;have hh_:=zm hc_0;clear hc_0;have hc_0:=hh_;clear hh_;have hh_:=zm hr_0;clear hr_0;have hr_0:=hh_;clear hh_;obtain ⟨A_1,c_1,rfl,hc_1,hr_1⟩:=Kd.R_reads ho1;clear ho1;have hh_:=zm hc_1;clear hc_1;have hc_1:=hh_;clear hh_;have hh_:=zm hr_1;clear hr_1;have hr_1:=hh_;clear hh_;have hh_:=zm hb;clear hb;have hb:=hh_;clear hh_)|(go_at_call 16;refine (slipwayref06_Same.calls k _ _ _ _ _ _ _ _ _ _ _ _ _ _ _ _ (Kd.C_below (Aside0.out (by assumption)) (by repeat (first|exact Below.refl _ _|with_reducible apply zlN|with_reducible apply zlA|refine below_step ?_ (Aside0.out (by assumption))))) (Aside0.out (by assumption)) (Kd.C_below (Aside0.out (by assumption)) (by repeat (first|exact Below.refl _ _|with_reducible apply zlN|with_reducible apply zlA|refine below_step ?_ (Aside0.out (by assumption))))) (Aside0.out (by assumption)) (Kd.C_below (Aside0.out (by assumption)) (by repeat (first|exact Below.refl _ _|with_reducible apply zlN|with_reducible apply zlA|refine below_step ?_ (Aside0.out (by assumption))))) (Aside0.out (by assumption)) (Kd.C_below (Aside0.out (by assumption)) (by repeat (first|exact Below.refl _ _|with_reducible apply zlN|with_reducible apply zlA|refine below_step ?_ (Aside0.out (by assumption))))) (Aside0.out (by assumption)) (Aside0.out (by assumption))).mono ?_;rintro e w1 ⟨rfl,hb⟩;have hh_:=zm hb;clear hb;have hb:=hh_;clear hh_)|(go_at_call 19;refine (mapjnl_Covers.calls k _ _ _ _ _ _ _ _ _ _ _ _ _ _ _ _ (Kd.C_below (Aside0.out (by assumption)) (by repeat (first|exact Below.refl _ _|with_reducible apply zlN|with_reducible apply zlA|refine below_step ?_ (Aside0.out (by assumption))))) (Aside0.out (by assumption)) (Kd.C_below (Aside0.out (by assumption)) (by repeat (first|exact Below.refl _ _|with_reducible apply zlN|with_reducible apply zlA|refine below_step ?_ (Aside0.out (by assumption))))) (Aside0.out (by assumption)) (Kd.C_below (Aside0.out (by assumption)) (by repeat (first|exact Below.refl _ _|with_reducible apply zlN|with_reducible apply zlA|refine below_step ?_ (Aside0.out (by assumption))))) (Aside0.out (by assumption)) (Kd.C_below (Aside0.out (by assumption)) (by repeat (first|exact Below.refl _ _|with_reducible apply zlN|with_reducible apply zlA|refine below_step ?_ (Aside0.out (by assumption))))) (Aside0.out (by assumption)) (Aside0.out (by assumption))).mono ?_;rintro e w1 ⟨rfl,hb⟩;have hh_:=zm hb;clear hb;have hb:=hh_;clear hh_)|(go_at_call 22;refine (mapjnl_Apply.calls k _ _ _ _ _ _ _ _ _ _ _ _ _ _ _ (Kd.C_below (Aside0.out (by assumption)) (by repeat (first|exact Below.refl _ _|with_reducible apply zlN|with_reducible apply zlA|refine below_step ?_ (Aside0.out (by assumption))))) (Aside0.out (by assumption)) (Kd.C_below (Aside0.out (by assumption)) (by repeat (first|exact Below.refl _ _|with_reducible apply zlN|with_reducible apply zlA|refine below_step ?_ (Aside0.out (by assumption))))) (Aside0.out (by assumption)) (Kd.C_below (Aside0.out (by assumption)) (by repeat (first|exact Below.refl _ _|with_reducible apply zlN|with_reducible apply zlA|refine below_step ?_ (Aside0.out (by assumption))))) (Aside0.out (by assumption)) (Aside0.out (by assumption))).mono ?_;rintro e w1 ⟨v0,v1,rfl,ho0,ho1,hb⟩;obtain ⟨A_0,c_0,rfl,hc_0,hr_0⟩:=Kd.R_reads ho0;clear ho0;have hh_:=zm hc_0;clear hc_0;have hc_0:=hh_;clear hh_;have hh_:=zm hr_0;clear hr_0;have hr_0:=hh_;clear hh_;obtain ⟨A_1,c_1,rfl,hc_1,hr_1⟩:=Kd.R_reads ho1;clear ho1;have hh_:=zm hc_1;clear hc_1;have hc_1:=hh_;clear hh_;have hh_:=zm hr_1;clear hr_1;have hr_1:=hh_;clear hh_;have hh_:=zm hb;clear hb;have hb:=hh_;clear hh_)|((with_reducible refine Cw.guarded rfl ?gw ?_);(case gw=>first|rfl|(go_simp;done));dsimp only))
    go_ret
    exact ⟨rfl,(by repeat (first|exact Below.refl _ _|with_reducible apply zlN|with_reducible apply zlA|refine below_step ?_ (Aside0.out (by assumption))))⟩
def slipwaylaw06_MapGrows.Pure:Prop:=∀ (l0_0:List Bool) (l0_1:List Int) (a0_2:Int) (l1_0:List Bool) (l1_1:List Int) (a1_2:Int) (l2_0:List Bool) (l2_1:List Int) (a2_2:Int) (l3:List (S55)),(l0_0.length≤maxLen∧l0_0.length * 1≤140737488351232∧∀ x ∈ l0_0,True) → (l0_1.length≤maxLen∧l0_1.length * 8≤140737488351232∧∀ x ∈ l0_1,(Lit.int .i64 x).wf=true) → (Lit.int .i64 a0_2).wf=true → (l1_0.length≤maxLen∧l1_0.length * 1≤140737488351232∧∀ x ∈ l1_0,True) → (l1_1.length≤maxLen∧l1_1.length * 8≤140737488351232∧∀ x ∈ l1_1,(Lit.int .i64 x).wf=true) → (Lit.int .i64 a1_2).wf=true → (l2_0.length≤maxLen∧l2_0.length * 1≤140737488351232∧∀ x ∈ l2_0,True) → (l2_1.length≤maxLen∧l2_1.length * 8≤140737488351232∧∀ x ∈ l2_1,(Lit.int .i64 x).wf=true) → (Lit.int .i64 a2_2).wf=true → (l3.length≤maxLen∧l3.length * 24≤140737488351232∧∀ x ∈ l3,((Lit.int .i64 x.f0).wf=true∧((Lit.int .i64 x.f1).wf=true∧(Lit.int .i64 x.f2).wf=true))) → l3.length≤1048576 → ∃ k,slipwaylaw06_MapGrows.f k l0_0 l0_1 a0_2 l1_0 l1_1 a1_2 l2_0 l2_1 a2_2 l3=some true
theorem slipwaylaw06_MapGrows.walk (P:slipwaylaw06_MapGrows.Pure) (A0_0:Option Addr) (c0_0:Nat) (l0_0:List Bool) (A0_1:Option Addr) (c0_1:Nat) (l0_1:List Int) (a0_2:Int) (A1_0:Option Addr) (c1_0:Nat) (l1_0:List Bool) (A1_1:Option Addr) (c1_1:Nat) (l1_1:List Int) (a1_2:Int) (A2_0:Option Addr) (c2_0:Nat) (l2_0:List Bool) (A2_1:Option Addr) (c2_1:Nat) (l2_1:List Int) (a2_2:Int) (A3:Option Addr) (c3:Nat) (l3:List (S55)) (w:World) (hr0_0:Kd.C Kd.bool w A0_0 l0_0.length l0_0) (hc0_0:l0_0.length≤c0_0) (hr0_1:Kd.C (Kd.int .i64) w A0_1 l0_1.length l0_1) (hc0_1:l0_1.length≤c0_1) (hr1_0:Kd.C Kd.bool w A1_0 l1_0.length l1_0) (hc1_0:l1_0.length≤c1_0) (hr1_1:Kd.C (Kd.int .i64) w A1_1 l1_1.length l1_1) (hc1_1:l1_1.length≤c1_1) (hr2_0:Kd.C Kd.bool w A2_0 l2_0.length l2_0) (hc2_0:l2_0.length≤c2_0) (hr2_1:Kd.C (Kd.int .i64) w A2_1 l2_1.length l2_1) (hc2_1:l2_1.length≤c2_1) (hr3:Kd.C k55 w A3 l3.length l3) (hc3:l3.length≤c3) (w0_0:(l0_0.length≤maxLen∧l0_0.length * 1≤140737488351232∧∀ x ∈ l0_0,True)) (w0_1:(l0_1.length≤maxLen∧l0_1.length * 8≤140737488351232∧∀ x ∈ l0_1,(Lit.int .i64 x).wf=true)) (w0_2:(Lit.int .i64 a0_2).wf=true) (w1_0:(l1_0.length≤maxLen∧l1_0.length * 1≤140737488351232∧∀ x ∈ l1_0,True)) (w1_1:(l1_1.length≤maxLen∧l1_1.length * 8≤140737488351232∧∀ x ∈ l1_1,(Lit.int .i64 x).wf=true)) (w1_2:(Lit.int .i64 a1_2).wf=true) (w2_0:(l2_0.length≤maxLen∧l2_0.length * 1≤140737488351232∧∀ x ∈ l2_0,True)) (w2_1:(l2_1.length≤maxLen∧l2_1.length * 8≤140737488351232∧∀ x ∈ l2_1,(Lit.int .i64 x).wf=true)) (w2_2:(Lit.int .i64 a2_2).wf=true) (w3:(l3.length≤maxLen∧l3.length * 24≤140737488351232∧∀ x ∈ l3,((Lit.int .i64 x.f0).wf=true∧((Lit.int .i64 x.f1).wf=true∧(Lit.int .i64 x.f2).wf=true)))) (z3:l3.length≤1048576) :
  Calls Try.prog 6 #[.agg #[.slice A0_0 l0_0.length c0_0,.slice A0_1 l0_1.length c0_1,.int .i64 a0_2],.agg #[.slice A1_0 l1_0.length c1_0,.slice A1_1 l1_1.length c1_1,.int .i64 a1_2],.agg #[.slice A2_0 l2_0.length c2_0,.slice A2_1 l2_1.length c2_1,.int .i64 a2_2],.slice A3 l3.length c3] w fun e w'=>e=.returned (.bool true)∧Below w.heap.size w w':=by
 obtain ⟨k,h⟩:=P l0_0 l0_1 a0_2 l1_0 l1_1 a1_2 l2_0 l2_1 a2_2 l3 w0_0 w0_1 w0_2 w1_0 w1_1 w1_2 w2_0 w2_1 w2_2 w3 z3
 refine (slipwaylaw06_MapGrows.calls k A0_0 c0_0 l0_0 A0_1 c0_1 l0_1 a0_2 A1_0 c1_0 l1_0 A1_1 c1_1 l1_1 a1_2 A2_0 c2_0 l2_0 A2_1 c2_1 l2_1 a2_2 A3 c3 l3 true w hr0_0 hc0_0 hr0_1 hc0_1 hr1_0 hc1_0 hr1_1 hc1_1 hr2_0 hc2_0 hr2_1 hc2_1 hr3 hc3 h).mono ?_
 rintro e w' ⟨rfl,hd⟩
 exact ⟨rfl,hd⟩
end Go.Proofs.Ytkhbmgclklmimaa.Print
end
