/- Texts of the proof of PageReads, part 22. -/
import Derived.Test.YtdohpjjggjehfaaPageReadsMA
import Derived.Test.YtdohpjjggjehfaaPageReadsM20
import Derived.Test.YtdohpjjggjehfaaPageReadsM13
import Derived.Test.YtdohpjjggjehfaaPageReadsM21
import Derived.Test.YtdohpjjggjehfaaPageReadsM15
section
namespace Go.Proofs.Ytdohpjjggjehfaa.Print
open Go.RowKit Go.Proofs.YtdohpjjggjehfaaW.PrintWords Go.Proofs.YtdohpjjggjehfaaW.PrintLast Go.Proofs.YtdohpjjggjehfaaW.PrintMore
attribute [local go_sem] max2_int min2_int max_two min_two max_three min_three max_four min_four   -- for this text's walks alone
attribute [local go_sem ↓] Go.Proofs.Ytdohpjjggjehfaa.Sem.isSome_setCell
attribute [local go_sem] Go.Instr.field Go.asAgg
set_option linter.unusedVariables false
set_option linter.unusedSimpArgs false
-- CX
-- PG
def page_Decode.f (k:Nat) (p:List Int):Option (Int × Int × Int × Int × List Int × Int) :=
 if p.length=288 then
 (slices_Concat_byte_byte.f k [(p.drop 0).take 256,(p.drop 256).take 32]).bind fun b =>
 (seal_State.f k b).bind fun e=>if e=0 then
 (seal_Unpack.f k [8,8,32,64,64] ((p.drop 256).take 22)).bind fun l=>if l.2=0 then if l.1.length=5 then
 if rd l.1 1=0 then if rd l.1 3 > 1152921504606846976 then some (0,0,0,0,[],30) else if rd l.1 4 > 1152921504606846976 then some (0,0,0,0,[],30) else
 (slices_ContainsFunc_byte_byte_39.f k ((p.drop 278).take 6)).bind fun t=>if t=true then some (0,0,0,0,[],30) else
 (page_Check.f k (wrap64 (rd l.1 0)) (wrap64 (rd l.1 2)) (wrap64 (rd l.1 3)) (wrap64 (rd l.1 4))).bind fun c=>if c=0 then
 (slices_Clone_byte_byte.f ((p.drop 0).take 256)).bind fun d=>some (wrap64 (rd l.1 0),wrap64 (rd l.1 2),wrap64 (rd l.1 3),wrap64 (rd l.1 4),d,0)
 else some (0,0,0,0,[],c)
 else some (0,0,0,0,[],30)
 else none else none
 else some (0,0,0,0,[],e)
 else none
theorem pg_contains (k:Nat) (A0:Option Addr) (c0 n0:Nat) (l0:List Int) (r:Bool) (w:World) (e0:l0.length=n0) (hr0:Kd.C (Kd.int .u8) w A0 n0 l0) (hc0:n0≤c0) (h:slices_ContainsFunc_byte_byte_39.f k l0=some r) :
  Calls Try.prog 38 #[.slice A0 n0 c0,.func (.func 39) #[] #[]] w fun e w'=>e=.returned (.bool r)∧Below w.heap.size w w':=by
 subst e0
 exact slices_ContainsFunc_byte_byte_39.calls k A0 c0 l0 r w hr0 hc0 h
theorem pg_clone (A0:Option Addr) (c0 n0:Nat) (l0:List Int) (r:List Int) (w:World) (e0:l0.length=n0) (hr0:Kd.C (Kd.int .u8) w A0 n0 l0) (hc0:n0≤c0) (h:slices_Clone_byte_byte.f l0=some r) :
  Calls Try.prog 40 #[.slice A0 n0 c0] w fun e w'=>∃ A c,e=.returned (.slice A r.length c)∧Kd.R (Kd.int .u8) 5 w' w.heap.size (fun _=>True) (.slice A r.length c) r∧Below w.heap.size w w':=by
 subst e0
 refine (slices_Clone_byte_byte.calls A0 c0 l0 r w hr0 hc0 h).mono ?_
 rintro e w' ⟨v,rfl,ho,hb⟩
 obtain ⟨A,c,rfl⟩:=Kd.R_slice ho
 exact ⟨A,c,rfl,ho,hb⟩
theorem pg_unpack (k:Nat) (A0:Option Addr) (c0:Nat) (l0:List Int) (A1:Option Addr) (c1 n1:Nat) (l1:List Int) (r1:List Int) (r2:Int) (w:World) (e1:l1.length=n1) (hr0:Kd.C (Kd.int .i64) w A0 l0.length l0) (hc0:l0.length≤c0) (hr1:Kd.C (Kd.int .u8) w A1 n1 l1) (hc1:n1≤c1) (h:seal_Unpack.f k l0 l1=some (r1,r2)) :
  Calls Try.prog 37 #[.slice A0 l0.length c0,.slice A1 n1 c1] w fun e w'=>∃ (A:Option Addr) (c:Nat),e=.returned (.tuple #[.slice A r1.length c,.int .i64 r2])∧r1.length≤c∧Kd.C (Kd.int .u64) w' A r1.length r1∧Below w.heap.size w w':=by
 subst e1
 refine (seal_Unpack.calls k A0 c0 l0 A1 c1 l1 r1 r2 w hr0 hc0 hr1 hc1 h).mono ?_
 rintro e w' ⟨v,rfl,ho,hb⟩
 obtain ⟨A,c,rfl,hl,hC⟩:=Kd.R_reads ho
 exact ⟨A,c,rfl,hl,hC,hb⟩
set_option maxHeartbeats 4000000 in
set_option maxRecDepth 100000 in
theorem page_Decode.calls (k:Nat) (p:List Int) (r1:Int) (r2:Int) (r3:Int) (r4:Int) (r5:List Int) (r6:Int) (w:World) (h:page_Decode.f k p=some (r1,r2,r3,r4,r5,r6)) :
  Calls Try.prog 14 #[.agg (pc p)] w fun e w'=>∃ v1_:Value,e=.returned (.tuple #[.agg #[.int .i64 r1,.int .i64 r2,.int .i64 r3,.int .i64 r4],v1_,.int .i64 r6])∧Kd.R (Kd.int .u8) 5 w' w.heap.size (fun _=>True) v1_ r5∧Below w.heap.size w w':=by
 have hu29:=Try.underlying29
 have hu23:=Try.underlying23
 have H:page_Decode.f k p=some (r1,r2,r3,r4,r5,r6):=h
 clear h
 unfold page_Decode.f at H
 have hg_:=Cw.gt_ H;clear H;obtain ⟨hp,H⟩:=hg_
 have hg_:=Option.bind_eq_some_iff.mp H;clear H;obtain ⟨b,F0,H⟩:=hg_;have hh_:=zm F0;clear F0;have F0:=hh_;clear hh_;(try dsimp only at H);have hg_:=Option.bind_eq_some_iff.mp H;clear H;obtain ⟨ec,F1,H⟩:=hg_;have hh_:=zm F1;clear F1;have F1:=hh_;clear hh_;(try dsimp only at H)
 have hh_:=zm hp;clear hp;have hp:=hh_;clear hh_;have hh_:=zm H;clear H;have H:=hh_;clear hh_
 go_enter Try.func14,Try.ntmps14
 go_wp2_with (first|((with_reducible refine gate_ (.box 29 _) rfl ?_);refine box_event rfl rfl (pg_box rfl rfl) ?_;rintro g1 hg w1 hbk hb;skip;clear hg;have hh_:=zm hbk;clear hbk;have hbk:=hh_;clear hh_;have hh_:=zm hb;clear hb;have hb:=hh_;clear hh_)|((with_reducible refine gate_ (.alloc 23) rfl ?_);refine box_event rfl rfl (pg_new23 rfl) ?_;rintro g2 hg w1 hbk hb;have hge2:Aside0 (w.heap.size≤g2):=⟨by rw [hg];exact below_size (by repeat (first|exact Below.refl _ _|with_reducible apply zlN|with_reducible apply zlA|refine below_step ?_ (Aside0.out (by assumption))))⟩;clear hg;have hh_:=zm hbk;clear hbk;have hbk:=hh_;clear hh_;have hh_:=zm hb;clear hb;have hb:=hh_;clear hh_))
 refine Cw.dstart (by as_aux_lemma=>kernel_rfl) rfl (fun wd hb=>?_)
 have hh_:=zm hb;clear hb;have hb:=hh_;clear hh_
 refine zpu 0 ?_
 refine zpu 1 ?_
 refine zpu 2 ?_
 refine zpu 3 ?_
 refine Cw.done1 (i:=4) (N:=some 14) (by simp only [List.getElem?_toArray,List.getElem?_cons_succ,List.getElem?_cons_zero];rfl) rfl (by as_aux_lemma=>kernel_rfl) (fun K hK=>?_)
 refine Cw.dnew (fun g=>.slice (some ⟨g,0,none⟩) 2 2) (by rfl) rfl (by apply pg_lit2 <;> rfl) ?_
 rintro gz hg w1 hbk hb
 clear hg
 have hh_:=zm hbk;clear hbk;have hbk:=hh_;clear hh_;have hh_:=zm hb;clear hb;have hb:=hh_;clear hh_
 refine hK.out _ _ (by repeat (first|exact Below.refl _ _|with_reducible apply zlN|with_reducible apply zlA|refine below_step ?_ (Aside0.out (by assumption)))) (fun _=>?_)
 clear hK K
 refine znm (some 14) ?_
 refine Cw.done1 (i:=5) (N:=some 15) (by simp only [List.getElem?_toArray,List.getElem?_cons_succ,List.getElem?_cons_zero];rfl) rfl (by as_aux_lemma=>kernel_rfl) (fun K hK=>?_)
 refine goes_ Try.func32 (by as_aux_lemma=>kernel_rfl) rfl _ (by rfl) rfl rfl (by go_simp;rfl) ?_
 refine (slices_Concat_byte_byte.calls k (some ⟨gz,0,none⟩) 2 [(p.drop 0).take 256,(p.drop 256).take 32] b _ (pg_two (n0:=256) (n1:=32) (by rw [List.length_take,List.length_drop,hp.out];rfl) (by rw [List.length_take,List.length_drop,hp.out];rfl) (zbB (Aside0.out (by assumption)) (by repeat (first|exact Below.refl _ _|with_reducible apply zlN|with_reducible apply zlA|refine below_step ?_ (Aside0.out (by assumption))))) (pg_C (zbB (Aside0.out (by assumption)) (by repeat (first|exact Below.refl _ _|with_reducible apply zlN|with_reducible apply zlA|refine below_step ?_ (Aside0.out (by assumption))))) (by rw [hp.out];decide) hp.out) (by decide) (pg_C (zbB (Aside0.out (by assumption)) (by repeat (first|exact Below.refl _ _|with_reducible apply zlN|with_reducible apply zlA|refine below_step ?_ (Aside0.out (by assumption))))) (by rw [hp.out];decide) hp.out) (by decide)) (by simp) F0.out).mono ?_
 rintro e w1 ⟨vb,rfl,ho,hb⟩
 obtain ⟨Ab,cbb,rfl⟩:=Kd.R_slice ho
 have hrb:=zm (Kd.R_reads' ho).2.2
 have hcb:=zm (Kd.R_reads' ho).2.1
 clear ho
 have hh_:=zm hb;clear hb;have hb:=hh_;clear hh_
 refine ⟨_,rfl,?_⟩
 refine hK.out _ _ (by repeat (first|exact Below.refl _ _|with_reducible apply zlN|with_reducible apply zlA|refine below_step ?_ (Aside0.out (by assumption)))) (fun _=>?_)
 clear hK K
 refine znm (some 15) ?_
 refine Cw.done1 (i:=6) (N:=some 16) (by simp only [List.getElem?_toArray,List.getElem?_cons_succ,List.getElem?_cons_zero];rfl) rfl (by as_aux_lemma=>kernel_rfl) (fun K hK=>?_)
 refine goes_ Try.func36 (by as_aux_lemma=>kernel_rfl) rfl _ (by rfl) rfl rfl (by go_simp;rfl) ?_
 refine (seal_State.calls k Ab cbb b ec _ (Kd.C_below (Aside0.out (by assumption)) (by repeat (first|exact Below.refl _ _|with_reducible apply zlN|with_reducible apply zlA|refine below_step ?_ (Aside0.out (by assumption))))) hcb.out F1.out).mono ?_
 rintro e w1 ⟨rfl,hb⟩
 have hh_:=zm hb;clear hb;have hb:=hh_;clear hh_
 refine ⟨_,rfl,?_⟩
 refine hK.out _ _ (by repeat (first|exact Below.refl _ _|with_reducible apply zlN|with_reducible apply zlA|refine below_step ?_ (Aside0.out (by assumption)))) (fun _=>?_)
 clear hK K
 refine znm (some 16) ?_
 refine zpu 7 ?_
 refine zdo ?_
 replace H:=H.out
 by_cases hz:ec=0
 rotate_left
 ·rw [if_neg hz] at H
  simp only [Option.some.injEq,Prod.mk.injEq] at H
  obtain ⟨rfl,rfl,rfl,rfl,rfl,rfl⟩:=H
  have hz0:(ec != 0)=true:=bne_iff_ne.mpr hz
  clear hz
  go_wp2_with (first|((with_reducible refine gate_ (.store 23 (.tmp 2) _) rfl ?_);refine Cw.put_event (g:=g2) (ys:=[.int .i64 0,.int .i64 0,.int .i64 0,.int .i64 0]) rfl rfl rfl (by apply pg_st23;exact rfl;exact rfl;exact rfl;exact (zbB (Aside0.out (by assumption)) (by repeat (first|exact Below.refl _ _|with_reducible apply zlN|with_reducible apply zlA|refine below_step ?_ (Aside0.out (by assumption)))))) ?_;rintro w2 hw2;have hb2:Aside0 (Below w.heap.size w w2):=⟨by rw [hw2];exact Cw.setL_below hge2.out _ _ _ (by repeat (first|exact Below.refl _ _|with_reducible apply zlN|with_reducible apply zlA|refine below_step ?_ (Aside0.out (by assumption))))⟩;have hzz:Aside0 (w2.heap[g2]?=some (.cells #[.int .i64 0,.int .i64 0,.int .i64 0,.int .i64 0] 23 (0,0))):=⟨by rw [hw2];exact Cw.setL_full [.int .i64 0,.int .i64 0,.int .i64 0,.int .i64 0] (show _=some (Obj.cells #[.int .i64 0,.int .i64 0,.int .i64 0,.int .i64 0] 23 (0,0)) from (zbB (Aside0.out (by assumption)) (by repeat (first|exact Below.refl _ _|with_reducible apply zlN|with_reducible apply zlA|refine below_step ?_ (Aside0.out (by assumption)))))) rfl⟩;clear hw2))
  refine bodyPost_ret (results_ctt rfl _ _ g2 23 #[.int .i64 0,.int .i64 0,.int .i64 0,.int .i64 0] (0,0) _ rfl hzz.out Try.underlying23 rfl (by kernel_rfl)) rfl ?_
  exact ⟨_,rfl,Kd.R_nil _ _ _ _ _,hb2.out⟩
 subst hz
 rw [if_pos rfl] at H
 have hg_:=Option.bind_eq_some_iff.mp H;clear H;obtain ⟨⟨l1,le⟩,F2,H⟩:=hg_;have hh_:=zm F2;clear F2;have F2:=hh_;clear hh_;(try dsimp only at H);have hg_:=Cw.gt_ H;clear H;obtain ⟨rfl,H⟩:=hg_;have hg_:=Cw.gt_ H;clear H;obtain ⟨hl5,H⟩:=hg_
 have hh_:=zm H;clear H;have H:=hh_;clear hh_;have hh_:=zm hl5;clear hl5;have hl5:=hh_;clear hh_
 go_wp2_with fail
 refine Cw.dstart (by as_aux_lemma=>kernel_rfl) rfl (fun wd hb=>?_)
 have hh_:=zm hb;clear hb;have hb:=hh_;clear hh_
 refine zpu 1 ?_
 refine zpu 2 ?_
 refine Cw.done1 (i:=0) (N:=some 22) (by simp only [List.getElem?_toArray,List.getElem?_cons_succ,List.getElem?_cons_zero];rfl) rfl (by as_aux_lemma=>kernel_rfl) (fun K hK=>?_)
 refine goes_ Try.func30 (by as_aux_lemma=>kernel_rfl) rfl _ (by rfl) rfl rfl (by go_simp;rfl) ?_
 refine (page_widths.calls [8,8,32,64,64] _ rfl).mono ?_
 rintro e w1 ⟨vJ,rfl,hoJ,hb⟩
 obtain ⟨AJ,cJ,rfl⟩:=Kd.R_slice hoJ
 have hcJ:=zm (Kd.R_reads' hoJ).2.1
 have hrJ:=zm (Kd.R_reads' hoJ).2.2
 clear hoJ
 have hh_:=zm hb;clear hb;have hb:=hh_;clear hh_
 refine ⟨_,rfl,?_⟩
 refine hK.out _ _ (by repeat (first|exact Below.refl _ _|with_reducible apply zlN|with_reducible apply zlA|refine below_step ?_ (Aside0.out (by assumption)))) (fun _=>?_)
 clear hK K
 refine znm (some 22) ?_
 refine Cw.done1 (i:=3) (N:=some 25) (by simp only [List.getElem?_toArray,List.getElem?_cons_succ,List.getElem?_cons_zero];rfl) rfl (by as_aux_lemma=>kernel_rfl) (fun K hK=>?_)
 refine goes_ Try.func37 (by as_aux_lemma=>kernel_rfl) rfl _ (by rfl) rfl rfl (by go_simp;rfl) ?_
 refine (pg_unpack k AJ cJ [8,8,32,64,64] (some ⟨g1,256,none⟩) 32 22 ((p.drop 256).take 22) l1 0 _ (by rw [List.length_take,List.length_drop,hp.out];rfl) (Kd.C_below (Aside0.out (by assumption)) (by repeat (first|exact Below.refl _ _|with_reducible apply zlN|with_reducible apply zlA|refine below_step ?_ (Aside0.out (by assumption))))) hcJ.out (pg_C (zbB (Aside0.out (by assumption)) (by repeat (first|exact Below.refl _ _|with_reducible apply zlN|with_reducible apply zlA|refine below_step ?_ (Aside0.out (by assumption))))) (by rw [hp.out];decide) hp.out) (by decide) F2.out).mono ?_
 rintro e w1 ⟨A1,c1,rfl,hc1,hr1,hb⟩
 obtain ⟨ad1,rfl,_⟩:=hr1.2.2 (by rw [hl5.out];omega)
 rw [hl5.out] at hr1 hc1 ⊢
 have hh_:=zm hc1;clear hc1;have hc1:=hh_;clear hh_;have hh_:=zm hr1;clear hr1;have hr1:=hh_;clear hh_;have hh_:=zm hb;clear hb;have hb:=hh_;clear hh_
 refine ⟨_,rfl,?_⟩
 refine hK.out _ _ (by repeat (first|exact Below.refl _ _|with_reducible apply zlN|with_reducible apply zlA|refine below_step ?_ (Aside0.out (by assumption)))) (fun _=>?_)
 clear hK K
 refine znm (some 25) ?_
 refine zpu 4 ?_
 refine zpu 5 ?_
 refine zpu 6 ?_
 refine zpu 7 ?_
 refine zpu 8 ?_
 refine zdo ?_
 replace H:=H.out
 have q5:=hl5.out
 by_cases q1:rd l1 1=0
 rotate_left
 ·rw [if_neg q1] at H
  simp only [Option.some.injEq,Prod.mk.injEq] at H
  obtain ⟨rfl,rfl,rfl,rfl,rfl,rfl⟩:=H
  have q1b:(rd l1 1 != 0)=true:=bne_iff_ne.mpr q1
  clear q1
  go_wp2_with (first|((with_reducible refine gate_ (.load 58 _) rfl ?_);refine Kd.event_run rfl (by apply pg_u64;exact rfl;exact rfl;exact (Kd.C_below (Aside0.out (by assumption)) (by repeat (first|exact Below.refl _ _|with_reducible apply zlN|with_reducible apply zlA|refine below_step ?_ (Aside0.out (by assumption)))));omega;omega) ?_)|((with_reducible refine Cw.guarded rfl ?gw ?_);(case gw=>first|rfl|(go_simp;done));dsimp only)|((with_reducible refine gate_ (.store 23 (.tmp 2) _) rfl ?_);refine Cw.put_event (g:=g2) (ys:=[.int .i64 0,.int .i64 0,.int .i64 0,.int .i64 0]) rfl rfl rfl (by apply pg_st23;exact rfl;exact rfl;exact rfl;exact (zbB (Aside0.out (by assumption)) (by repeat (first|exact Below.refl _ _|with_reducible apply zlN|with_reducible apply zlA|refine below_step ?_ (Aside0.out (by assumption)))))) ?_;rintro w2 hw2;have hb2:Aside0 (Below w.heap.size w w2):=⟨by rw [hw2];exact Cw.setL_below hge2.out _ _ _ (by repeat (first|exact Below.refl _ _|with_reducible apply zlN|with_reducible apply zlA|refine below_step ?_ (Aside0.out (by assumption))))⟩;have hzz:Aside0 (w2.heap[g2]?=some (.cells #[.int .i64 0,.int .i64 0,.int .i64 0,.int .i64 0] 23 (0,0))):=⟨by rw [hw2];exact Cw.setL_full [.int .i64 0,.int .i64 0,.int .i64 0,.int .i64 0] (show _=some (Obj.cells #[.int .i64 0,.int .i64 0,.int .i64 0,.int .i64 0] 23 (0,0)) from (zbB (Aside0.out (by assumption)) (by repeat (first|exact Below.refl _ _|with_reducible apply zlN|with_reducible apply zlA|refine below_step ?_ (Aside0.out (by assumption)))))) rfl⟩;clear hw2))
  refine bodyPost_ret (results_ctt rfl _ _ g2 23 #[.int .i64 0,.int .i64 0,.int .i64 0,.int .i64 0] (0,0) _ rfl hzz.out Try.underlying23 rfl (by kernel_rfl)) rfl ?_
  exact ⟨_,rfl,Kd.R_nil _ _ _ _ _,hb2.out⟩
 rw [if_pos q1] at H
 have q1b:(rd l1 1 != 0)=false:=by rw [q1];rfl
 clear q1
 by_cases q3:rd l1 3 > 1152921504606846976
 ·rw [if_pos q3] at H
  simp only [Option.some.injEq,Prod.mk.injEq] at H
  obtain ⟨rfl,rfl,rfl,rfl,rfl,rfl⟩:=H
  have q3b:decide (1152921504606846976 < rd l1 3)=true:=decide_eq_true q3
  clear q3
  go_wp2_with (first|((with_reducible refine gate_ (.load 58 _) rfl ?_);refine Kd.event_run rfl (by apply pg_u64;exact rfl;exact rfl;exact (Kd.C_below (Aside0.out (by assumption)) (by repeat (first|exact Below.refl _ _|with_reducible apply zlN|with_reducible apply zlA|refine below_step ?_ (Aside0.out (by assumption)))));omega;omega) ?_)|((with_reducible refine Cw.guarded rfl ?gw ?_);(case gw=>first|rfl|(go_simp;done));dsimp only)|((with_reducible refine gate_ (.store 23 (.tmp 2) _) rfl ?_);refine Cw.put_event (g:=g2) (ys:=[.int .i64 0,.int .i64 0,.int .i64 0,.int .i64 0]) rfl rfl rfl (by apply pg_st23;exact rfl;exact rfl;exact rfl;exact (zbB (Aside0.out (by assumption)) (by repeat (first|exact Below.refl _ _|with_reducible apply zlN|with_reducible apply zlA|refine below_step ?_ (Aside0.out (by assumption)))))) ?_;rintro w2 hw2;have hb2:Aside0 (Below w.heap.size w w2):=⟨by rw [hw2];exact Cw.setL_below hge2.out _ _ _ (by repeat (first|exact Below.refl _ _|with_reducible apply zlN|with_reducible apply zlA|refine below_step ?_ (Aside0.out (by assumption))))⟩;have hzz:Aside0 (w2.heap[g2]?=some (.cells #[.int .i64 0,.int .i64 0,.int .i64 0,.int .i64 0] 23 (0,0))):=⟨by rw [hw2];exact Cw.setL_full [.int .i64 0,.int .i64 0,.int .i64 0,.int .i64 0] (show _=some (Obj.cells #[.int .i64 0,.int .i64 0,.int .i64 0,.int .i64 0] 23 (0,0)) from (zbB (Aside0.out (by assumption)) (by repeat (first|exact Below.refl _ _|with_reducible apply zlN|with_reducible apply zlA|refine below_step ?_ (Aside0.out (by assumption)))))) rfl⟩;clear hw2))
  refine bodyPost_ret (results_ctt rfl _ _ g2 23 #[.int .i64 0,.int .i64 0,.int .i64 0,.int .i64 0] (0,0) _ rfl hzz.out Try.underlying23 rfl (by kernel_rfl)) rfl ?_
  exact ⟨_,rfl,Kd.R_nil _ _ _ _ _,hb2.out⟩
 rw [if_neg q3] at H
 have q3b:decide (1152921504606846976 < rd l1 3)=false:=decide_eq_false q3
 clear q3
 by_cases q4:rd l1 4 > 1152921504606846976
 ·rw [if_pos q4] at H
  simp only [Option.some.injEq,Prod.mk.injEq] at H
  obtain ⟨rfl,rfl,rfl,rfl,rfl,rfl⟩:=H
  have q4b:decide (1152921504606846976 < rd l1 4)=true:=decide_eq_true q4
  clear q4
  go_wp2_with (first|((with_reducible refine gate_ (.load 58 _) rfl ?_);refine Kd.event_run rfl (by apply pg_u64;exact rfl;exact rfl;exact (Kd.C_below (Aside0.out (by assumption)) (by repeat (first|exact Below.refl _ _|with_reducible apply zlN|with_reducible apply zlA|refine below_step ?_ (Aside0.out (by assumption)))));omega;omega) ?_)|((with_reducible refine Cw.guarded rfl ?gw ?_);(case gw=>first|rfl|(go_simp;done));dsimp only)|((with_reducible refine gate_ (.store 23 (.tmp 2) _) rfl ?_);refine Cw.put_event (g:=g2) (ys:=[.int .i64 0,.int .i64 0,.int .i64 0,.int .i64 0]) rfl rfl rfl (by apply pg_st23;exact rfl;exact rfl;exact rfl;exact (zbB (Aside0.out (by assumption)) (by repeat (first|exact Below.refl _ _|with_reducible apply zlN|with_reducible apply zlA|refine below_step ?_ (Aside0.out (by assumption)))))) ?_;rintro w2 hw2;have hb2:Aside0 (Below w.heap.size w w2):=⟨by rw [hw2];exact Cw.setL_below hge2.out _ _ _ (by repeat (first|exact Below.refl _ _|with_reducible apply zlN|with_reducible apply zlA|refine below_step ?_ (Aside0.out (by assumption))))⟩;have hzz:Aside0 (w2.heap[g2]?=some (.cells #[.int .i64 0,.int .i64 0,.int .i64 0,.int .i64 0] 23 (0,0))):=⟨by rw [hw2];exact Cw.setL_full [.int .i64 0,.int .i64 0,.int .i64 0,.int .i64 0] (show _=some (Obj.cells #[.int .i64 0,.int .i64 0,.int .i64 0,.int .i64 0] 23 (0,0)) from (zbB (Aside0.out (by assumption)) (by repeat (first|exact Below.refl _ _|with_reducible apply zlN|with_reducible apply zlA|refine below_step ?_ (Aside0.out (by assumption)))))) rfl⟩;clear hw2))
  refine bodyPost_ret (results_ctt rfl _ _ g2 23 #[.int .i64 0,.int .i64 0,.int .i64 0,.int .i64 0] (0,0) _ rfl hzz.out Try.underlying23 rfl (by kernel_rfl)) rfl ?_
  exact ⟨_,rfl,Kd.R_nil _ _ _ _ _,hb2.out⟩
 rw [if_neg q4] at H
 have q4b:decide (1152921504606846976 < rd l1 4)=false:=decide_eq_false q4
 clear q4
 have hg_:=Option.bind_eq_some_iff.mp H;clear H;obtain ⟨t,F3,H⟩:=hg_;have hh_:=zm F3;clear F3;have F3:=hh_;clear hh_;(try dsimp only at H)
 by_cases qt:t=true
 ·rw [if_pos qt] at H
  simp only [Option.some.injEq,Prod.mk.injEq] at H
  obtain ⟨rfl,rfl,rfl,rfl,rfl,rfl⟩:=H
  subst qt
  go_wp2_with (first|((with_reducible refine gate_ (.load 58 _) rfl ?_);refine Kd.event_run rfl (by apply pg_u64;exact rfl;exact rfl;exact (Kd.C_below (Aside0.out (by assumption)) (by repeat (first|exact Below.refl _ _|with_reducible apply zlN|with_reducible apply zlA|refine below_step ?_ (Aside0.out (by assumption)))));omega;omega) ?_)|((with_reducible refine Cw.guarded rfl ?gw ?_);(case gw=>first|rfl|(go_simp;done));dsimp only)|(go_at_call 38;refine (pg_contains k (some ⟨g1,278,none⟩) 10 6 ((p.drop 278).take 6) _ _ (by rw [List.length_take,List.length_drop,hp.out];rfl) (pg_C (zbB (Aside0.out (by assumption)) (by repeat (first|exact Below.refl _ _|with_reducible apply zlN|with_reducible apply zlA|refine below_step ?_ (Aside0.out (by assumption))))) (by rw [hp.out];decide) hp.out) (by decide) F3.out).mono ?_;rintro e w1 ⟨rfl,hb⟩;have hh_:=zm hb;clear hb;have hb:=hh_;clear hh_)|((with_reducible refine gate_ (.store 23 (.tmp 2) _) rfl ?_);refine Cw.put_event (g:=g2) (ys:=[.int .i64 0,.int .i64 0,.int .i64 0,.int .i64 0]) rfl rfl rfl (by apply pg_st23;exact rfl;exact rfl;exact rfl;exact (zbB (Aside0.out (by assumption)) (by repeat (first|exact Below.refl _ _|with_reducible apply zlN|with_reducible apply zlA|refine below_step ?_ (Aside0.out (by assumption)))))) ?_;rintro w2 hw2;have hb2:Aside0 (Below w.heap.size w w2):=⟨by rw [hw2];exact Cw.setL_below hge2.out _ _ _ (by repeat (first|exact Below.refl _ _|with_reducible apply zlN|with_reducible apply zlA|refine below_step ?_ (Aside0.out (by assumption))))⟩;have hzz:Aside0 (w2.heap[g2]?=some (.cells #[.int .i64 0,.int .i64 0,.int .i64 0,.int .i64 0] 23 (0,0))):=⟨by rw [hw2];exact Cw.setL_full [.int .i64 0,.int .i64 0,.int .i64 0,.int .i64 0] (show _=some (Obj.cells #[.int .i64 0,.int .i64 0,.int .i64 0,.int .i64 0] 23 (0,0)) from (zbB (Aside0.out (by assumption)) (by repeat (first|exact Below.refl _ _|with_reducible apply zlN|with_reducible apply zlA|refine below_step ?_ (Aside0.out (by assumption)))))) rfl⟩;clear hw2))
  refine bodyPost_ret (results_ctt rfl _ _ g2 23 #[.int .i64 0,.int .i64 0,.int .i64 0,.int .i64 0] (0,0) _ rfl hzz.out Try.underlying23 rfl (by kernel_rfl)) rfl ?_
  exact ⟨_,rfl,Kd.R_nil _ _ _ _ _,hb2.out⟩
 rw [if_neg qt] at H
 obtain rfl:t=false:=by simpa using qt
 clear qt
 have hg_:=Option.bind_eq_some_iff.mp H;clear H;obtain ⟨cc,F4,H⟩:=hg_;have hh_:=zm F4;clear F4;have F4:=hh_;clear hh_;(try dsimp only at H)
 have hh_:=zm H;clear H;have H:=hh_;clear hh_;have hh_:=zm q5;clear q5;have q5:=hh_;clear hh_
 go_wp2_with (first|((with_reducible refine gate_ (.load 58 _) rfl ?_);refine Kd.event_run rfl (by apply pg_u64;exact rfl;exact rfl;exact (Kd.C_below (Aside0.out (by assumption)) (by repeat (first|exact Below.refl _ _|with_reducible apply zlN|with_reducible apply zlA|refine below_step ?_ (Aside0.out (by assumption)))));(have:=hl5.out;omega);omega) ?_)|((with_reducible refine Cw.guarded rfl ?gw ?_);(case gw=>first|rfl|(go_simp;done));dsimp only)|(go_at_call 38;refine (pg_contains k (some ⟨g1,278,none⟩) 10 6 ((p.drop 278).take 6) _ _ (by rw [List.length_take,List.length_drop,hp.out];rfl) (pg_C (zbB (Aside0.out (by assumption)) (by repeat (first|exact Below.refl _ _|with_reducible apply zlN|with_reducible apply zlA|refine below_step ?_ (Aside0.out (by assumption))))) (by rw [hp.out];decide) hp.out) (by decide) F3.out).mono ?_;rintro e w1 ⟨rfl,hb⟩;have hh_:=zm hb;clear hb;have hb:=hh_;clear hh_))
 refine Cw.dstart (by as_aux_lemma=>kernel_rfl) rfl (fun wd hb=>?_)
 have hh_:=zm hb;clear hb;have hb:=hh_;clear hh_
 have q5:=hl5.out
 refine zpu 0 ?_
 refine zpu 1 ?_
 refine Cw.dtk (i:=2) (v:=?_) (a':=?_) (by simp only [List.getElem?_toArray,List.getElem?_cons_succ,List.getElem?_cons_zero];rfl) rfl (by as_aux_lemma=>kernel_rfl) (by rfl) (by exact fun _ _ _ h=>h) ?_ (by repeat (first|exact Below.refl _ _|with_reducible apply zlN|with_reducible apply zlA|refine below_step ?_ (Aside0.out (by assumption)))) ?_ ?_
 rotate_left
 ·intro w' hs_
  have hs:=zm hs_
  clear hs_
  apply Eq.trans
  ·apply pg_u64z
   ·rfl
   ·rfl
   ·exact (Kd.C_below (Aside0.out (by assumption)) (by repeat (first|exact Below.refl _ _|with_reducible apply zlN|with_reducible apply zlA|refine below_step ?_ (Aside0.out (by assumption)))))
   ·omega
  ·rfl
 rotate_left
 ·simp only [Act.put,List.setIfInBounds_toArray,List.set_cons_zero,List.set_cons_succ,i64_w,i32_w]
  rfl
 refine zpu 3 ?_
 refine zpu 4 ?_
 refine zpu 5 ?_
 refine Cw.dtk (i:=6) (v:=?_) (a':=?_) (by simp only [List.getElem?_toArray,List.getElem?_cons_succ,List.getElem?_cons_zero];rfl) rfl (by as_aux_lemma=>kernel_rfl) (by rfl) (by exact fun _ _ _ h=>h) ?_ (by repeat (first|exact Below.refl _ _|with_reducible apply zlN|with_reducible apply zlA|refine below_step ?_ (Aside0.out (by assumption)))) ?_ ?_
 rotate_left
 ·intro w' hs_
  have hs:=zm hs_
  clear hs_
  apply Eq.trans
  ·apply pg_u64
   ·rfl
   ·rfl
   ·exact (Kd.C_below (Aside0.out (by assumption)) (by repeat (first|exact Below.refl _ _|with_reducible apply zlN|with_reducible apply zlA|refine below_step ?_ (Aside0.out (by assumption)))))
   ·omega
   ·omega
  ·rfl
 rotate_left
 ·simp only [Act.put,List.setIfInBounds_toArray,List.set_cons_zero,List.set_cons_succ,i64_w,i32_w]
  rfl
 refine zpu 7 ?_
 refine zpu 8 ?_
 refine zpu 9 ?_
 refine Cw.dtk (i:=10) (v:=?_) (a':=?_) (by simp only [List.getElem?_toArray,List.getElem?_cons_succ,List.getElem?_cons_zero];rfl) rfl (by as_aux_lemma=>kernel_rfl) (by rfl) (by exact fun _ _ _ h=>h) ?_ (by repeat (first|exact Below.refl _ _|with_reducible apply zlN|with_reducible apply zlA|refine below_step ?_ (Aside0.out (by assumption)))) ?_ ?_
 rotate_left
 ·intro w' hs_
  have hs:=zm hs_
  clear hs_
  apply Eq.trans
  ·apply pg_u64
   ·rfl
   ·rfl
   ·exact (Kd.C_below (Aside0.out (by assumption)) (by repeat (first|exact Below.refl _ _|with_reducible apply zlN|with_reducible apply zlA|refine below_step ?_ (Aside0.out (by assumption)))))
   ·omega
   ·omega
  ·rfl
 rotate_left
 ·simp only [Act.put,List.setIfInBounds_toArray,List.set_cons_zero,List.set_cons_succ,i64_w,i32_w]
  rfl
 refine zpu 11 ?_
 refine zpu 12 ?_
 refine zpu 13 ?_
 refine Cw.dtk (i:=14) (v:=?_) (a':=?_) (by simp only [List.getElem?_toArray,List.getElem?_cons_succ,List.getElem?_cons_zero];rfl) rfl (by as_aux_lemma=>kernel_rfl) (by rfl) (by exact fun _ _ _ h=>h) ?_ (by repeat (first|exact Below.refl _ _|with_reducible apply zlN|with_reducible apply zlA|refine below_step ?_ (Aside0.out (by assumption)))) ?_ ?_
 rotate_left
 ·intro w' hs_
  have hs:=zm hs_
  clear hs_
  apply Eq.trans
  ·apply pg_u64
   ·rfl
   ·rfl
   ·exact (Kd.C_below (Aside0.out (by assumption)) (by repeat (first|exact Below.refl _ _|with_reducible apply zlN|with_reducible apply zlA|refine below_step ?_ (Aside0.out (by assumption)))))
   ·omega
   ·omega
  ·rfl
 rotate_left
 ·simp only [Act.put,List.setIfInBounds_toArray,List.set_cons_zero,List.set_cons_succ,i64_w,i32_w]
  rfl
 refine zpu 15 ?_
 refine zpu 16 ?_
 refine Cw.done1 (i:=17) (N:=some 8) (by simp only [List.getElem?_toArray,List.getElem?_cons_succ,List.getElem?_cons_zero];rfl) rfl (by as_aux_lemma=>kernel_rfl) (fun K hK=>?_)
 refine Cw.dnew (fun g=>.pointer (some ⟨g,0,none⟩)) (by rfl) rfl (by apply pg_new23;rfl) ?_
 rintro gx hg w1 hbk hb
 have hge:Aside0 (wd.heap.size≤gx):=⟨Nat.le_trans (below_size (by repeat (first|exact Below.refl _ _|with_reducible apply zlN|with_reducible apply zlA|refine below_step ?_ (Aside0.out (by assumption))))) (Nat.le_of_eq hg.symm)⟩
 clear hg
 have hh_:=zm hbk;clear hbk;have hbk:=hh_;clear hh_;have hh_:=zm hb;clear hb;have hb:=hh_;clear hh_
 refine hK.out _ _ (by repeat (first|exact Below.refl _ _|with_reducible apply zlN|with_reducible apply zlA|refine below_step ?_ (Aside0.out (by assumption)))) (fun _=>?_)
 clear hK K
 refine znm (some 8) ?_
 refine Cw.done1 (i:=18) (N:=none) (by simp only [List.getElem?_toArray,List.getElem?_cons_succ,List.getElem?_cons_zero];rfl) rfl (by as_aux_lemma=>kernel_rfl) (fun K hK=>?_)
 refine Cw.dput (g:=gx) (ys:=[.int .i64 (wrap64 (rd l1 0)),.int .i64 (wrap64 (rd l1 2)),.int .i64 (wrap64 (rd l1 3)),.int .i64 (wrap64 (rd l1 4))]) (by rfl) rfl ?_ ?_
 ·apply pg_st23
  ·rfl
  ·rfl
  ·rfl
  ·exact (zbB (Aside0.out (by assumption)) (by repeat (first|exact Below.refl _ _|with_reducible apply zlN|with_reducible apply zlA|refine below_step ?_ (Aside0.out (by assumption)))))
 rintro wx hwx
 have hb2:Aside0 (Below wd.heap.size wd wx):=⟨by rw [hwx];exact Cw.setL_below hge.out _ _ _ (by repeat (first|exact Below.refl _ _|with_reducible apply zlN|with_reducible apply zlA|refine below_step ?_ (Aside0.out (by assumption))))⟩
 have hbx:Aside0 (wx.heap[gx]?=some (.cells #[.int .i64 (wrap64 (rd l1 0)),.int .i64 (wrap64 (rd l1 2)),.int .i64 (wrap64 (rd l1 3)),.int .i64 (wrap64 (rd l1 4))] 23 (0,0))):=⟨by rw [hwx];exact Cw.setL_full [.int .i64 (wrap64 (rd l1 0)),.int .i64 (wrap64 (rd l1 2)),.int .i64 (wrap64 (rd l1 3)),.int .i64 (wrap64 (rd l1 4))] (show _=some (Obj.cells #[.int .i64 0,.int .i64 0,.int .i64 0,.int .i64 0] 23 (0,0)) from (zbB (Aside0.out (by assumption)) (by repeat (first|exact Below.refl _ _|with_reducible apply zlN|with_reducible apply zlA|refine below_step ?_ (Aside0.out (by assumption)))))) rfl⟩
 clear hwx
 refine hK.out _ _ hb2.out (fun _=>?_)
 clear hK K
 refine zdo ?_
 replace H:=H.out
 by_cases hz:cc=0
 rotate_left
 ·rw [if_neg hz] at H
  simp only [Option.some.injEq,Prod.mk.injEq] at H
  obtain ⟨rfl,rfl,rfl,rfl,rfl,rfl⟩:=H
  have hz0:(cc != 0)=true:=bne_iff_ne.mpr hz
  clear hz
  go_wp2_with (first|((with_reducible refine gate_ (.load 23 _) rfl ?_);refine Kd.event_run rfl (by apply pg_h23;exact rfl;exact rfl;exact (zbB (Aside0.out (by assumption)) (by repeat (first|exact Below.refl _ _|with_reducible apply zlN|with_reducible apply zlA|refine below_step ?_ (Aside0.out (by assumption)))))) ?_)|(go_at_call 12;refine (page_Check.calls k _ _ _ _ _ _ F4.out).mono ?_;rintro e wc ⟨rfl,hb⟩;have hh_:=zm hb;clear hb;have hb:=hh_;clear hh_)|((with_reducible refine gate_ (.store 23 (.tmp 2) _) rfl ?_);refine Cw.put_event (g:=g2) (ys:=[.int .i64 0,.int .i64 0,.int .i64 0,.int .i64 0]) rfl rfl rfl (by apply pg_st23;exact rfl;exact rfl;exact rfl;exact (zbB (Aside0.out (by assumption)) (by repeat (first|exact Below.refl _ _|with_reducible apply zlN|with_reducible apply zlA|refine below_step ?_ (Aside0.out (by assumption)))))) ?_;rintro w2 hw2;have hb2:Aside0 (Below w.heap.size w w2):=⟨by rw [hw2];exact Cw.setL_below hge2.out _ _ _ (by repeat (first|exact Below.refl _ _|with_reducible apply zlN|with_reducible apply zlA|refine below_step ?_ (Aside0.out (by assumption))))⟩;have hzz:Aside0 (w2.heap[g2]?=some (.cells #[.int .i64 0,.int .i64 0,.int .i64 0,.int .i64 0] 23 (0,0))):=⟨by rw [hw2];exact Cw.setL_full [.int .i64 0,.int .i64 0,.int .i64 0,.int .i64 0] (show _=some (Obj.cells #[.int .i64 0,.int .i64 0,.int .i64 0,.int .i64 0] 23 (0,0)) from (zbB (Aside0.out (by assumption)) (by repeat (first|exact Below.refl _ _|with_reducible apply zlN|with_reducible apply zlA|refine below_step ?_ (Aside0.out (by assumption)))))) rfl⟩;clear hw2))
  refine bodyPost_ret (results_ctt rfl _ _ g2 23 #[.int .i64 0,.int .i64 0,.int .i64 0,.int .i64 0] (0,0) _ rfl hzz.out Try.underlying23 rfl (by kernel_rfl)) rfl ?_
  exact ⟨_,rfl,Kd.R_nil _ _ _ _ _,hb2.out⟩
 subst hz
 rw [if_pos rfl] at H
 have hg_:=Option.bind_eq_some_iff.mp H;clear H;obtain ⟨dd,F5,H⟩:=hg_;have hh_:=zm F5;clear F5;have F5:=hh_;clear hh_;(try dsimp only at H)
 simp only [Option.some.injEq,Prod.mk.injEq] at H
 obtain ⟨rfl,rfl,rfl,rfl,rfl,rfl⟩:=H
 go_wp2_with (first|((with_reducible refine gate_ (.load 23 _) rfl ?_);refine Kd.event_run rfl (by apply pg_h23;exact rfl;exact rfl;exact (zbB (Aside0.out (by assumption)) (by repeat (first|exact Below.refl _ _|with_reducible apply zlN|with_reducible apply zlA|refine below_step ?_ (Aside0.out (by assumption)))))) ?_)|(go_at_call 12;refine (page_Check.calls k _ _ _ _ _ _ F4.out).mono ?_;rintro e wc ⟨rfl,hb⟩;have hh_:=zm hb;clear hb;have hb:=hh_;clear hh_))
 refine Cw.dstartD [4] (by as_aux_lemma=>kernel_rfl) rfl (fun we hb=>?_)
 have hh_:=zm hb;clear hb;have hb:=hh_;clear hh_
 refine Cw.dtkD (i:=0) (v:=?_) (a':=?_) (by simp only [List.getElem?_toArray,List.getElem?_cons_succ,List.getElem?_cons_zero];rfl) rfl (by as_aux_lemma=>kernel_rfl) (by rfl) (by exact fun _ _ _ h=>h) ?_ (by repeat (first|exact Below.refl _ _|with_reducible apply zlN|with_reducible apply zlA|refine below_step ?_ (Aside0.out (by assumption)))) ?_ ?_
 rotate_left
 ·intro w' hs_
  have hs:=zm hs_
  clear hs_
  apply Eq.trans
  ·apply pg_h23
   ·rfl
   ·rfl
   ·exact (zbB (Aside0.out (by assumption)) (by repeat (first|exact Below.refl _ _|with_reducible apply zlN|with_reducible apply zlA|refine below_step ?_ (Aside0.out (by assumption)))))
  ·rfl
 rotate_left
 ·simp only [Act.put,List.setIfInBounds_toArray,List.set_cons_zero,List.set_cons_succ,i64_w,i32_w]
  rfl
 refine zpu 1 ?_
 refine zpu 2 ?_
 refine Cw.done1D (i:=3) (N:=some 80) (by simp only [List.getElem?_toArray,List.getElem?_cons_succ,List.getElem?_cons_zero];rfl) rfl (by as_aux_lemma=>kernel_rfl) (by decide) (fun K hK=>?_)
 refine goes_ Try.func40 (by as_aux_lemma=>kernel_rfl) rfl _ (by rfl) rfl rfl (by go_simp;rfl) ?_
 refine (pg_clone (some ⟨g1,0,none⟩) 256 256 ((p.drop 0).take 256) dd _ (by rw [List.length_take,List.length_drop,hp.out];rfl) (pg_C (zbB (Aside0.out (by assumption)) (by repeat (first|exact Below.refl _ _|with_reducible apply zlN|with_reducible apply zlA|refine below_step ?_ (Aside0.out (by assumption))))) (by rw [hp.out];decide) hp.out) (by decide) F5.out).mono ?_
 rintro e w1 ⟨Ad,cd,rfl,hod,hb⟩
 have hh_:=zm hod;clear hod;have hod:=hh_;clear hh_;have hh_:=zm hb;clear hb;have hb:=hh_;clear hh_
 refine ⟨_,rfl,?_⟩
 refine hK.out _ _ (by repeat (first|exact Below.refl _ _|with_reducible apply zlN|with_reducible apply zlA|refine below_step ?_ (Aside0.out (by assumption)))) (fun _=>?_)
 clear hK K
 refine znm (some 80) ?_
 refine Cw.lastD (i:=4) (N:=none) (by simp only [List.getElem?_toArray,List.getElem?_cons_succ,List.getElem?_cons_zero];rfl) rfl (by as_aux_lemma=>kernel_rfl) (by decide) (fun K hK=>?_)
 refine Cw.dput (g:=g2) (ys:=[.int .i64 (wrap64 (rd l1 0)),.int .i64 (wrap64 (rd l1 2)),.int .i64 (wrap64 (rd l1 3)),.int .i64 (wrap64 (rd l1 4))]) (by rfl) rfl ?_ ?_
 ·apply pg_st23
  ·rfl
  ·rfl
  ·rfl
  ·exact (zbB (Aside0.out (by assumption)) (by repeat (first|exact Below.refl _ _|with_reducible apply zlN|with_reducible apply zlA|refine below_step ?_ (Aside0.out (by assumption)))))
 rintro w2 hw2
 have hb2:Aside0 (Below w.heap.size w w2):=⟨by rw [hw2];exact Cw.setL_below hge2.out _ _ _ (by repeat (first|exact Below.refl _ _|with_reducible apply zlN|with_reducible apply zlA|refine below_step ?_ (Aside0.out (by assumption))))⟩
 have hzz:Aside0 (w2.heap[g2]?=some (.cells #[.int .i64 (wrap64 (rd l1 0)),.int .i64 (wrap64 (rd l1 2)),.int .i64 (wrap64 (rd l1 3)),.int .i64 (wrap64 (rd l1 4))] 23 (0,0))):=⟨by rw [hw2];exact Cw.setL_full [.int .i64 (wrap64 (rd l1 0)),.int .i64 (wrap64 (rd l1 2)),.int .i64 (wrap64 (rd l1 3)),.int .i64 (wrap64 (rd l1 4))] (show _=some (Obj.cells #[.int .i64 0,.int .i64 0,.int .i64 0,.int .i64 0] 23 (0,0)) from (zbB (Aside0.out (by assumption)) (by repeat (first|exact Below.refl _ _|with_reducible apply zlN|with_reducible apply zlA|refine below_step ?_ (Aside0.out (by assumption)))))) rfl⟩
 have hR2:Aside0 (Kd.R (Kd.int .u8) 5 w2 w.heap.size (fun _=>True) (.slice Ad dd.length cd) dd):=⟨by rw [hw2];exact Cw.setL_R (Kd.R_lower hod.out (below_size (by repeat (first|exact Below.refl _ _|with_reducible apply zlN|with_reducible apply zlA|refine below_step ?_ (Aside0.out (by assumption)))))) (show _=some (Obj.cells #[.int .i64 0,.int .i64 0,.int .i64 0,.int .i64 0] 23 (0,0)) from (zbB (Aside0.out (by assumption)) (by repeat (first|exact Below.refl _ _|with_reducible apply zlN|with_reducible apply zlA|refine below_step ?_ (Aside0.out (by assumption)))))) (by intro q hq;simp [Kd.int,Kd.scalar] at hq;omega) 0 _⟩
 clear hw2
 refine hK.out _ _ ?_
 clear hK K
 refine zpu 5 ?_
 refine zpu 6 ?_
 refine zdo ?_
 go_wp2
 refine bodyPost_ret (results_ctt rfl _ _ g2 23 #[.int .i64 (wrap64 (rd l1 0)),.int .i64 (wrap64 (rd l1 2)),.int .i64 (wrap64 (rd l1 3)),.int .i64 (wrap64 (rd l1 4))] (0,0) _ rfl hzz.out Try.underlying23 rfl (by kernel_rfl)) rfl ?_
 exact ⟨_,rfl,hR2.out,hb2.out⟩
end Go.Proofs.Ytdohpjjggjehfaa.Print
end
section
namespace Go.Proofs.Ytdohpjjggjehfaa.Print
open Go.RowKit Go.Proofs.YtdohpjjggjehfaaW.PrintWords Go.Proofs.YtdohpjjggjehfaaW.PrintLast Go.Proofs.YtdohpjjggjehfaaW.PrintMore
attribute [local go_sem] max2_int min2_int max_two min_two max_three min_three max_four min_four   -- for this text's walks alone
attribute [local go_sem ↓] Go.Proofs.Ytdohpjjggjehfaa.Sem.isSome_setCell
attribute [local go_sem] Go.Instr.field Go.asAgg
set_option linter.unusedVariables false
set_option linter.unusedSimpArgs false
-- CX
-- PG
def er (i:Nat):List Int:=List.replicate i 255 ++ List.replicate (288 - i) 0
theorem er_len {i:Nat} (h:i≤288):(er i).length=288:=by unfold er;rw [List.length_append,List.length_replicate,List.length_replicate];omega
theorem er_set {i:Nat} (h:i < 288):(er i).set i 255=er (i + 1):=by
 unfold er
 obtain ⟨d,hd⟩:∃ d,288 - i=d + 1:=⟨288 - i - 1,by omega⟩
 have hd':288 - (i + 1)=d:=by omega
 rw [hd,hd',List.set_append_right _ _ (by simp),List.length_replicate,Nat.sub_self,List.replicate_succ,List.set_cons_zero,List.replicate_succ',List.append_assoc]
 rfl
theorem er_end:er 288=List.replicate 288 255:=by unfold er;rw [Nat.sub_self,List.replicate_zero,List.append_nil]
theorem er_zero:er 0=pz:=by unfold er pz;rw [List.replicate_zero,List.nil_append]
theorem er_meas {n i j:Nat} {x:Int} (hx:x=((j + 1:Nat):Int)) (h:i=j) (hj:j < n):n - (intOf (.int .i64 x)).toNat < n - (intOf (.int .i64 (i:Int))).toNat:=by
 subst hx h
 simp only [intOf,Int.toNat_natCast]
 omega
set_option maxHeartbeats 4000000 in
set_option maxRecDepth 100000 in
theorem page_Erased.calls (w:World):Calls Try.prog 24 #[] w fun e w'=>e=.returned (.agg (pc (List.replicate 288 255)))∧Below w.heap.size w w':=by
 have hu29:=Try.underlying29
 go_enter Try.func24,Try.ntmps24
 go_wp2_with (first|((with_reducible refine gate_dst (N:=0) rfl ?_);(with_reducible refine gate_ (.alloc 29) rfl ?_);refine box_event rfl rfl (pg_new rfl) ?_;rintro g0 hg w1 hbk hb;have hge0:Aside0 (w.heap.size≤g0):=⟨by rw [hg];exact below_size (by repeat (first|exact Below.refl _ _|with_reducible apply zlN|with_reducible apply zlA|refine below_step ?_ (Aside0.out (by assumption))))⟩;clear hg;have hh_:=zm hbk;clear hbk;have hbk:=hh_;clear hh_;have hh_:=zm hb;clear hb;have hb:=hh_;clear hh_)|((with_reducible refine gate_dst (N:=1) rfl ?_);(with_reducible refine gate_ (.alloc 29) rfl ?_);refine box_event rfl rfl (pg_new rfl) ?_;rintro g1 hg w1 hbk hb;have hge:Aside0 (w.heap.size≤g1):=⟨by rw [hg];exact below_size (by repeat (first|exact Below.refl _ _|with_reducible apply zlN|with_reducible apply zlA|refine below_step ?_ (Aside0.out (by assumption))))⟩;have hne:Aside0 (g0≠g1):=⟨by rw [hg];exact Nat.ne_of_lt (blk_lt (g:=g0) (o:=.cells (pc pz) 29 (0,0)) (zbB (Aside0.out (by assumption)) (by repeat (first|exact Below.refl _ _|with_reducible apply zlN|with_reducible apply zlA|refine below_step ?_ (Aside0.out (by assumption))))))⟩;clear hg;have hh_:=zm hbk;clear hbk;have hbk:=hh_;clear hh_;have hh_:=zm hb;clear hb;have hb:=hh_;clear hh_))
 have h0:Aside0 (w1.heap[g1]?=some (Obj.cells (pc (er 0)) 29 (0,0))):=⟨by rw [er_zero];exact (zbB (Aside0.out (by assumption)) (by repeat (first|exact Below.refl _ _|with_reducible apply zlN|with_reducible apply zlA|refine below_step ?_ (Aside0.out (by assumption)))))⟩
 go_loopw [4] (fun i wr=>∃ (j:Nat),i=.int .i64 (j:Int)∧Aside0 (j≤256)∧Aside0 (wr.heap[g1]?=some (.cells (pc (er j)) 29 (0,0)))∧Aside0 (wr.heap[g0]?=some (.cells (pc pz) 29 (0,0)))∧Aside0 (Below w.heap.size w wr)) (fun i _=>256 - (intOf i).toNat)
 case atStart=>exact ⟨0,by simp,⟨by omega⟩,h0,⟨(zbB (Aside0.out (by assumption)) (by repeat (first|exact Below.refl _ _|with_reducible apply zlN|with_reducible apply zlA|refine below_step ?_ (Aside0.out (by assumption)))))⟩,⟨(by repeat (first|exact Below.refl _ _|with_reducible apply zlN|with_reducible apply zlA|refine below_step ?_ (Aside0.out (by assumption))))⟩⟩
 case round =>
  obtain ⟨j,rfl,hj,hBK,hB0,hbr⟩:=hrel
  have hj:=hj.out
  clear h0 hbk hb
  by_cases hlt:j < 256
  ·have hjn:0≤(j:Int):=by omega
   have hj2:(j:Int) < 256:=by omega
   go_wp2_with (first|((with_reducible refine gate_ (.store 5 _ _) rfl ?_);refine pg_put (g:=g1) (q:=er (j + 1)) rfl rfl (by refine (pg_set (p:=er (j)) (i:=j) rfl ?_ rfl hBK.out (by rw [er_len (by omega)];omega)).trans ?_;exact rfl;rw [er_set (by omega)]) hBK.out ?_;rintro w2 hq hfar hbel;have hb2:Aside0 (Below w.heap.size w w2):=⟨hbel _ _ hbr.out hge.out⟩;have h02:Aside0 (w2.heap[g0]?=some (Obj.cells (pc pz) 29 (0,0))):=⟨by rw [hfar _ hne.out];exact hB0.out⟩;clear hfar hbel;have hh_:=zm hq;clear hq;have hq:=hh_;clear hh_))
   exact ⟨⟨j + 1,by simp,⟨by omega⟩,hq,h02,hb2⟩,er_meas (by omega) rfl (by omega)⟩
  ·obtain rfl:j=256:=by omega
   have hj2:decide (((256:Nat):Int) < 256)=false:=rfl
   go_wp2
   have h1:Aside0 (wr.heap[g1]?=some (Obj.cells (pc (er (256 + 0))) 29 (0,0))):=hBK
   clear hBK
   go_loopw [11] (fun i wr=>∃ (j:Nat),i=.int .i64 (j:Int)∧Aside0 (j≤32)∧Aside0 (wr.heap[g1]?=some (.cells (pc (er (256 + j))) 29 (0,0)))∧Aside0 (wr.heap[g0]?=some (.cells (pc pz) 29 (0,0)))∧Aside0 (Below w.heap.size w wr)) (fun i _=>32 - (intOf i).toNat)
   case atStart=>exact ⟨0,by simp,⟨by omega⟩,h1,hB0,hbr⟩
   case round =>
    clear hB0 hbr h1
    obtain ⟨j,rfl,hj,hBK,hB0,hbr⟩:=hrel
    have hj:=hj.out
    by_cases hlt:j < 32
    ·have hjn:0≤(j:Int):=by omega
     have hj2:(j:Int) < 32:=by omega
     go_wp2_with (first|((with_reducible refine gate_ (.store 5 _ _) rfl ?_);refine pg_put (g:=g1) (q:=er (256 + j + 1)) rfl rfl (by refine (pg_set (p:=er (256 + j)) (i:=256 + j) rfl ?_ rfl hBK.out (by rw [er_len (by omega)];omega)).trans ?_;exact rfl;rw [er_set (by omega)]) hBK.out ?_;rintro w2 hq hfar hbel;have hb2:Aside0 (Below w.heap.size w w2):=⟨hbel _ _ hbr.out hge.out⟩;have h02:Aside0 (w2.heap[g0]?=some (Obj.cells (pc pz) 29 (0,0))):=⟨by rw [hfar _ hne.out];exact hB0.out⟩;clear hfar hbel;have hh_:=zm hq;clear hq;have hq:=hh_;clear hh_))
     exact ⟨⟨j + 1,by simp,⟨by omega⟩,hq,h02,hb2⟩,er_meas (by omega) rfl (by omega)⟩
    ·obtain rfl:j=32:=by omega
     have hj2:decide (((32:Nat):Int) < 32)=false:=rfl
     go_wp2_with (first|((with_reducible refine gate_ (.load 29 _) rfl ?_);refine Kd.event_run rfl (pg_load rfl rfl hBK.out (er_len (by omega))) ?_)|((with_reducible refine gate_ (.store 29 _ _) rfl ?_);refine pg_put (g:=g0) (q:=er 288) rfl rfl (pg_store rfl rfl rfl hB0.out pz_len (er_len (by omega))) hB0.out ?_;rintro w2 hq hfar hbel;have hb2:Aside0 (Below w.heap.size w w2):=⟨hbel _ _ hbr.out hge0.out⟩;clear hfar hbel;have hh_:=zm hq;clear hq;have hq:=hh_;clear hh_))
     refine bodyPost_ret (results_cell_row rfl _ _ g0 29 (pc (er 288)) (0,0) _ rfl hq.out Try.underlying29 rfl (pg_size (er_len (by omega)))) rfl ?_
     exact ⟨by rw [er_end],hb2.out⟩
end Go.Proofs.Ytdohpjjggjehfaa.Print
end
section
namespace Go.Proofs.Ytdohpjjggjehfaa.Print
open Go.RowKit Go.Proofs.YtdohpjjggjehfaaW.PrintWords Go.Proofs.YtdohpjjggjehfaaW.PrintLast Go.Proofs.YtdohpjjggjehfaaW.PrintMore
attribute [local go_sem] max2_int min2_int max_two min_two max_three min_three max_four min_four   -- for this text's walks alone
attribute [local go_sem ↓] Go.Proofs.Ytdohpjjggjehfaa.Sem.isSome_setCell
attribute [local go_sem] Go.Instr.field Go.asAgg
set_option linter.unusedVariables false
set_option linter.unusedSimpArgs false
-- CX
-- PG
def page_State.f (k:Nat) (p:List Int):Option Int :=
 if p.length=288 then if p=(List.replicate 288 255) then some 10 else (page_Decode.f k p).bind fun r=>some r.2.2.2.2.2 else none
set_option maxHeartbeats 4000000 in
set_option maxRecDepth 100000 in
theorem page_State.calls (k:Nat) (p:List Int) (r:Int) (w:World) (h:page_State.f k p=some r) :
  Calls Try.prog 20 #[.agg (pc p)] w fun e w'=>e=.returned (.int .i64 r)∧Below w.heap.size w w':=by
 have hu29:=Try.underlying29
 have hu23:=Try.underlying23
 have H:page_State.f k p=some r:=h
 clear h
 unfold page_State.f at H
 have hg_:=Cw.gt_ H;clear H;obtain ⟨hp,H⟩:=hg_
 have hh_:=zm hp;clear hp;have hp:=hh_;clear hh_
 by_cases he:p=(List.replicate 288 255)
 ·rw [if_pos he] at H
  obtain rfl:=Option.some.inj H
  have heb:decide (p=(List.replicate 288 255))=true:=decide_eq_true he
  have hh_:=zm heb;clear heb;have heb:=hh_;clear hh_
  clear he H
  go_enter Try.func20,Try.ntmps20
  go_wp2_with (first|((with_reducible refine gate_ (.box 29 _) rfl ?_);refine box_event rfl rfl (pg_box rfl rfl) ?_;rintro g1 hg w1 hbk hb;skip;clear hg;have hh_:=zm hbk;clear hbk;have hbk:=hh_;clear hh_;have hh_:=zm hb;clear hb;have hb:=hh_;clear hh_))
  refine Cw.dstart (by as_aux_lemma=>kernel_rfl) rfl (fun wd hb=>?_)
  have hh_:=zm hb;clear hb;have hb:=hh_;clear hh_
  refine Cw.dtk (i:=0) (v:=?_) (a':=?_) (by simp only [List.getElem?_toArray,List.getElem?_cons_succ,List.getElem?_cons_zero];rfl) rfl (by as_aux_lemma=>kernel_rfl) (by rfl) (by exact fun _ _ _ h=>h) ?_ (by repeat (first|exact Below.refl _ _|with_reducible apply zlN|with_reducible apply zlA|refine below_step ?_ (Aside0.out (by assumption)))) ?_ ?_
  rotate_left
  ·intro w' hs_
   have hs:=zm hs_
   clear hs_
   apply Eq.trans
   ·apply pg_load
    ·rfl
    ·rfl
    ·exact (zbB (Aside0.out (by assumption)) (by repeat (first|exact Below.refl _ _|with_reducible apply zlN|with_reducible apply zlA|refine below_step ?_ (Aside0.out (by assumption)))))
    ·exact hp.out
   ·rfl
  rotate_left
  ·simp only [Act.put,List.setIfInBounds_toArray,List.set_cons_zero,List.set_cons_succ,i64_w,i32_w]
   rfl
  refine Cw.done1 (i:=1) (N:=some 7) (by simp only [List.getElem?_toArray,List.getElem?_cons_succ,List.getElem?_cons_zero];rfl) rfl (by as_aux_lemma=>kernel_rfl) (fun K hK=>?_)
  refine goes_ Try.func24 (by as_aux_lemma=>kernel_rfl) rfl _ (by rfl) rfl rfl (by go_simp;rfl) ?_
  refine (page_Erased.calls _).mono ?_
  rintro e w1 ⟨rfl,hb⟩
  have hh_:=zm hb;clear hb;have hb:=hh_;clear hh_
  refine ⟨_,rfl,?_⟩
  refine hK.out _ _ (by repeat (first|exact Below.refl _ _|with_reducible apply zlN|with_reducible apply zlA|refine below_step ?_ (Aside0.out (by assumption)))) (fun _=>?_)
  clear hK K
  refine znm (some 7) ?_
  refine Cw.dpu (i:=2) (v:=?_) (a':=?_) (by simp only [List.getElem?_toArray,List.getElem?_cons_succ,List.getElem?_cons_zero];rfl) rfl (by as_aux_lemma=>kernel_rfl) (by rfl) (by exact fun _ _ _ h=>h) ?_ ?_ ?_
  rotate_left
  ·intro w'
   apply Eq.trans
   ·apply pg_eqop (p:=p) (q:=(List.replicate 288 255))
    ·rfl
    ·rfl
    ·rfl
    ·exact hp.out
    ·exact List.length_replicate
   ·rfl
  rotate_left
  ·simp only [Act.put,List.setIfInBounds_toArray,List.set_cons_zero,List.set_cons_succ,i64_w,i32_w]
   rfl
  refine zdo ?_
  rw [heb.out]
  go_wp2
  go_ret
  exact ⟨rfl,(by repeat (first|exact Below.refl _ _|with_reducible apply zlN|with_reducible apply zlA|refine below_step ?_ (Aside0.out (by assumption))))⟩
 ·rw [if_neg he] at H
  have hg_:=Option.bind_eq_some_iff.mp H;clear H;obtain ⟨⟨d1,d2,d3,d4,d5,d6⟩,F0,H⟩:=hg_;have hh_:=zm F0;clear F0;have F0:=hh_;clear hh_;(try dsimp only at H)
  obtain rfl:=Option.some.inj H
  have heb:decide (p=(List.replicate 288 255))=false:=decide_eq_false he
  have hh_:=zm heb;clear heb;have heb:=hh_;clear hh_
  clear he H
  go_enter Try.func20,Try.ntmps20
  go_wp2_with (first|((with_reducible refine gate_ (.box 29 _) rfl ?_);refine box_event rfl rfl (pg_box rfl rfl) ?_;rintro g1 hg w1 hbk hb;skip;clear hg;have hh_:=zm hbk;clear hbk;have hbk:=hh_;clear hh_;have hh_:=zm hb;clear hb;have hb:=hh_;clear hh_))
  refine Cw.dstart (by as_aux_lemma=>kernel_rfl) rfl (fun wd hb=>?_)
  have hh_:=zm hb;clear hb;have hb:=hh_;clear hh_
  refine Cw.dtk (i:=0) (v:=?_) (a':=?_) (by simp only [List.getElem?_toArray,List.getElem?_cons_succ,List.getElem?_cons_zero];rfl) rfl (by as_aux_lemma=>kernel_rfl) (by rfl) (by exact fun _ _ _ h=>h) ?_ (by repeat (first|exact Below.refl _ _|with_reducible apply zlN|with_reducible apply zlA|refine below_step ?_ (Aside0.out (by assumption)))) ?_ ?_
  rotate_left
  ·intro w' hs_
   have hs:=zm hs_
   clear hs_
   apply Eq.trans
   ·apply pg_load
    ·rfl
    ·rfl
    ·exact (zbB (Aside0.out (by assumption)) (by repeat (first|exact Below.refl _ _|with_reducible apply zlN|with_reducible apply zlA|refine below_step ?_ (Aside0.out (by assumption)))))
    ·exact hp.out
   ·rfl
  rotate_left
  ·simp only [Act.put,List.setIfInBounds_toArray,List.set_cons_zero,List.set_cons_succ,i64_w,i32_w]
   rfl
  refine Cw.done1 (i:=1) (N:=some 7) (by simp only [List.getElem?_toArray,List.getElem?_cons_succ,List.getElem?_cons_zero];rfl) rfl (by as_aux_lemma=>kernel_rfl) (fun K hK=>?_)
  refine goes_ Try.func24 (by as_aux_lemma=>kernel_rfl) rfl _ (by rfl) rfl rfl (by go_simp;rfl) ?_
  refine (page_Erased.calls _).mono ?_
  rintro e w1 ⟨rfl,hb⟩
  have hh_:=zm hb;clear hb;have hb:=hh_;clear hh_
  refine ⟨_,rfl,?_⟩
  refine hK.out _ _ (by repeat (first|exact Below.refl _ _|with_reducible apply zlN|with_reducible apply zlA|refine below_step ?_ (Aside0.out (by assumption)))) (fun _=>?_)
  clear hK K
  refine znm (some 7) ?_
  refine Cw.dpu (i:=2) (v:=?_) (a':=?_) (by simp only [List.getElem?_toArray,List.getElem?_cons_succ,List.getElem?_cons_zero];rfl) rfl (by as_aux_lemma=>kernel_rfl) (by rfl) (by exact fun _ _ _ h=>h) ?_ ?_ ?_
  rotate_left
  ·intro w'
   apply Eq.trans
   ·apply pg_eqop (p:=p) (q:=(List.replicate 288 255))
    ·rfl
    ·rfl
    ·rfl
    ·exact hp.out
    ·exact List.length_replicate
   ·rfl
  rotate_left
  ·simp only [Act.put,List.setIfInBounds_toArray,List.set_cons_zero,List.set_cons_succ,i64_w,i32_w]
   rfl
  refine zdo ?_
  rw [heb.out]
  go_wp2_with (first|((with_reducible refine gate_ (.load 29 _) rfl ?_);refine Kd.event_run rfl (pg_load rfl rfl (zbB (Aside0.out (by assumption)) (by repeat (first|exact Below.refl _ _|with_reducible apply zlN|with_reducible apply zlA|refine below_step ?_ (Aside0.out (by assumption))))) hp.out) ?_)|(go_at_call 14;refine (page_Decode.calls k p d1 d2 d3 d4 d5 d6 _ F0.out).mono ?_;rintro e wc ⟨v1,rfl,ho,hb⟩;have hh_:=zm ho;clear ho;have ho:=hh_;clear hh_;have hh_:=zm hb;clear hb;have hb:=hh_;clear hh_)|((with_reducible refine gate_ (.alloc 23) rfl ?_);refine Cw.box_store rfl rfl rfl rfl rfl rfl (by first|(go_simp;done)|(go_simp;rfl)) (by first|(go_simp;done)|(go_simp;rfl)) ?_;rintro g hg w1 hbk hb;clear hg;have hh_:=zm hbk;clear hbk;have hbk:=hh_;clear hh_;have hh_:=zm hb;clear hb;have hb:=hh_;clear hh_))
  go_ret
  exact ⟨rfl,(by repeat (first|exact Below.refl _ _|with_reducible apply zlN|with_reducible apply zlA|refine below_step ?_ (Aside0.out (by assumption))))⟩
end Go.Proofs.Ytdohpjjggjehfaa.Print
end
section
namespace Go.Proofs.Ytdohpjjggjehfaa.Print
open Go.RowKit Go.Proofs.YtdohpjjggjehfaaW.PrintWords Go.Proofs.YtdohpjjggjehfaaW.PrintLast Go.Proofs.YtdohpjjggjehfaaW.PrintMore
attribute [local go_sem] max2_int min2_int max_two min_two max_three min_three max_four min_four   -- for this text's walks alone
attribute [local go_sem ↓] Go.Proofs.Ytdohpjjggjehfaa.Sem.isSome_setCell
attribute [local go_sem] Go.Instr.field Go.asAgg
set_option linter.unusedVariables false
set_option linter.unusedSimpArgs false
mutual
def seal_Pack.l0:Nat → List Int → List Int → Int → List Int → Int → Int → Option (List Int × Int)
 | 0,_,_,_,_,_,_=>none
 | k + 1,x1,x8,x9,x28,x29,x30=>if x30 < x29 then (if 0≤x30 then (if x30 < (x28.length:Int) then (if x30 < (x1.length:Int) then ((bits_Len64.f k (rd x1 x30)).bind fun t112=>(if t112 > (rd x28 x30) then (some (([]:List Int),1)) else (seal_Pack.l1 k x1 x8 x9 x30 (rd x28 x30) x28 x29 x30 (rd x28 x30) 0))) else (none)) else (none)) else (none)) else (some (x8,0))
def seal_Pack.l1:Nat → List Int → List Int → Int → Int → Int → List Int → Int → Int → Int → Int → Option (List Int × Int)
 | 0,_,_,_,_,_,_,_,_,_,_=>none
 | k + 1,x1,x8,x9,x10,x11,x28,x29,x30,x42,x43=>if x43 < x42 then (if 0≤(wrap64 (Int.tdiv x9 8)) then (if (wrap64 (Int.tdiv x9 8)) < (x8.length:Int) then (if 0≤x10 then (if x10 < (x1.length:Int) then (if 0≤(wrap64 ((wrap64 (x11 - 1)) - x43)) then (if 0≤(wrap64 (7 - (Int.tmod x9 8))) then (seal_Pack.l1 k x1 (x8.set ((wrap64 (Int.tdiv x9 8)):Int).toNat (Go.bits .or .u8 (rd x8 (wrap64 (Int.tdiv x9 8))) (shl .u8 ((Go.bits .and .u64 (shr .u64 (rd x1 x10) (wrap64 ((wrap64 (x11 - 1)) - x43))) 1) % 256) (wrap64 (7 - (Int.tmod x9 8)))))) (wrap64 (x9 + 1)) x10 x11 x28 x29 x30 x42 (wrap64 (x43 + 1))) else (none)) else (none)) else (none)) else (none)) else (none)) else (none)) else (seal_Pack.l0 k x1 x8 x9 x28 x29 (wrap64 (x30 + 1)))
end
def seal_Pack.f (k:Nat) (l0:List Int) (l1:List Int):Option (List Int × Int):=(seal_Width.f k l0).bind fun bt105=>(if bt105.2=0 then (if (l1.length:Int)=(l0.length:Int) then (if 0≤bt105.1 then (if (bt105.1:Int).toNat≤281474976710656 then (seal_Pack.l0 k l1 (List.replicate (bt105.1:Int).toNat 0) 0 l0 (l0.length:Int) 0) else (none)) else (none)) else (some (([]:List Int),1))) else (some (([]:List Int),bt105.2)))
theorem seal_Pack.mono_l:∀ k,(∀ y0 y1 y2 y3 y4 y5,LeO (seal_Pack.l0 k y0 y1 y2 y3 y4 y5) (seal_Pack.l0 (k + 1) y0 y1 y2 y3 y4 y5))∧(∀ y0 y1 y2 y3 y4 y5 y6 y7 y8 y9,LeO (seal_Pack.l1 k y0 y1 y2 y3 y4 y5 y6 y7 y8 y9) (seal_Pack.l1 (k + 1) y0 y1 y2 y3 y4 y5 y6 y7 y8 y9))
 | 0=>⟨fun _ _ _ _ _ _ r h=>by simp [seal_Pack.l0] at h,fun _ _ _ _ _ _ _ _ _ _ r h=>by simp [seal_Pack.l1] at h⟩
 | k + 1=>by
  obtain ⟨ih0,ih1⟩:=seal_Pack.mono_l k
  refine ⟨?_,?_⟩
  ·intro y0 y1 y2 y3 y4 y5
   unfold seal_Pack.l0
   repeat' first
   | (with_reducible exact ih0 _ _ _ _ _ _)
   | (with_reducible exact ih1 _ _ _ _ _ _ _ _ _ _)
   | (with_reducible exact bits_Len64.mono _ _)
   | (with_reducible exact seal_Width.mono _ _)
   | (with_reducible exact LeO.refl _)
   | (with_reducible exact LeO.none _)
   | (with_reducible refine LeO.ite ?_ ?_)
   | (with_reducible refine LeO.bind ?_ (fun _=>?_))
   | exact ih0 _ _ _ _ _ _
   | exact ih1 _ _ _ _ _ _ _ _ _ _
   | exact bits_Len64.mono _ _
   | exact seal_Width.mono _ _
   | exact LeO.none _
   | refine LeO.ite ?_ ?_
   | refine LeO.bind ?_ (fun _=>?_)
  ·intro y0 y1 y2 y3 y4 y5 y6 y7 y8 y9
   unfold seal_Pack.l1
   repeat' first
   | (with_reducible exact ih0 _ _ _ _ _ _)
   | (with_reducible exact ih1 _ _ _ _ _ _ _ _ _ _)
   | (with_reducible exact bits_Len64.mono _ _)
   | (with_reducible exact seal_Width.mono _ _)
   | (with_reducible exact LeO.refl _)
   | (with_reducible exact LeO.none _)
   | (with_reducible refine LeO.ite ?_ ?_)
   | (with_reducible refine LeO.bind ?_ (fun _=>?_))
   | exact ih0 _ _ _ _ _ _
   | exact ih1 _ _ _ _ _ _ _ _ _ _
   | exact bits_Len64.mono _ _
   | exact seal_Width.mono _ _
   | exact LeO.none _
   | refine LeO.ite ?_ ?_
   | refine LeO.bind ?_ (fun _=>?_)
theorem seal_Pack.mono:∀ a0 a1 k,LeO (seal_Pack.f k a0 a1) (seal_Pack.f (k + 1) a0 a1):=by
 intro a0 a1 k
 obtain ⟨ih0,ih1⟩:=seal_Pack.mono_l k
 unfold seal_Pack.f
 repeat' first
   | (with_reducible exact ih0 _ _ _ _ _ _)
   | (with_reducible exact ih1 _ _ _ _ _ _ _ _ _ _)
   | (with_reducible exact bits_Len64.mono _ _)
   | (with_reducible exact seal_Width.mono _ _)
   | (with_reducible exact LeO.refl _)
   | (with_reducible exact LeO.none _)
   | (with_reducible refine LeO.ite ?_ ?_)
   | (with_reducible refine LeO.bind ?_ (fun _=>?_))
   | exact ih0 _ _ _ _ _ _
   | exact ih1 _ _ _ _ _ _ _ _ _ _
   | exact bits_Len64.mono _ _
   | exact seal_Width.mono _ _
   | exact LeO.none _
   | refine LeO.ite ?_ ?_
   | refine LeO.bind ?_ (fun _=>?_)
def seal_Pack.T16:Bool × List (List Nat × List Nat):=(true,[([],[]),([],[]),([1],[1]),([0,2],[0,2]),([3],[3]),([],[]),([],[]),([5,6],[5,6]),([7],[7]),([],[]),([9],[9]),([],[]),([10,11],[10,11]),([8,12],[8,12]),([13],[13]),([14],[14]),([],[]),([16],[16]),([17],[17]),([15,18],[15,18]),([4,19],[4,19]),([0,2,0,1,2,3,4,5,6,7,8,9,10,11,12,13,14,15,16,17,18,19,20],[0,2]),([21,20,0,1,2,3,4,5,6,7,8,9,10,11,12,13,14,15,16,17,18,19,20],[20,21])])
def seal_Pack.B16:List Nat:=[0,0,2,7,15,0,0,96,224,0,512,0,3584,8160,16352,32736,0,65536,196608,524256,1048575,2097151,4194303]
theorem seal_Pack.tab16:rtab .any (opsOf Try.f29 16)=seal_Pack.T16:=by kernel_rfl
theorem seal_Pack.bits16:waitsOk seal_Pack.T16.2 seal_Pack.B16=true:=by kernel_rfl
set_option maxHeartbeats 8000000 in
set_option maxRecDepth 100000 in
theorem seal_Pack.calls (k:Nat) (A0:Option Addr) (c0:Nat) (l0:List Int) (A1:Option Addr) (c1:Nat) (l1:List Int) (r1:List Int) (r2:Int) (w:World) (hr0:Kd.C (Kd.int .i64) w A0 l0.length l0) (hc0:l0.length≤c0) (hr1:Kd.C (Kd.int .u64) w A1 l1.length l1) (hc1:l1.length≤c1) (h:seal_Pack.f k l0 l1=some (r1,r2)) :
  Calls Try.prog 29 #[.slice A0 l0.length c0,.slice A1 l1.length c1] w fun e w'=>∃ v0_:Value,e=.returned (.tuple #[v0_,.int .i64 r2])∧Kd.R (Kd.int .u8) 5 w' w.heap.size (fun _=>True) v0_ r1∧Below w.heap.size w w':=by
 have HR0:=zm hr0
 have HC0:=zm hc0
 clear hr0 hc0
 have HR1:=zm hr1
 have HC1:=zm hc1
 clear hr1 hc1
 have HB:=zm (Below.refl w.heap.size w)
 have H:((seal_Width.f k l0).bind fun bt105=>(if bt105.2=0 then (if (l1.length:Int)=(l0.length:Int) then (if 0≤bt105.1 then (if (bt105.1:Int).toNat≤281474976710656 then (seal_Pack.l0 k l1 (List.replicate (bt105.1:Int).toNat 0) 0 l0 (l0.length:Int) 0) else (none)) else (none)) else (some (([]:List Int),1))) else (some (([]:List Int),bt105.2))))=some (r1,r2):=h
 clear h
 replace H:=Option.bind_eq_some_iff.mp H
 obtain ⟨⟨t105,t106⟩,A30,H⟩:=H
 replace H:(if t106=0 then (if (l1.length:Int)=(l0.length:Int) then (if 0≤t105 then (if (t105:Int).toNat≤281474976710656 then (seal_Pack.l0 k l1 (List.replicate (t105:Int).toNat 0) 0 l0 (l0.length:Int) 0) else (none)) else (none)) else (some (([]:List Int),1))) else (some (([]:List Int),t106)))=some (r1,r2):=H
 have A3:=zm A30
 clear A30
 by_cases c4:t106=0
 ·rw [if_pos c4] at H
  have c4b0:(t106 == 0)=true:=beq_iff_eq.mpr c4
  have c4b1:(t106 != 0)=false:=bne_eq_false_iff_eq.mpr c4
  clear c4
  by_cases c5:(l1.length:Int)=(l0.length:Int)
  ·rw [if_pos c5] at H
   have c5b0:((l1.length:Int) == (l0.length:Int))=true:=beq_iff_eq.mpr c5
   have c5b1:((l1.length:Int) != (l0.length:Int))=false:=bne_eq_false_iff_eq.mpr c5
   have c5b2:(l1.length == l0.length)=true:=by first|simpa using c5|(simp at c5 ⊢;omega)
   clear c5
   by_cases c6:0≤t105
   ·rw [if_pos c6] at H
    have c6b0:=eq_true c6
    have c6b1:decide (0≤t105)=true:=decide_eq_true c6
    clear c6
    by_cases c7:(t105:Int).toNat≤281474976710656
    ·rw [if_pos c7] at H
     have c7b0:=eq_true c7
     have c7b1:decide ((t105:Int).toNat≤281474976710656)=true:=decide_eq_true c7
     clear c7
     obtain ⟨y107,hy107⟩:∃ y_:List Int,y_=(List.replicate (t105:Int).toNat 0):=⟨_,rfl⟩
     replace H:(seal_Pack.l0 k l1 y107 0 l0 (l0.length:Int) 0)=some (r1,r2):=by first|(rw [hy107];with_reducible exact H)|(have H2_:=(Option.bind_some _ _).symm.trans H;rw [hy107];with_reducible exact H2_)|(have H2_:=(Option.bind_some _ _).symm.trans H;with_reducible exact H2_)|with_reducible exact H|(rw [hy107];exact H)|exact H
     have Ny107:=zm hy107
     clear hy107
     have H':=zm H
     clear H
     go_enter Try.func29,Try.ntmps29
     go_wp2_with (first|((with_reducible refine gate_callee (f:=50) rfl ?_);refine goesL_ (some 15) rfl rfl Try.func50 (by kernel_rfl) rfl #[.slice A0 l0.length c0] rfl (by (try simp only [List.map_toArray,List.map_cons,List.map_nil]);first|done|rfl|(simp only [List.length_drop,List.length_take];rfl)) ?_;(with_reducible refine (seal_Width.calls k _ _ l0 t105 t106 _ ?side1 ?side2 A3.out).mono ?_);(case side1=>repeat (first|exact HR0.out|(with_reducible refine Kd.C_alloc ?_ _)|(with_reducible refine Kd.C_drewN ?_ _)|(with_reducible refine Kd.C_drew ?_)));(case side2=>exact HC0.out);rintro e w' ⟨rfl,⟨nd,rfl⟩⟩;refine ⟨_,rfl,?_⟩)|((with_reducible refine gate_dst (N:=27) rfl ?_);refine Kd.R_make (Kd.int .u8) _ 5 rfl (N:=27) rfl 24 _ _ rfl t105 rfl rfl Try.underlying24 (.int .u8 0) 1 info5 rfl (by decide) (by omega) 0 (ok:=fun _=>True) (okp:=fun _=>True) rfl (fun _ hk=>hk) trivial (za_) (Nat.le_trans (Nat.mul_le_mul_right _ (za_:t105.toNat≤281474976710656)) (by omega)) (Below.refl _ _) (Nat.le_refl _) ?_;intro v108 w8 ho9 hb hg_ hnew_;clear hg_ hnew_;(first|rw [← Ny107.out] at ho9|(simp only [Int.reduceToNat] at ho9;rw [← Ny107.out] at ho9));have n0_:=zm (Kd.R_lower ho9 (below_size (zb_)));have n1_:=zkH HB hb;clear HB;have HO109:=n0_;have HB:=n1_;clear n0_ n1_;clear hb ho9))
     go_loopg [9,30] k (fun kq v9 v30 w'=>∃ (x8_1:List Int) (x9_1:Int) (x30_1:Int),v9=.int .i64 x9_1∧v30=.int .i64 x30_1∧Aside0 (seal_Pack.l0 kq l1 x8_1 x9_1 l0 (l0.length:Int) x30_1=some (r1,r2))∧Aside0 (kq≤k)∧Aside0 (Kd.R (Kd.int .u8) 5 w' w.heap.size (fun _=>True) v108 x8_1)∧Aside0 (Below w.heap.size w w'))
     case atStart=>exact ⟨(y107),(0),(0),zs_,zs_,H',⟨Nat.le_refl _⟩,⟨by (with_reducible repeat (first|apply zrA|apply zrN|apply zrD));exact HO109.out⟩,⟨zb_⟩⟩
     case round =>
      clear H'
      try clear c1
      try clear c2
      try clear p2
      try clear c4
      try clear c4b0
      try clear c4b1
      try clear c5
      try clear c5b0
      try clear c5b1
      try clear c5b2
      try clear c6
      try clear c6b0
      try clear c6b1
      try clear c7
      try clear c7b0
      try clear c7b1
      obtain ⟨x8_1,x9_1,x30_1,rfl,rfl,HA,HK1,HO_8,HB⟩:=hrel
      cases gk with
      | zero=>exact absurd HA.out (by simp [seal_Pack.l0])
      | succ k1 =>
       have H:=HA.out
       clear HA
       simp only [seal_Pack.l0] at H
       by_cases c10:x30_1 < (l0.length:Int)
       ·rw [if_pos c10] at H
        have c10b0:decide (x30_1 < (l0.length:Int))=true:=decide_eq_true c10
        clear c10
        by_cases c11:0≤x30_1
        ·rw [if_pos c11] at H
         have c11b0:decide (0≤x30_1)=true:=decide_eq_true c11
         clear c11
         by_cases c12:x30_1 < (l0.length:Int)
         ·rw [if_pos c12] at H
          have c12b0:decide (x30_1 < (l0.length:Int))=true:=decide_eq_true c12
          clear c12
          by_cases c13:x30_1 < (l1.length:Int)
          ·rw [if_pos c13] at H
           have c13b0:decide (x30_1 < (l1.length:Int))=true:=decide_eq_true c13
           clear c13
           replace H:=Option.bind_eq_some_iff.mp H
           obtain ⟨t112,A140,H⟩:=H
           replace H:(if t112 > (rd l0 x30_1) then (some (([]:List Int),1)) else (seal_Pack.l1 k1 l1 x8_1 x9_1 x30_1 (rd l0 x30_1) l0 (l0.length:Int) x30_1 (rd l0 x30_1) 0))=some (r1,r2):=H
           have A14:=zm A140
           clear A140
           by_cases c15:t112 > (rd l0 x30_1)
           ·rw [if_pos c15] at H
            have c15b0:decide ((rd l0 x30_1) < t112)=true:=decide_eq_true c15
            clear c15
            simp only [Option.some.injEq,Prod.mk.injEq] at H
            obtain ⟨rfl,rfl⟩:=H
            have p110:0≤(x30_1:Int):=za_
            have q110:x30_1 < (l0.length:Int):=za_
            obtain ⟨ad110,e110,hx110_0⟩:=Kd.at_int HR0.out x30_1 p110 q110
            cases e110
            replace hx110_0:=zhx HB hx110_0
            replace p110:=eq_true p110
            replace q110:=eq_true q110
            have p111:0≤(x30_1:Int):=za_
            have q111:x30_1 < (l1.length:Int):=za_
            obtain ⟨ad111,e111,hx111_0⟩:=Kd.at_int HR1.out x30_1 p111 q111
            cases e111
            replace hx111_0:=zhx HB hx111_0
            replace p111:=eq_true p111
            replace q111:=eq_true q111
            go_wp2_with (first|((with_reducible refine gate_callee (f:=51) rfl ?_);refine goesL_ (some 39) rfl rfl Try.func51 (by kernel_rfl) rfl #[.int .u64 (rd l1 x30_1)] rfl (by (try simp only [List.map_toArray,List.map_cons,List.map_nil]);first|done|rfl|(simp only [List.length_drop,List.length_take];rfl)) ?_;(with_reducible refine (bits_Len64.calls k1 (rd l1 x30_1) t112 _ A14.out).mono ?_);rintro e w' ⟨rfl,⟨nd,rfl⟩⟩;refine ⟨_,rfl,?_⟩))
            go_ret2
            exact ⟨_,ze_,zr_,zb_⟩
           ·rw [if_neg c15] at H
            have c15b0:decide ((rd l0 x30_1) < t112)=false:=decide_eq_false c15
            clear c15
            have H':=zm H
            clear H
            have p110:0≤(x30_1:Int):=za_
            have q110:x30_1 < (l0.length:Int):=za_
            obtain ⟨ad110,e110,hx110_0⟩:=Kd.at_int HR0.out x30_1 p110 q110
            cases e110
            replace hx110_0:=zhx HB hx110_0
            replace p110:=eq_true p110
            replace q110:=eq_true q110
            have p111:0≤(x30_1:Int):=za_
            have q111:x30_1 < (l1.length:Int):=za_
            obtain ⟨ad111,e111,hx111_0⟩:=Kd.at_int HR1.out x30_1 p111 q111
            cases e111
            replace hx111_0:=zhx HB hx111_0
            replace p111:=eq_true p111
            replace q111:=eq_true q111
            go_wp2_with (first|((with_reducible refine gate_callee (f:=51) rfl ?_);refine goesL_ (some 39) rfl rfl Try.func51 (by kernel_rfl) rfl #[.int .u64 (rd l1 x30_1)] rfl (by (try simp only [List.map_toArray,List.map_cons,List.map_nil]);first|done|rfl|(simp only [List.length_drop,List.length_take];rfl)) ?_;(with_reducible refine (bits_Len64.calls k1 (rd l1 x30_1) t112 _ A14.out).mono ?_);rintro e w' ⟨rfl,⟨nd,rfl⟩⟩;refine ⟨_,rfl,?_⟩))
            go_loopg [9,43] k1 (fun kq v9 v43 w'=>∃ (x8_2:List Int) (x9_2:Int) (x43_2:Int),v9=.int .i64 x9_2∧v43=.int .i64 x43_2∧Aside0 (seal_Pack.l1 kq l1 x8_2 x9_2 x30_1 (rd l0 x30_1) l0 (l0.length:Int) x30_1 (rd l0 x30_1) x43_2=some (r1,r2))∧Aside0 (kq≤k1)∧Aside0 (Kd.R (Kd.int .u8) 5 w' w.heap.size (fun _=>True) v108 x8_2)∧Aside0 (Below w.heap.size w w'))
            case atStart=>exact ⟨(x8_1),(x9_1),(0),zs_,zs_,H',⟨Nat.le_refl _⟩,⟨by (with_reducible repeat (first|apply zrA|apply zrN|apply zrD));exact HO_8.out⟩,⟨zb_⟩⟩
            case round =>
             clear H'
             try clear c1
             try clear p1
             try clear q1
             try clear hx1
             try clear c2
             try clear p2
             try clear c4
             try clear c4b0
             try clear c4b1
             try clear c5
             try clear c5b0
             try clear c5b1
             try clear c5b2
             try clear c6
             try clear c6b0
             try clear c6b1
             try clear c7
             try clear c7b0
             try clear c7b1
             try clear c10
             try clear c10b0
             try clear c11
             try clear c11b0
             try clear p11
             try clear q11
             try clear hx11
             try clear c12
             try clear c12b0
             try clear c13
             try clear c13b0
             try clear c15
             try clear c15b0
             try clear hx110_0
             try clear hx111_0
             try clear p110
             try clear p111
             try clear p2
             try clear q110
             try clear q111
             obtain ⟨x8_2,x9_2,x43_2,rfl,rfl,HA,HK2,HO_8,HB⟩:=hrel
             cases gk with
             | zero=>exact absurd HA.out (by simp [seal_Pack.l1])
             | succ k2 =>
              have H:=HA.out
              clear HA
              simp only [seal_Pack.l1] at H
              by_cases c16:x43_2 < (rd l0 x30_1)
              ·rw [if_pos c16] at H
               have c16b0:decide (x43_2 < (rd l0 x30_1))=true:=decide_eq_true c16
               clear c16
               obtain ⟨ji17,hji17⟩:∃ j_:Int,(wrap64 (Int.tdiv x9_2 8))=j_:=⟨_,rfl⟩
               replace H:(if 0≤(ji17) then (if (ji17) < (x8_2.length:Int) then (if 0≤x30_1 then (if x30_1 < (l1.length:Int) then (if 0≤(wrap64 ((wrap64 ((rd l0 x30_1) - 1)) - x43_2)) then (if 0≤(wrap64 (7 - (Int.tmod x9_2 8))) then (seal_Pack.l1 k2 l1 (x8_2.set ((ji17):Int).toNat (Go.bits .or .u8 (rd x8_2 (ji17)) (shl .u8 ((Go.bits .and .u64 (shr .u64 (rd l1 x30_1) (wrap64 ((wrap64 ((rd l0 x30_1) - 1)) - x43_2))) 1) % 256) (wrap64 (7 - (Int.tmod x9_2 8)))))) (wrap64 (x9_2 + 1)) x30_1 (rd l0 x30_1) l0 (l0.length:Int) x30_1 (rd l0 x30_1) (wrap64 (x43_2 + 1))) else (none)) else (none)) else (none)) else (none)) else (none)) else (none))=some (r1,r2):=by first|(rw [hji17] at H;exact H)|(simp only [hji17] at H ⊢;exact H)
               have hji17w:(IntKind.i64.wrap (Int.tdiv x9_2 8))=ji17:=(i64_w _).trans hji17
               by_cases c18:0≤(ji17)
               ·rw [if_pos c18] at H
                have c18b0:decide (0≤(ji17))=true:=decide_eq_true c18
                clear c18
                by_cases c19:(ji17) < (x8_2.length:Int)
                ·rw [if_pos c19] at H
                 have c19b0:decide ((ji17) < (x8_2.length:Int))=true:=decide_eq_true c19
                 clear c19
                 by_cases c20:0≤x30_1
                 ·rw [if_pos c20] at H
                  have c20b0:decide (0≤x30_1)=true:=decide_eq_true c20
                  clear c20
                  by_cases c21:x30_1 < (l1.length:Int)
                  ·rw [if_pos c21] at H
                   have c21b0:decide (x30_1 < (l1.length:Int))=true:=decide_eq_true c21
                   clear c21
                   obtain ⟨ji22,hji22⟩:∃ j_:Int,(wrap64 ((wrap64 ((rd l0 x30_1) - 1)) - x43_2))=j_:=⟨_,rfl⟩
                   replace H:(if 0≤(ji22) then (if 0≤(wrap64 (7 - (Int.tmod x9_2 8))) then (seal_Pack.l1 k2 l1 (x8_2.set ((ji17):Int).toNat (Go.bits .or .u8 (rd x8_2 (ji17)) (shl .u8 ((Go.bits .and .u64 (shr .u64 (rd l1 x30_1) (ji22)) 1) % 256) (wrap64 (7 - (Int.tmod x9_2 8)))))) (wrap64 (x9_2 + 1)) x30_1 (rd l0 x30_1) l0 (l0.length:Int) x30_1 (rd l0 x30_1) (wrap64 (x43_2 + 1))) else (none)) else (none))=some (r1,r2):=by first|(rw [hji22] at H;exact H)|(simp only [hji22] at H ⊢;exact H)
                   have hji22w:(IntKind.i64.wrap ((wrap64 ((rd l0 x30_1) - 1)) - x43_2))=ji22:=(i64_w _).trans hji22
                   by_cases c23:0≤(ji22)
                   ·rw [if_pos c23] at H
                    have c23b0:=eq_true c23
                    have c23b1:decide (0≤(ji22))=true:=decide_eq_true c23
                    clear c23
                    obtain ⟨ji24,hji24⟩:∃ j_:Int,(shr .u64 (rd l1 x30_1) (ji22))=j_:=⟨_,rfl⟩
                    replace H:(if 0≤(wrap64 (7 - (Int.tmod x9_2 8))) then (seal_Pack.l1 k2 l1 (x8_2.set ((ji17):Int).toNat (Go.bits .or .u8 (rd x8_2 (ji17)) (shl .u8 ((Go.bits .and .u64 (ji24) 1) % 256) (wrap64 (7 - (Int.tmod x9_2 8)))))) (wrap64 (x9_2 + 1)) x30_1 (rd l0 x30_1) l0 (l0.length:Int) x30_1 (rd l0 x30_1) (wrap64 (x43_2 + 1))) else (none))=some (r1,r2):=by first|(rw [hji24] at H;exact H)|(simp only [hji24] at H ⊢;exact H)
                    have hji24_:((rd l1 x30_1) / 2 ^ min (ji22).toNat 64)=ji24:=hji24
                    have hji24z:(ji22)≤64 → ((rd l1 x30_1) / 2 ^ (ji22).toNat)=ji24:=shr_small hji24
                    obtain ⟨ji25,hji25⟩:∃ j_:Int,(wrap64 (7 - (Int.tmod x9_2 8)))=j_:=⟨_,rfl⟩
                    replace H:(if 0≤(ji25) then (seal_Pack.l1 k2 l1 (x8_2.set ((ji17):Int).toNat (Go.bits .or .u8 (rd x8_2 (ji17)) (shl .u8 ((Go.bits .and .u64 (ji24) 1) % 256) (ji25)))) (wrap64 (x9_2 + 1)) x30_1 (rd l0 x30_1) l0 (l0.length:Int) x30_1 (rd l0 x30_1) (wrap64 (x43_2 + 1))) else (none))=some (r1,r2):=by first|(rw [hji25] at H;exact H)|(simp only [hji25] at H ⊢;exact H)
                    have hji25w:(IntKind.i64.wrap (7 - (Int.tmod x9_2 8)))=ji25:=(i64_w _).trans hji25
                    by_cases c26:0≤(ji25)
                    ·rw [if_pos c26] at H
                     have c26b0:=eq_true c26
                     have c26b1:decide (0≤(ji25))=true:=decide_eq_true c26
                     clear c26
                     obtain ⟨ji27,hji27⟩:∃ j_:Int,(shl .u8 ((Go.bits .and .u64 (ji24) 1) % 256) (ji25))=j_:=⟨_,rfl⟩
                     replace H:(seal_Pack.l1 k2 l1 (x8_2.set ((ji17):Int).toNat (Go.bits .or .u8 (rd x8_2 (ji17)) (ji27))) (wrap64 (x9_2 + 1)) x30_1 (rd l0 x30_1) l0 (l0.length:Int) x30_1 (rd l0 x30_1) (wrap64 (x43_2 + 1)))=some (r1,r2):=by first|(rw [hji27] at H;exact H)|(simp only [hji27] at H ⊢;exact H)
                     have hji27_:(IntKind.u8.wrap (((Go.bits .and .u64 (ji24) 1) % 256) * 2 ^ min (ji25).toNat 8))=ji27:=hji27
                     have hji27z:(ji25)≤8 → (IntKind.u8.wrap (((Go.bits .and .u64 (ji24) 1) % 256) * 2 ^ (ji25).toNat))=ji27:=shl_small hji27
                     have hji27m:(((Go.bits .and .u64 (ji24) 1) % 256) * 2 ^ min (ji25).toNat 8) % 256=ji27:=(IntKind.wrap_u8 _).symm.trans hji27_
                     have hji27n:(ji25)≤8 → (((Go.bits .and .u64 (ji24) 1) % 256) * 2 ^ (ji25).toNat) % 256=ji27:=fun hle_=>(IntKind.wrap_u8 _).symm.trans (hji27z hle_)
                     obtain ⟨y115,hy115⟩:∃ y_:List Int,y_=(x8_2.set ((ji17):Int).toNat (Go.bits .or .u8 (rd x8_2 (ji17)) (ji27))):=⟨_,rfl⟩
                     replace H:(seal_Pack.l1 k2 l1 y115 (wrap64 (x9_2 + 1)) x30_1 (rd l0 x30_1) l0 (l0.length:Int) x30_1 (rd l0 x30_1) (wrap64 (x43_2 + 1)))=some (r1,r2):=by first|(rw [hy115];with_reducible exact H)|(have H2_:=(Option.bind_some _ _).symm.trans H;rw [hy115];with_reducible exact H2_)|(have H2_:=(Option.bind_some _ _).symm.trans H;with_reducible exact H2_)|with_reducible exact H|(rw [hy115];exact H)|exact H
                     have Ny115:=zm hy115
                     clear hy115
                     have H':=zm H
                     clear H
                     try go_wp2
                     have n0_:=zm (zrD HO_8.out)
                     have n1_:=zm (zlD HB.out)
                     clear HO_8 HB
                     have HO_8:=n0_
                     have HB:=n1_
                     clear n0_ n1_
                     obtain ⟨Ao30,co30,eo30⟩:=Kd.R_slice HO_8.out
                     (first|subst eo30|(injection eo30 with f1_ f2_ f3_;have f4_:=f1_.symm;have f5_:=f3_.symm;clear f1_ f2_ f3_;subst f4_;subst f5_))
                     have p113:0≤((ji17):Int):=za_
                     have q113:(ji17) < (x8_2.length:Int):=za_
                     obtain ⟨ad113,e113,hx113_0⟩:=Kd.at_int (Kd.R_reads' HO_8.out).2.2 (ji17) p113 q113
                     cases e113
                     replace p113:=eq_true p113
                     replace q113:=eq_true q113
                     have p114:0≤(x30_1:Int):=za_
                     have q114:x30_1 < (l1.length:Int):=za_
                     obtain ⟨ad114,e114,hx114_0⟩:=Kd.at_int HR1.out x30_1 p114 q114
                     have hw114_0:=hx114_0
                     obtain rfl:ad111=ad114:=(by injection e114)
                     replace hx114_0:=zhx HB hx114_0
                     replace p114:=eq_true p114
                     replace q114:=eq_true q114
                     have p28:0≤((ji17):Int):=za_
                     have q28:((ji17):Int) < ((x8_2.length:Int):Int):=za_
                     obtain ⟨go28,co28,eo28,gb28,gl28,cl28,HG28⟩:=Kd.R_form HO_8.out (by omega)
                     (first|cases eo28|(injection eo28 with ea_ en_ ec_;(first|subst ea_|(injection ea_ with ea_;subst ea_));subst ec_;clear en_))
                     have GB28:=zm gb28
                     have GG28:=zm HG28
                     clear gb28 gl28 HG28
                     (first|simp only [add_plain] at hx113_0|skip)
                     obtain ⟨hx28_0,hf28_0⟩:=Kd.R_celln 0 HO_8.out ((ji17):Int) p28 q28
                     replace p28:=eq_true p28
                     replace q28:=eq_true q28
                     have HP31:=Kd.R_putn HO_8.out ((ji17):Int) (Go.bits .or .u8 (rd x8_2 (ji17)) (ji27))
                     rw [← Ny115.out] at HP31
                     have HQ31:=zm HP31
                     clear HP31
                     refine start_ (n:=23) (S:=fun w'=>w'.cell? ⟨go28,((ji17)).toNat,none⟩=some (.int .u8 (rd x8_2 (ji17)))∧w'.cell? (ad111.add (x30_1).toNat)=some (.int .u64 (rd l1 x30_1))) (ds:=[22]) (Array.replicate 23 false) (by kernel_rfl) rfl rfl ⟨hx113_0,(zhx HB hw114_0)⟩ (fun hHeld=>?_);refine with_tabW seal_Pack.tab16 seal_Pack.bits16 (fun HT_ HW_=>?_)
                     generalize wr.drew=w29 at HO_8 HB GG28 HQ31 hf28_0 hx113_0 hx114_0 hx28_0 hHeld ⊢
                     refine zpu 0 ?_
                     refine zpu 1 ?_
                     refine zpu 2 ?_
                     refine zpu 3 ?_
                     refine zpu 5 ?_
                     refine zpu 6 ?_
                     refine zpu 7 ?_
                     refine zpu 9 ?_
                     refine zpu 10 ?_
                     refine zpu 11 ?_
                     refine zpu 12 ?_
                     refine zpu 16 ?_
                     refine zpu 17 ?_
                     refine zpu 18 ?_
                     refine zta 4 hHeld ?_
                     refine zta 8 hHeld ?_
                     refine zpu 13 ?_
                     refine zpu 14 ?_
                     refine zpu 15 ?_
                     refine zpu 19 ?_
                     refine zpu 20 ?_
                     refine zpu 21 ?_
                     refine zla 22 none (fun K hK=>?_)
                     refine skip_ (w1:=?_) (by rfl) rfl ?_ ?_
                     rotate_left
                     ·go_simp
                      rfl
                     refine hK.out _ _ ?_
                     clear hK K
                     refine zdo ?_
                     try go_wp2
                     go_roundg k2
                     case measure=>have:=HK1.out;have:=HK2.out;omega
                     case rel=>exact ⟨(y115),(wrap64 (x9_2 + 1)),(wrap64 (x43_2 + 1)),zs_,zs_,H',⟨by have:=HK1.out;have:=HK2.out;omega⟩,⟨by (with_reducible repeat (first|apply zrA|apply zrN|apply zrD));exact HQ31.out⟩,⟨by repeat (first|(with_reducible first|exact HB.out|apply zlA|apply zlN|apply zlD|refine zlS ?_ GB28.out)|exact HB.out)⟩⟩
                    ·rw [if_neg c26] at H
                     exact absurd H (by simp)
                   ·rw [if_neg c23] at H
                    exact absurd H (by simp)
                  ·rw [if_neg c21] at H
                   exact absurd H (by simp)
                 ·rw [if_neg c20] at H
                  exact absurd H (by simp)
                ·rw [if_neg c19] at H
                 exact absurd H (by simp)
               ·rw [if_neg c18] at H
                exact absurd H (by simp)
              ·rw [if_neg c16] at H
               have c16b0:decide (x43_2 < (rd l0 x30_1))=false:=decide_eq_false c16
               clear c16
               have H':=zm H
               clear H
               go_wp2
               go_roundg k2
               case measure=>have:=HK1.out;have:=HK2.out;omega
               case rel=>exact ⟨(x8_2),(x9_2),(wrap64 (x30_1 + 1)),zs_,zs_,H',⟨by have:=HK1.out;have:=HK2.out;omega⟩,⟨by (with_reducible repeat (first|apply zrA|apply zrN|apply zrD));exact HO_8.out⟩,⟨zb_⟩⟩
          ·rw [if_neg c13] at H
           exact absurd H (by simp)
         ·rw [if_neg c12] at H
          exact absurd H (by simp)
        ·rw [if_neg c11] at H
         exact absurd H (by simp)
       ·rw [if_neg c10] at H
        have c10b0:decide (x30_1 < (l0.length:Int))=false:=decide_eq_false c10
        clear c10
        simp only [Option.some.injEq,Prod.mk.injEq] at H
        obtain ⟨rfl,rfl⟩:=H
        go_wp2
        go_ret2
        exact ⟨_,ze_,by (with_reducible repeat (first|apply zrA|apply zrN|apply zrD));exact HO_8.out,zb_⟩
    ·rw [if_neg c7] at H
     exact absurd H (by simp)
   ·rw [if_neg c6] at H
    exact absurd H (by simp)
  ·rw [if_neg c5] at H
   have c5b0:((l1.length:Int) == (l0.length:Int))=false:=beq_eq_false_iff_ne.mpr c5
   have c5b1:((l1.length:Int) != (l0.length:Int))=true:=bne_iff_ne.mpr c5
   have c5b2:(l1.length == l0.length)=false:=by first|simpa using c5|(simp at c5 ⊢;omega)
   simp only [Option.some.injEq,Prod.mk.injEq] at H
   obtain ⟨rfl,rfl⟩:=H
   go_enter Try.func29,Try.ntmps29
   go_wp2_with (first|((with_reducible refine gate_callee (f:=50) rfl ?_);refine goesL_ (some 15) rfl rfl Try.func50 (by kernel_rfl) rfl #[.slice A0 l0.length c0] rfl (by (try simp only [List.map_toArray,List.map_cons,List.map_nil]);first|done|rfl|(simp only [List.length_drop,List.length_take];rfl)) ?_;(with_reducible refine (seal_Width.calls k _ _ l0 t105 t106 _ ?side1 ?side2 A3.out).mono ?_);(case side1=>repeat (first|exact HR0.out|(with_reducible refine Kd.C_alloc ?_ _)|(with_reducible refine Kd.C_drewN ?_ _)|(with_reducible refine Kd.C_drew ?_)));(case side2=>exact HC0.out);rintro e w' ⟨rfl,⟨nd,rfl⟩⟩;refine ⟨_,rfl,?_⟩))
   go_ret2
   exact ⟨_,ze_,zr_,zb_⟩
 ·rw [if_neg c4] at H
  have c4b0:(t106 == 0)=false:=beq_eq_false_iff_ne.mpr c4
  have c4b1:(t106 != 0)=true:=bne_iff_ne.mpr c4
  simp only [Option.some.injEq,Prod.mk.injEq] at H
  obtain ⟨rfl,rfl⟩:=H
  go_enter Try.func29,Try.ntmps29
  go_wp2_with (first|((with_reducible refine gate_callee (f:=50) rfl ?_);refine goesL_ (some 15) rfl rfl Try.func50 (by kernel_rfl) rfl #[.slice A0 l0.length c0] rfl (by (try simp only [List.map_toArray,List.map_cons,List.map_nil]);first|done|rfl|(simp only [List.length_drop,List.length_take];rfl)) ?_;(with_reducible refine (seal_Width.calls k _ _ l0 t105 t106 _ ?side1 ?side2 A3.out).mono ?_);(case side1=>repeat (first|exact HR0.out|(with_reducible refine Kd.C_alloc ?_ _)|(with_reducible refine Kd.C_drewN ?_ _)|(with_reducible refine Kd.C_drew ?_)));(case side2=>exact HC0.out);rintro e w' ⟨rfl,⟨nd,rfl⟩⟩;refine ⟨_,rfl,?_⟩))
  go_ret2
  exact ⟨_,ze_,zr_,zb_⟩
end Go.Proofs.Ytdohpjjggjehfaa.Print
end
section
namespace Go.Proofs.Ytdohpjjggjehfaa.Print
open Go.RowKit Go.Proofs.YtdohpjjggjehfaaW.PrintWords Go.Proofs.YtdohpjjggjehfaaW.PrintLast Go.Proofs.YtdohpjjggjehfaaW.PrintMore
attribute [local go_sem] max2_int min2_int max_two min_two max_three min_three max_four min_four   -- for this text's walks alone
attribute [local go_sem ↓] Go.Proofs.Ytdohpjjggjehfaa.Sem.isSome_setCell
attribute [local go_sem] Go.Instr.field Go.asAgg
set_option linter.unusedVariables false
set_option linter.unusedSimpArgs false
-- CX
-- PG
def pg_of (d h:List Int):List Int:=splice (splice pz 0 (d.take 256)) 256 (h.take 32)
theorem pg_of_len (d h:List Int):(pg_of d h).length=288:=by
 unfold pg_of
 rw [splice_len,splice_len,pz_len]
 ·rw [pz_len,List.length_take];omega
 ·rw [splice_len,pz_len,List.length_take]
  ·omega
  ·rw [pz_len,List.length_take];omega
def page_Encode.f (k:Nat) (a0_0:Int) (a0_1:Int) (a0_2:Int) (a0_3:Int) (l1:List Int):Option (List Int × Int) :=
 (page_Check.f k a0_0 a0_1 a0_2 a0_3).bind fun e=>if e=0 then (if l1.length≤256 then
 (seal_Pack.f k [8,8,32,64,64] [IntKind.u64.wrap a0_0,0,IntKind.u64.wrap a0_1,IntKind.u64.wrap a0_2,IntKind.u64.wrap a0_3]).bind fun h=>if h.2=0 then
 (slices_Concat_byte_byte.f k [((pg_of l1 h.1).drop 0).take 256,((pg_of l1 h.1).drop 256).take 28]).bind fun b =>
 (seal_Seal.f k b).bind fun s=>if s.2=0 then if 4≤s.1.length then if s.1.length≤9223372036854775807 then some (splice (pg_of l1 h.1) 284 ((s.1.drop (s.1.length - 4)).take 4),0) else none else none
 else some (pz,s.2) else some (pz,h.2) else some (pz,3)) else some (pz,e)
theorem lo4 {n:Nat} (h:4≤n) (hn:n≤9223372036854775807):wrap64 ((n:Int) - 4)=((n - 4:Nat):Int):=by unfold wrap64;omega
theorem p4_len (l1 hd sb:List Int) (h:4≤sb.length):(splice (pg_of l1 hd) 284 ((sb.drop (sb.length - 4)).take 4)).length=288:=by
 rw [splice_len,pg_of_len]
 rw [pg_of_len,List.length_take,List.length_drop]
 omega
set_option maxHeartbeats 4000000 in
set_option maxRecDepth 100000 in
theorem page_Encode.calls (k:Nat) (a0_0:Int) (a0_1:Int) (a0_2:Int) (a0_3:Int) (A1:Option Addr) (c1:Nat) (l1:List Int) (r1:List Int) (r2:Int) (w:World) (hr1:Kd.C (Kd.int .u8) w A1 l1.length l1) (hc1:l1.length≤c1) (h:page_Encode.f k a0_0 a0_1 a0_2 a0_3 l1=some (r1,r2)) :
  Calls Try.prog 10 #[.agg #[.int .i64 a0_0,.int .i64 a0_1,.int .i64 a0_2,.int .i64 a0_3],.slice A1 l1.length c1] w fun e w'=>e=.returned (.tuple #[.agg (pc r1),.int .i64 r2])∧Below w.heap.size w w':=by
 have hu29:=Try.underlying29
 have hu23:=Try.underlying23
 have H:page_Encode.f k a0_0 a0_1 a0_2 a0_3 l1=some (r1,r2):=h
 clear h
 have hh_:=zm hr1;clear hr1;have hr1:=hh_;clear hh_;have hh_:=zm hc1;clear hc1;have hc1:=hh_;clear hh_
 unfold page_Encode.f at H
 have hg_:=Option.bind_eq_some_iff.mp H;clear H;obtain ⟨ec,F0,H⟩:=hg_;have hh_:=zm F0;clear F0;have F0:=hh_;clear hh_;(try dsimp only at H)
 by_cases hz:ec=0
 rotate_left
 ·rw [if_neg hz] at H
  simp only [Option.some.injEq,Prod.mk.injEq] at H
  obtain ⟨rfl,rfl⟩:=H
  have hz0:(ec != 0)=true:=bne_iff_ne.mpr hz
  clear hz
  go_enter Try.func10,Try.ntmps10
  go_wp2_with (first|((with_reducible refine gate_ (.box 23 _) rfl ?_);refine box_event rfl rfl (cs:=_) (t:=23) (by first|(go_simp;done)|(go_simp;rfl)) ?_;rintro g2 hg w1 hbk hb;skip;clear hg;have hh_:=zm hbk;clear hbk;have hbk:=hh_;clear hh_;have hh_:=zm hb;clear hb;have hb:=hh_;clear hh_)|((with_reducible refine gate_dst (N:=4) rfl ?_);(with_reducible refine gate_ (.alloc 29) rfl ?_);refine box_event rfl rfl (pg_new rfl) ?_;rintro g4 hg w1 hbk hb;have hge4:Aside0 (w.heap.size≤g4):=⟨by rw [hg];exact below_size (by repeat (first|exact Below.refl _ _|with_reducible apply zlN|with_reducible apply zlA|refine below_step ?_ (Aside0.out (by assumption))))⟩;clear hg;have hh_:=zm hbk;clear hbk;have hbk:=hh_;clear hh_;have hh_:=zm hb;clear hb;have hb:=hh_;clear hh_)|((with_reducible refine gate_ (.load 23 _) rfl ?_);refine Kd.event_run rfl (by apply pg_h23;exact rfl;exact rfl;exact (zbB (Aside0.out (by assumption)) (by repeat (first|exact Below.refl _ _|with_reducible apply zlN|with_reducible apply zlA|refine below_step ?_ (Aside0.out (by assumption)))))) ?_)|(go_at_call 12;refine (page_Check.calls k _ _ _ _ _ _ F0.out).mono ?_;rintro e wc ⟨rfl,hb⟩;have hh_:=zm hb;clear hb;have hb:=hh_;clear hh_)|((with_reducible refine gate_ (.build 29 #[]) rfl ?_);refine Kd.event_run rfl (pg_build rfl) ?_)|((with_reducible refine gate_ (.store 29 (.tmp 4) _) rfl ?_);refine pg_put (g:=g4) (q:=pz) rfl rfl (pg_store rfl rfl rfl (zbB (Aside0.out (by assumption)) (by repeat (first|exact Below.refl _ _|with_reducible apply zlN|with_reducible apply zlA|refine below_step ?_ (Aside0.out (by assumption))))) pz_len pz_len) (zbB (Aside0.out (by assumption)) (by repeat (first|exact Below.refl _ _|with_reducible apply zlN|with_reducible apply zlA|refine below_step ?_ (Aside0.out (by assumption))))) ?_;rintro w2 hq hfar hbel;have hb2:Aside0 (Below w.heap.size w w2):=⟨hbel _ _ (by repeat (first|exact Below.refl _ _|with_reducible apply zlN|with_reducible apply zlA|refine below_step ?_ (Aside0.out (by assumption)))) hge4.out⟩;clear hfar hbel;have hh_:=zm hq;clear hq;have hq:=hh_;clear hh_))
  refine bodyPost_ret (results_ct rfl _ _ g4 29 (pc pz) (0,0) _ rfl hq.out Try.underlying29 rfl (pg_size pz_len)) rfl ?_
  exact ⟨rfl,hb2.out⟩
 subst hz
 rw [if_pos rfl] at H
 by_cases hl:l1.length≤256
 rotate_left
 ·rw [if_neg hl] at H
  simp only [Option.some.injEq,Prod.mk.injEq] at H
  obtain ⟨rfl,rfl⟩:=H
  have hl0:decide (256 < (l1.length:Int))=true:=decide_eq_true (by omega)
  clear hl
  go_enter Try.func10,Try.ntmps10
  go_wp2_with (first|((with_reducible refine gate_ (.box 23 _) rfl ?_);refine box_event rfl rfl (cs:=_) (t:=23) (by first|(go_simp;done)|(go_simp;rfl)) ?_;rintro g2 hg w1 hbk hb;skip;clear hg;have hh_:=zm hbk;clear hbk;have hbk:=hh_;clear hh_;have hh_:=zm hb;clear hb;have hb:=hh_;clear hh_)|((with_reducible refine gate_dst (N:=4) rfl ?_);(with_reducible refine gate_ (.alloc 29) rfl ?_);refine box_event rfl rfl (pg_new rfl) ?_;rintro g4 hg w1 hbk hb;have hge4:Aside0 (w.heap.size≤g4):=⟨by rw [hg];exact below_size (by repeat (first|exact Below.refl _ _|with_reducible apply zlN|with_reducible apply zlA|refine below_step ?_ (Aside0.out (by assumption))))⟩;clear hg;have hh_:=zm hbk;clear hbk;have hbk:=hh_;clear hh_;have hh_:=zm hb;clear hb;have hb:=hh_;clear hh_)|((with_reducible refine gate_ (.load 23 _) rfl ?_);refine Kd.event_run rfl (by apply pg_h23;exact rfl;exact rfl;exact (zbB (Aside0.out (by assumption)) (by repeat (first|exact Below.refl _ _|with_reducible apply zlN|with_reducible apply zlA|refine below_step ?_ (Aside0.out (by assumption)))))) ?_)|(go_at_call 12;refine (page_Check.calls k _ _ _ _ _ _ F0.out).mono ?_;rintro e wc ⟨rfl,hb⟩;have hh_:=zm hb;clear hb;have hb:=hh_;clear hh_)|((with_reducible refine gate_ (.build 29 #[]) rfl ?_);refine Kd.event_run rfl (pg_build rfl) ?_)|((with_reducible refine gate_ (.store 29 (.tmp 4) _) rfl ?_);refine pg_put (g:=g4) (q:=pz) rfl rfl (pg_store rfl rfl rfl (zbB (Aside0.out (by assumption)) (by repeat (first|exact Below.refl _ _|with_reducible apply zlN|with_reducible apply zlA|refine below_step ?_ (Aside0.out (by assumption))))) pz_len pz_len) (zbB (Aside0.out (by assumption)) (by repeat (first|exact Below.refl _ _|with_reducible apply zlN|with_reducible apply zlA|refine below_step ?_ (Aside0.out (by assumption))))) ?_;rintro w2 hq hfar hbel;have hb2:Aside0 (Below w.heap.size w w2):=⟨hbel _ _ (by repeat (first|exact Below.refl _ _|with_reducible apply zlN|with_reducible apply zlA|refine below_step ?_ (Aside0.out (by assumption)))) hge4.out⟩;clear hfar hbel;have hh_:=zm hq;clear hq;have hq:=hh_;clear hh_))
  refine bodyPost_ret (results_ct rfl _ _ g4 29 (pc pz) (0,0) _ rfl hq.out Try.underlying29 rfl (pg_size pz_len)) rfl ?_
  exact ⟨rfl,hb2.out⟩
 rw [if_pos hl] at H
 have hl0:decide (256 < (l1.length:Int))=false:=decide_eq_false (by omega)
 have hg_:=Option.bind_eq_some_iff.mp H;clear H;obtain ⟨⟨hd,he⟩,F1,H⟩:=hg_;have hh_:=zm F1;clear F1;have F1:=hh_;clear hh_;(try dsimp only at H)
 have hh_:=zm H;clear H;have H:=hh_;clear hh_;have hh_:=zm hl;clear hl;have hl:=hh_;clear hh_
 go_enter Try.func10,Try.ntmps10
 go_wp2_with (first|((with_reducible refine gate_ (.box 23 _) rfl ?_);refine box_event rfl rfl (cs:=_) (t:=23) (by first|(go_simp;done)|(go_simp;rfl)) ?_;rintro g2 hg w1 hbk hb;skip;clear hg;have hh_:=zm hbk;clear hbk;have hbk:=hh_;clear hh_;have hh_:=zm hb;clear hb;have hb:=hh_;clear hh_)|((with_reducible refine gate_dst (N:=4) rfl ?_);(with_reducible refine gate_ (.alloc 29) rfl ?_);refine box_event rfl rfl (pg_new rfl) ?_;rintro g4 hg w1 hbk hb;have hge4:Aside0 (w.heap.size≤g4):=⟨by rw [hg];exact below_size (by repeat (first|exact Below.refl _ _|with_reducible apply zlN|with_reducible apply zlA|refine below_step ?_ (Aside0.out (by assumption))))⟩;clear hg;have hh_:=zm hbk;clear hbk;have hbk:=hh_;clear hh_;have hh_:=zm hb;clear hb;have hb:=hh_;clear hh_)|((with_reducible refine gate_ (.load 23 _) rfl ?_);refine Kd.event_run rfl (by apply pg_h23;exact rfl;exact rfl;exact (zbB (Aside0.out (by assumption)) (by repeat (first|exact Below.refl _ _|with_reducible apply zlN|with_reducible apply zlA|refine below_step ?_ (Aside0.out (by assumption)))))) ?_)|(go_at_call 12;refine (page_Check.calls k _ _ _ _ _ _ F0.out).mono ?_;rintro e wc ⟨rfl,hb⟩;have hh_:=zm hb;clear hb;have hb:=hh_;clear hh_))
 refine Cw.dstart (by as_aux_lemma=>kernel_rfl) rfl (fun wd hb=>?_)
 have hh_:=zm hb;clear hb;have hb:=hh_;clear hh_
 refine zpu 1 ?_
 refine Cw.dtk (i:=2) (v:=?_) (a':=?_) (by simp only [List.getElem?_toArray,List.getElem?_cons_succ,List.getElem?_cons_zero];rfl) rfl (by as_aux_lemma=>kernel_rfl) (by rfl) (by exact fun _ _ _ h=>h) ?_ (by repeat (first|exact Below.refl _ _|with_reducible apply zlN|with_reducible apply zlA|refine below_step ?_ (Aside0.out (by assumption)))) ?_ ?_
 rotate_left
 ·intro w' hs_
  have hs:=zm hs_
  clear hs_
  apply Eq.trans
  ·apply pg_c3
   ·rfl
   ·rfl
   ·exact (zbB (Aside0.out (by assumption)) (by repeat (first|exact Below.refl _ _|with_reducible apply zlN|with_reducible apply zlA|refine below_step ?_ (Aside0.out (by assumption)))))
   ·rfl
  ·rfl
 rotate_left
 ·simp only [Act.put,List.setIfInBounds_toArray,List.set_cons_zero,List.set_cons_succ,i64_w,i32_w]
  rfl
 refine zpu 3 ?_
 refine zpu 4 ?_
 refine Cw.dtk (i:=5) (v:=?_) (a':=?_) (by simp only [List.getElem?_toArray,List.getElem?_cons_succ,List.getElem?_cons_zero];rfl) rfl (by as_aux_lemma=>kernel_rfl) (by rfl) (by exact fun _ _ _ h=>h) ?_ (by repeat (first|exact Below.refl _ _|with_reducible apply zlN|with_reducible apply zlA|refine below_step ?_ (Aside0.out (by assumption)))) ?_ ?_
 rotate_left
 ·intro w' hs_
  have hs:=zm hs_
  clear hs_
  apply Eq.trans
  ·apply pg_c3
   ·rfl
   ·rfl
   ·exact (zbB (Aside0.out (by assumption)) (by repeat (first|exact Below.refl _ _|with_reducible apply zlN|with_reducible apply zlA|refine below_step ?_ (Aside0.out (by assumption)))))
   ·rfl
  ·rfl
 rotate_left
 ·simp only [Act.put,List.setIfInBounds_toArray,List.set_cons_zero,List.set_cons_succ,i64_w,i32_w]
  rfl
 refine zpu 6 ?_
 refine zpu 7 ?_
 refine Cw.dtk (i:=8) (v:=?_) (a':=?_) (by simp only [List.getElem?_toArray,List.getElem?_cons_succ,List.getElem?_cons_zero];rfl) rfl (by as_aux_lemma=>kernel_rfl) (by rfl) (by exact fun _ _ _ h=>h) ?_ (by repeat (first|exact Below.refl _ _|with_reducible apply zlN|with_reducible apply zlA|refine below_step ?_ (Aside0.out (by assumption)))) ?_ ?_
 rotate_left
 ·intro w' hs_
  have hs:=zm hs_
  clear hs_
  apply Eq.trans
  ·apply pg_c2
   ·rfl
   ·rfl
   ·exact (zbB (Aside0.out (by assumption)) (by repeat (first|exact Below.refl _ _|with_reducible apply zlN|with_reducible apply zlA|refine below_step ?_ (Aside0.out (by assumption)))))
   ·rfl
  ·rfl
 rotate_left
 ·simp only [Act.put,List.setIfInBounds_toArray,List.set_cons_zero,List.set_cons_succ,i64_w,i32_w]
  rfl
 refine zpu 9 ?_
 refine zpu 10 ?_
 refine Cw.dtk (i:=11) (v:=?_) (a':=?_) (by simp only [List.getElem?_toArray,List.getElem?_cons_succ,List.getElem?_cons_zero];rfl) rfl (by as_aux_lemma=>kernel_rfl) (by rfl) (by exact fun _ _ _ h=>h) ?_ (by repeat (first|exact Below.refl _ _|with_reducible apply zlN|with_reducible apply zlA|refine below_step ?_ (Aside0.out (by assumption)))) ?_ ?_
 rotate_left
 ·intro w' hs_
  have hs:=zm hs_
  clear hs_
  apply Eq.trans
  ·apply pg_c2
   ·rfl
   ·rfl
   ·exact (zbB (Aside0.out (by assumption)) (by repeat (first|exact Below.refl _ _|with_reducible apply zlN|with_reducible apply zlA|refine below_step ?_ (Aside0.out (by assumption)))))
   ·rfl
  ·rfl
 rotate_left
 ·simp only [Act.put,List.setIfInBounds_toArray,List.set_cons_zero,List.set_cons_succ,i64_w,i32_w]
  rfl
 refine zpu 12 ?_
 refine zboth 0 13 22 35 (fun v W=>Aside0 (Kd.R (Kd.int .i64) 3 W wd.heap.size (fun _=>True) v [8,8,32,64,64])) (fun v W=>∃ g,v=.slice (some ⟨g,0,none⟩) 5 5∧Aside0 (W.heap[g]?=some (.cells #[.int .u64 (IntKind.u64.wrap a0_0),.int .u64 0,.int .u64 (IntKind.u64.wrap a0_1),.int .u64 (IntKind.u64.wrap a0_2),.int .u64 (IntKind.u64.wrap a0_3)] 58 (0,0)))) (by repeat (first|exact Below.refl _ _|with_reducible apply zlN|with_reducible apply zlA|refine below_step ?_ (Aside0.out (by assumption)))) ?_ ?_ ?_
 ·intro a' W K hS _ hk
  have hS:=zm (hS:Below wd.heap.size wd W)
  refine zgo Try.func30 #[] ?_
  refine (page_widths.calls [8,8,32,64,64] _ rfl).mono ?_
  rintro e wJ ⟨vJ,rfl,hoJ,hb⟩
  have hh_:=zm hoJ;clear hoJ;have hoJ:=hh_;clear hh_;have hh_:=zm hb;clear hb;have hb:=hh_;clear hh_
  refine ⟨_,rfl,hk _ _ (by repeat (first|exact Below.refl _ _|with_reducible apply zlN|with_reducible apply zlA|refine below_step ?_ (Aside0.out (by assumption)))) ⟨Kd.R_lower hoJ.out (below_size (by repeat (first|exact Below.refl _ _|with_reducible apply zlN|with_reducible apply zlA|refine below_step ?_ (Aside0.out (by assumption)))))⟩ ?_⟩
  rintro u ⟨g,rfl,hbk⟩
  exact ⟨g,rfl,⟨(zbB (Aside0.out (by assumption)) (by repeat (first|exact Below.refl _ _|with_reducible apply zlN|with_reducible apply zlA|refine below_step ?_ (Aside0.out (by assumption)))))⟩⟩
 ·intro a' W K hS ha hk
  have hS:=zm (hS:Below wd.heap.size wd W)
  have hk2:∀ W2,W2=W.alloc (.cells #[.int .u64 (IntKind.u64.wrap a0_0),.int .u64 0,.int .u64 (IntKind.u64.wrap a0_1),.int .u64 (IntKind.u64.wrap a0_2),.int .u64 (IntKind.u64.wrap a0_3)] 58 (0,0)) → K (a'.put (some 35) (.slice (some ⟨W.heap.size,0,none⟩) 5 5)) W2:=by
   intro W2 hW2
   have hb:=zm (show Below W.heap.size W W2 from by rw [hW2];exact zlA (Below.refl _ _) _)
   refine hk _ _ (by repeat (first|exact Below.refl _ _|with_reducible apply zlN|with_reducible apply zlA|refine below_step ?_ (Aside0.out (by assumption)))) ⟨W.heap.size,rfl,⟨by rw [hW2];exact blk_new W _⟩⟩ ?_
   intro u hu
   exact ⟨Kd.R_below hu.out (by repeat (first|exact Below.refl _ _|with_reducible apply zlN|with_reducible apply zlA|refine below_step ?_ (Aside0.out (by assumption))))⟩
  rcases ha with rfl|⟨u,rfl⟩
  ·exact value_ (by rfl) rfl (pg_lit5 rfl rfl rfl rfl rfl rfl) (hk2 _ rfl)
  ·exact value_ (by rfl) rfl (pg_lit5 rfl rfl rfl rfl rfl rfl) (hk2 _ rfl)
 rintro vw u W' hS hoJ ⟨gl,rfl,hbl⟩
 have hS:=zm (hS:Below wd.heap.size wd W')
 refine norm_ (a':=?_) ?_ ?_
 rotate_left
 ·simp only [Act.put,List.setIfInBounds_toArray,List.set_cons_zero,List.set_cons_succ,i64_w,i32_w]
  rfl
 obtain ⟨AJ,cJ,rfl⟩:=Kd.R_slice hoJ.out
 have hcJ:=zm (Kd.R_reads' hoJ.out).2.1
 have hrJ:=zm (Kd.R_reads' hoJ.out).2.2
 refine Cw.done1 (i:=14) (N:=some 36) (by simp only [List.getElem?_toArray,List.getElem?_cons_succ,List.getElem?_cons_zero];rfl) rfl (by as_aux_lemma=>kernel_rfl) (fun K hK=>?_)
 refine goes_ Try.func29 (by as_aux_lemma=>kernel_rfl) rfl _ (by rfl) rfl rfl (by go_simp;rfl) ?_
 refine (seal_Pack.calls k AJ cJ [8,8,32,64,64] _ 5 [IntKind.u64.wrap a0_0,0,IntKind.u64.wrap a0_1,IntKind.u64.wrap a0_2,IntKind.u64.wrap a0_3] hd he _ (Kd.C_below (Aside0.out (by assumption)) (by repeat (first|exact Below.refl _ _|with_reducible apply zlN|with_reducible apply zlA|refine below_step ?_ (Aside0.out (by assumption))))) hcJ.out (Cw.C_ints (zbB (Aside0.out (by assumption)) (by repeat (first|exact Below.refl _ _|with_reducible apply zlN|with_reducible apply zlA|refine below_step ?_ (Aside0.out (by assumption))))) rfl (by simp)) (by simp) F1.out).mono ?_
 rintro e wa ⟨v,rfl,ho,hb⟩
 obtain ⟨Ah,ch,rfl⟩:=Kd.R_slice ho
 have hrh:=zm (Kd.R_reads' ho).2.2
 clear ho
 have hh_:=zm hb;clear hb;have hb:=hh_;clear hh_
 refine ⟨_,rfl,?_⟩
 refine hK.out _ _ (by repeat (first|exact Below.refl _ _|with_reducible apply zlN|with_reducible apply zlA|refine below_step ?_ (Aside0.out (by assumption)))) (fun _=>?_)
 clear hK K
 refine znm (some 36) ?_
 refine zpu 15 ?_
 refine zpu 16 ?_
 refine zpu 17 ?_
 refine zpu 18 ?_
 refine zpu 19 ?_
 refine zdo ?_
 replace H:=H.out
 by_cases hz:he=0
 rotate_left
 ·rw [if_neg hz] at H
  simp only [Option.some.injEq,Prod.mk.injEq] at H
  obtain ⟨rfl,rfl⟩:=H
  have hz0:(he != 0)=true:=bne_iff_ne.mpr hz
  clear hz
  go_wp2_with (first|((with_reducible refine gate_ (.build 29 #[]) rfl ?_);refine Kd.event_run rfl (pg_build rfl) ?_)|((with_reducible refine gate_ (.store 29 (.tmp 4) _) rfl ?_);refine pg_put (g:=g4) (q:=pz) rfl rfl (pg_store rfl rfl rfl (zbB (Aside0.out (by assumption)) (by repeat (first|exact Below.refl _ _|with_reducible apply zlN|with_reducible apply zlA|refine below_step ?_ (Aside0.out (by assumption))))) pz_len pz_len) (zbB (Aside0.out (by assumption)) (by repeat (first|exact Below.refl _ _|with_reducible apply zlN|with_reducible apply zlA|refine below_step ?_ (Aside0.out (by assumption))))) ?_;rintro w2 hq hfar hbel;have hb2:Aside0 (Below w.heap.size w w2):=⟨hbel _ _ (by repeat (first|exact Below.refl _ _|with_reducible apply zlN|with_reducible apply zlA|refine below_step ?_ (Aside0.out (by assumption)))) hge4.out⟩;clear hfar hbel;have hh_:=zm hq;clear hq;have hq:=hh_;clear hh_))
  refine bodyPost_ret (results_ct rfl _ _ g4 29 (pc pz) (0,0) _ rfl hq.out Try.underlying29 rfl (pg_size pz_len)) rfl ?_
  exact ⟨rfl,hb2.out⟩
 subst hz
 rw [if_pos rfl] at H
 have hg_:=Option.bind_eq_some_iff.mp H;clear H;obtain ⟨b,F2,H⟩:=hg_;have hh_:=zm F2;clear F2;have F2:=hh_;clear hh_;(try dsimp only at H);have hg_:=Option.bind_eq_some_iff.mp H;clear H;obtain ⟨⟨sb,se⟩,F3,H⟩:=hg_;have hh_:=zm F3;clear F3;have F3:=hh_;clear hh_;(try dsimp only at H)
 have hh_:=zm H;clear H;have H:=hh_;clear hh_
 have hpl:=zm (pg_of_len l1 hd)
 go_wp2_with (first|((with_reducible refine gate_dst (N:=9) rfl ?_);(with_reducible refine gate_ (.alloc 29) rfl ?_);refine box_event rfl rfl (pg_new rfl) ?_;rintro g9 hg w1 hbk hb;have hge9:Aside0 (wa.heap.size≤g9):=⟨Nat.le_of_eq hg.symm⟩;clear hg;have hh_:=zm hbk;clear hbk;have hbk:=hh_;clear hh_;have hh_:=zm hb;clear hb;have hb:=hh_;clear hh_)|((with_reducible refine gate_builtin (b:=.copy) (xs:=#[.tmp 44,.tmp 45]) rfl ?_);refine pg_putv (g:=g9) rfl (pg_copy (p:=pz) (ys:=l1) rfl rfl rfl (Kd.C_below (Aside0.out (by assumption)) (by repeat (first|exact Below.refl _ _|with_reducible apply zlN|with_reducible apply zlA|refine below_step ?_ (Aside0.out (by assumption))))) (zbB (Aside0.out (by assumption)) (by repeat (first|exact Below.refl _ _|with_reducible apply zlN|with_reducible apply zlA|refine below_step ?_ (Aside0.out (by assumption))))) (by rw [pz_len];omega)) (zbB (Aside0.out (by assumption)) (by repeat (first|exact Below.refl _ _|with_reducible apply zlN|with_reducible apply zlA|refine below_step ?_ (Aside0.out (by assumption))))) ?_;rintro w2 hq hfar hbel;have hb2:Aside0 (Below wa.heap.size wa w2):=⟨hbel _ _ (by repeat (first|exact Below.refl _ _|with_reducible apply zlN|with_reducible apply zlA|refine below_step ?_ (Aside0.out (by assumption)))) hge9.out⟩;clear hfar hbel;have hh_:=zm hq;clear hq;have hq:=hh_;clear hh_)|((with_reducible refine gate_builtin (b:=.copy) (xs:=#[.tmp 48,.tmp 49]) rfl ?_);refine pg_putv (g:=g9) rfl (pg_copy (p:=(splice pz 0 (l1.take 256))) (ys:=hd) rfl rfl rfl (Kd.C_below (Aside0.out (by assumption)) (by repeat (first|exact Below.refl _ _|with_reducible apply zlN|with_reducible apply zlA|refine below_step ?_ (Aside0.out (by assumption))))) (zbB (Aside0.out (by assumption)) (by repeat (first|exact Below.refl _ _|with_reducible apply zlN|with_reducible apply zlA|refine below_step ?_ (Aside0.out (by assumption))))) (by rw [splice_len,pz_len];omega;rw [pz_len,List.length_take];omega)) (zbB (Aside0.out (by assumption)) (by repeat (first|exact Below.refl _ _|with_reducible apply zlN|with_reducible apply zlA|refine below_step ?_ (Aside0.out (by assumption))))) ?_;rintro w2 hq hfar hbel;have hb2:Aside0 (Below wa.heap.size wa w2):=⟨hbel _ _ (by repeat (first|exact Below.refl _ _|with_reducible apply zlN|with_reducible apply zlA|refine below_step ?_ (Aside0.out (by assumption)))) hge9.out⟩;clear hfar hbel;have hh_:=zm hq;clear hq;have hq:=hh_;clear hh_))
 have hq9:Aside0 (w2.heap[g9]?=some (.cells (pc (pg_of l1 hd)) 29 (0,0))):=hq
 clear hq
 refine Cw.dstart (by as_aux_lemma=>kernel_rfl) rfl (fun wd hb=>?_)
 have hh_:=zm hb;clear hb;have hb:=hh_;clear hh_
 refine zpu 0 ?_
 refine zpu 1 ?_
 refine zpu 2 ?_
 refine zpu 3 ?_
 refine Cw.done1 (i:=4) (N:=some 56) (by simp only [List.getElem?_toArray,List.getElem?_cons_succ,List.getElem?_cons_zero];rfl) rfl (by as_aux_lemma=>kernel_rfl) (fun K hK=>?_)
 refine Cw.dnew (fun g=>.slice (some ⟨g,0,none⟩) 2 2) (by rfl) rfl (by apply pg_lit2 <;> rfl) ?_
 rintro gz hg w1 hbk hb
 clear hg
 have hh_:=zm hbk;clear hbk;have hbk:=hh_;clear hh_;have hh_:=zm hb;clear hb;have hb:=hh_;clear hh_
 refine hK.out _ _ (by repeat (first|exact Below.refl _ _|with_reducible apply zlN|with_reducible apply zlA|refine below_step ?_ (Aside0.out (by assumption)))) (fun _=>?_)
 clear hK K
 refine znm (some 56) ?_
 refine Cw.done1 (i:=5) (N:=some 57) (by simp only [List.getElem?_toArray,List.getElem?_cons_succ,List.getElem?_cons_zero];rfl) rfl (by as_aux_lemma=>kernel_rfl) (fun K hK=>?_)
 refine goes_ Try.func32 (by as_aux_lemma=>kernel_rfl) rfl _ (by rfl) rfl rfl (by go_simp;rfl) ?_
 refine (slices_Concat_byte_byte.calls k (some ⟨gz,0,none⟩) 2 [((pg_of l1 hd).drop 0).take 256,((pg_of l1 hd).drop 256).take 28] b _ (pg_two (n0:=256) (n1:=28) (by rw [List.length_take,List.length_drop,hpl.out];rfl) (by rw [List.length_take,List.length_drop,hpl.out];rfl) (zbB (Aside0.out (by assumption)) (by repeat (first|exact Below.refl _ _|with_reducible apply zlN|with_reducible apply zlA|refine below_step ?_ (Aside0.out (by assumption))))) (pg_C (zbB (Aside0.out (by assumption)) (by repeat (first|exact Below.refl _ _|with_reducible apply zlN|with_reducible apply zlA|refine below_step ?_ (Aside0.out (by assumption))))) (by rw [hpl.out];decide) hpl.out) (by decide) (pg_C (zbB (Aside0.out (by assumption)) (by repeat (first|exact Below.refl _ _|with_reducible apply zlN|with_reducible apply zlA|refine below_step ?_ (Aside0.out (by assumption))))) (by rw [hpl.out];decide) hpl.out) (by decide)) (by simp) F2.out).mono ?_
 rintro e w1 ⟨vb,rfl,ho,hb⟩
 obtain ⟨Ab,cbb,rfl⟩:=Kd.R_slice ho
 have hh_:=zm ho;clear ho;have ho:=hh_;clear hh_;have hh_:=zm hb;clear hb;have hb:=hh_;clear hh_
 refine ⟨_,rfl,?_⟩
 refine hK.out _ _ (by repeat (first|exact Below.refl _ _|with_reducible apply zlN|with_reducible apply zlA|refine below_step ?_ (Aside0.out (by assumption)))) (fun _=>?_)
 clear hK K
 refine znm (some 57) ?_
 refine Cw.done1 (i:=6) (N:=some 58) (by simp only [List.getElem?_toArray,List.getElem?_cons_succ,List.getElem?_cons_zero];rfl) rfl (by as_aux_lemma=>kernel_rfl) (fun K hK=>?_)
 refine goes_ Try.func31 (by as_aux_lemma=>kernel_rfl) rfl _ (by rfl) rfl rfl (by go_simp;rfl) ?_
 refine (seal_Seal.calls k (fun _=>True) Ab cbb b sb se _ (Kd.R_V ho.out) F3.out).mono ?_
 rintro e w1 ⟨vs,rfl,hos,hb⟩
 obtain ⟨As,cs,rfl⟩:=Kd.R_slice hos
 have hrs:=zm (Kd.R_reads' hos).2.2
 have hcs:=zm (Kd.R_reads' hos).2.1
 clear hos ho
 have hh_:=zm hb;clear hb;have hb:=hh_;clear hh_
 refine ⟨_,rfl,?_⟩
 refine hK.out _ _ (by repeat (first|exact Below.refl _ _|with_reducible apply zlN|with_reducible apply zlA|refine below_step ?_ (Aside0.out (by assumption)))) (fun _=>?_)
 clear hK K
 refine znm (some 58) ?_
 refine zpu 7 ?_
 refine zpu 8 ?_
 refine zpu 9 ?_
 refine zpu 10 ?_
 refine zpu 11 ?_
 refine zdo ?_
 replace H:=H.out
 by_cases hz:se=0
 rotate_left
 ·rw [if_neg hz] at H
  simp only [Option.some.injEq,Prod.mk.injEq] at H
  obtain ⟨rfl,rfl⟩:=H
  have hz0:(se != 0)=true:=bne_iff_ne.mpr hz
  clear hz
  go_wp2_with (first|((with_reducible refine gate_ (.build 29 #[]) rfl ?_);refine Kd.event_run rfl (pg_build rfl) ?_)|((with_reducible refine gate_ (.store 29 (.tmp 4) _) rfl ?_);refine pg_put (g:=g4) (q:=pz) rfl rfl (pg_store rfl rfl rfl (zbB (Aside0.out (by assumption)) (by repeat (first|exact Below.refl _ _|with_reducible apply zlN|with_reducible apply zlA|refine below_step ?_ (Aside0.out (by assumption))))) pz_len pz_len) (zbB (Aside0.out (by assumption)) (by repeat (first|exact Below.refl _ _|with_reducible apply zlN|with_reducible apply zlA|refine below_step ?_ (Aside0.out (by assumption))))) ?_;rintro w2 hq hfar hbel;have hb2:Aside0 (Below w.heap.size w w2):=⟨hbel _ _ (by repeat (first|exact Below.refl _ _|with_reducible apply zlN|with_reducible apply zlA|refine below_step ?_ (Aside0.out (by assumption)))) hge4.out⟩;clear hfar hbel;have hh_:=zm hq;clear hq;have hq:=hh_;clear hh_))
  refine bodyPost_ret (results_ct rfl _ _ g4 29 (pc pz) (0,0) _ rfl hq.out Try.underlying29 rfl (pg_size pz_len)) rfl ?_
  exact ⟨rfl,hb2.out⟩
 subst hz
 rw [if_pos rfl] at H
 have hg_:=Cw.gt_ H;clear H;obtain ⟨h4,H⟩:=hg_;have hg_:=Cw.gt_ H;clear H;obtain ⟨hmx,H⟩:=hg_
 simp only [Option.some.injEq,Prod.mk.injEq] at H
 obtain ⟨rfl,rfl⟩:=H
 have hlo:=zm (lo4 h4 hmx)
 have hh_:=zm h4;clear h4;have h4:=hh_;clear hh_;have hh_:=zm hmx;clear hmx;have hmx:=hh_;clear hh_
 go_wp2_with fail
 refine Cw.dstartD [7] (by as_aux_lemma=>kernel_rfl) rfl (fun we hb=>?_)
 have hh_:=zm hb;clear hb;have hb:=hh_;clear hh_
 refine zpu 0 ?_
 refine zpu 1 ?_
 refine zpu 2 ?_
 refine zpu 3 ?_
 refine zpu 4 ?_
 refine zpu 5 ?_
 refine Cw.dpu (i:=6) (v:=?_) (a':=?_) (by simp only [List.getElem?_toArray,List.getElem?_cons_succ,List.getElem?_cons_zero];rfl) rfl (by as_aux_lemma=>kernel_rfl) (by rfl) (by exact fun _ _ _ h=>h) ?_ ?_ ?_
 rotate_left
 ·intro w'
  apply Eq.trans
  ·apply pg_tail (m:=sb.length - 4)
   ·rfl
   ·rfl
   ·rfl
   ·exact hlo.out
   ·omega
   ·exact hcs.out
  ·rfl
 rotate_left
 ·simp only [Act.put,List.setIfInBounds_toArray,List.set_cons_zero,List.set_cons_succ,i64_w,i32_w]
  rfl
 refine Cw.lastD (i:=7) (N:=some 72) (by simp only [List.getElem?_toArray,List.getElem?_cons_succ,List.getElem?_cons_zero];rfl) rfl (by as_aux_lemma=>kernel_rfl) (by decide) (fun K hK=>?_)
 refine pg_putd (g:=g9) (by rfl) rfl (pg_copy (p:=pg_of l1 hd) (ys:=sb.drop (sb.length - 4)) rfl rfl rfl (pg_Ctail rfl (Kd.C_below (Aside0.out (by assumption)) (by repeat (first|exact Below.refl _ _|with_reducible apply zlN|with_reducible apply zlA|refine below_step ?_ (Aside0.out (by assumption))))) (by omega) hcs.out) (zbB (Aside0.out (by assumption)) (by repeat (first|exact Below.refl _ _|with_reducible apply zlN|with_reducible apply zlA|refine below_step ?_ (Aside0.out (by assumption))))) (by rw [hpl.out,List.length_drop];have:=h4.out;omega)) (zbB (Aside0.out (by assumption)) (by repeat (first|exact Below.refl _ _|with_reducible apply zlN|with_reducible apply zlA|refine below_step ?_ (Aside0.out (by assumption))))) ?_
 rintro w2 hq hfar hbel
 have hb2:Aside0 (Below wa.heap.size wa w2):=⟨hbel _ _ (by repeat (first|exact Below.refl _ _|with_reducible apply zlN|with_reducible apply zlA|refine below_step ?_ (Aside0.out (by assumption)))) hge9.out⟩
 clear hfar hbel
 have hh_:=zm hq;clear hq;have hq:=hh_;clear hh_
 refine hK.out _ _ ?_
 clear hK K
 refine znm (some 72) ?_
 refine zdo ?_
 go_wp2_with (first|((with_reducible refine gate_ (.load 29 _) rfl ?_);refine Kd.event_run rfl (pg_load rfl rfl hq.out (p4_len l1 hd sb h4.out)) ?_)|((with_reducible refine gate_ (.store 29 _ _) rfl ?_);refine pg_put (g:=g4) (q:=splice (pg_of l1 hd) 284 ((sb.drop (sb.length - 4)).take 4)) rfl rfl (pg_store rfl rfl rfl (zbB (Aside0.out (by assumption)) (by repeat (first|exact Below.refl _ _|with_reducible apply zlN|with_reducible apply zlA|refine below_step ?_ (Aside0.out (by assumption))))) pz_len (p4_len l1 hd sb h4.out)) (zbB (Aside0.out (by assumption)) (by repeat (first|exact Below.refl _ _|with_reducible apply zlN|with_reducible apply zlA|refine below_step ?_ (Aside0.out (by assumption))))) ?_;rintro w3 hq3 hfar hbel;have hb3:Aside0 (Below w.heap.size w w3):=⟨hbel _ _ (by repeat (first|exact Below.refl _ _|with_reducible apply zlN|with_reducible apply zlA|refine below_step ?_ (Aside0.out (by assumption)))) hge4.out⟩;clear hfar hbel;have hh_:=zm hq3;clear hq3;have hq3:=hh_;clear hh_))
 all_goals
  refine bodyPost_ret (results_ct rfl _ _ g4 29 (pc (splice (pg_of l1 hd) 284 ((sb.drop (sb.length - 4)).take 4))) (0,0) _ rfl hq3.out Try.underlying29 rfl (pg_size (p4_len l1 hd sb h4.out))) rfl ?_
  exact ⟨rfl,hb3.out⟩
end Go.Proofs.Ytdohpjjggjehfaa.Print
end
section
namespace Go.Proofs.Ytdohpjjggjehfaa.Print
open Go.RowKit Go.Proofs.YtdohpjjggjehfaaW.PrintWords Go.Proofs.YtdohpjjggjehfaaW.PrintLast Go.Proofs.YtdohpjjggjehfaaW.PrintMore
attribute [local go_sem] max2_int min2_int max_two min_two max_three min_three max_four min_four   -- for this text's walks alone
attribute [local go_sem ↓] Go.Proofs.Ytdohpjjggjehfaa.Sem.isSome_setCell
attribute [local go_sem] Go.Instr.field Go.asAgg
set_option linter.unusedVariables false
set_option linter.unusedSimpArgs false
-- CX
-- PG
def slipwaylaw03_live.f (k:Nat):Option Bool :=
 (page_Encode.f k 2 5 9 9 [97]).bind fun p=>if p.1.length=288 then if p.2=0 then (bytes_Equal.f ((p.1.drop 256).take 14) [2,0,0,0,0,5,0,0,0,0,0,0,0,9]).bind fun t=>if t=true then if rd p.1 ((0:Nat):Int)=97 then (page_State.f k p.1).bind fun s=>if s=0 then (page_State.f k (List.replicate 288 255)).bind fun u=>if u=10 then some true else none
 else none else none else none else none else none
theorem pg_beq (A0:Option Addr) (c0 n0:Nat) (l0:List Int) (A1:Option Addr) (c1 n1:Nat) (l1:List Int) (r:Bool) (w:World) (e0:l0.length=n0) (e1:l1.length=n1) (hr0:Kd.C (Kd.int .u8) w A0 n0 l0) (hc0:n0≤c0) (hr1:Kd.C (Kd.int .u8) w A1 n1 l1) (hc1:n1≤c1) (h:bytes_Equal.f l0 l1=some r) :
  Calls Try.prog 16 #[.slice A0 n0 c0,.slice A1 n1 c1] w fun e w'=>e=.returned (.bool r)∧Below w.heap.size w w':=by
 subst e0 e1
 refine (bytes_Equal.calls A0 c0 l0 A1 c1 l1 r w hr0 hc0 hr1 hc1 h).mono ?_
 rintro e w' ⟨rfl,hd⟩
 exact ⟨rfl,by first|exact hd|exact Drawn0.below hd⟩
set_option maxHeartbeats 4000000 in
set_option maxRecDepth 100000 in
theorem slipwaylaw03_live.calls (k:Nat) (r:Bool) (w:World) (h:slipwaylaw03_live.f k=some r) :
  Calls Try.prog 9 #[] w fun e w'=>e=.returned (.bool r)∧Below w.heap.size w w':=by
 have hu29:=Try.underlying29
 have hu23:=Try.underlying23
 have H:slipwaylaw03_live.f k=some r:=h
 clear h
 unfold slipwaylaw03_live.f at H
 have hg_:=Option.bind_eq_some_iff.mp H;clear H;obtain ⟨⟨p,pe⟩,F0,H⟩:=hg_;have hh_:=zm F0;clear F0;have F0:=hh_;clear hh_;(try dsimp only at H);have hg_:=Cw.gt_ H;clear H;obtain ⟨hp,H⟩:=hg_;have hg_:=Cw.gt_ H;clear H;obtain ⟨rfl,H⟩:=hg_;have hg_:=Option.bind_eq_some_iff.mp H;clear H;obtain ⟨t,F1,H⟩:=hg_;have hh_:=zm F1;clear F1;have F1:=hh_;clear hh_;(try dsimp only at H);have hg_:=Cw.gt_ H;clear H;obtain ⟨rfl,H⟩:=hg_;have hg_:=Cw.gt_ H;clear H;obtain ⟨h97,H⟩:=hg_;have hg_:=Option.bind_eq_some_iff.mp H;clear H;obtain ⟨s,F2,H⟩:=hg_;have hh_:=zm F2;clear F2;have F2:=hh_;clear hh_;(try dsimp only at H);have hg_:=Cw.gt_ H;clear H;obtain ⟨rfl,H⟩:=hg_;have hg_:=Option.bind_eq_some_iff.mp H;clear H;obtain ⟨u,F3,H⟩:=hg_;have hh_:=zm F3;clear F3;have F3:=hh_;clear hh_;(try dsimp only at H);have hg_:=Cw.gt_ H;clear H;obtain ⟨rfl,H⟩:=hg_
 obtain rfl:=Option.some.inj H
 clear H
 have hh_:=zm hp;clear hp;have hp:=hh_;clear hh_;have hh_:=zm h97;clear h97;have h97:=hh_;clear hh_
 go_enter Try.func9,Try.ntmps9
 go_wp2_with (first|((with_reducible refine gate_ (.buildSlice 24 1 _) rfl ?_);refine pg_const rfl rfl rfl rfl rfl (fun _=>rfl) ?_;rintro gl hg w1 hcl hb;clear hg;have hh_:=zm hcl;clear hcl;have hcl:=hh_;clear hh_;have hh_:=zm hb;clear hb;have hb:=hh_;clear hh_)|(go_at_call 10;refine (page_Encode.calls k 2 5 9 9 (some ⟨gl,0,none⟩) 1 [97] p 0 _ hcl.out (by simp) F0.out).mono ?_;rintro e w1 ⟨rfl,hb⟩;have hh_:=zm hb;clear hb;have hb:=hh_;clear hh_)|((with_reducible refine gate_ (.alloc 29) rfl ?_);refine box_event rfl rfl (pg_new rfl) ?_;rintro g1 hg w1 hbk hb;have hge:Aside0 (w.heap.size≤g1):=⟨by rw [hg];exact below_size (by repeat (first|exact Below.refl _ _|with_reducible apply zlN|with_reducible apply zlA|refine below_step ?_ (Aside0.out (by assumption))))⟩;clear hg;have hh_:=zm hbk;clear hbk;have hbk:=hh_;clear hh_;have hh_:=zm hb;clear hb;have hb:=hh_;clear hh_)|((with_reducible refine gate_ (.store 29 _ _) rfl ?_);refine pg_put (g:=g1) (q:=p) rfl rfl (pg_store rfl rfl rfl (zbB (Aside0.out (by assumption)) (by repeat (first|exact Below.refl _ _|with_reducible apply zlN|with_reducible apply zlA|refine below_step ?_ (Aside0.out (by assumption))))) pz_len hp.out) (zbB (Aside0.out (by assumption)) (by repeat (first|exact Below.refl _ _|with_reducible apply zlN|with_reducible apply zlA|refine below_step ?_ (Aside0.out (by assumption))))) ?_;rintro w2 hq hfar hbel;have hb2:Aside0 (Below w.heap.size w w2):=⟨hbel _ _ (by repeat (first|exact Below.refl _ _|with_reducible apply zlN|with_reducible apply zlA|refine below_step ?_ (Aside0.out (by assumption)))) hge.out⟩;clear hfar hbel;have hh_:=zm hq;clear hq;have hq:=hh_;clear hh_)|((with_reducible refine gate_ (.buildSlice 24 14 _) rfl ?_);((with_reducible refine Cw.guarded rfl ?gw ?_);(case gw=>first|rfl|(go_simp;done));dsimp only);refine pg_made (fun g=>.slice (some ⟨g,0,none⟩) 14 14) rfl (cs:=#[.int .u8 2,.int .u8 0,.int .u8 0,.int .u8 0,.int .u8 0,.int .u8 5,.int .u8 0,.int .u8 0,.int .u8 0,.int .u8 0,.int .u8 0,.int .u8 0,.int .u8 0,.int .u8 9]) (t:=5) (by first|(go_simp;done)|(go_simp;rfl)) ?_;rintro gm hg w1 hbk hb;clear hg;have hh_:=zm hbk;clear hbk;have hbk:=hh_;clear hh_;have hh_:=zm hb;clear hb;have hb:=hh_;clear hh_)|((with_reducible refine gate_ (.load 5 _) rfl ?_);refine Kd.event_run rfl (v:=.int .u8 97) (by refine (pg_u8 (i:=0) rfl rfl (zbB (Aside0.out (by assumption)) (by repeat (first|exact Below.refl _ _|with_reducible apply zlN|with_reducible apply zlA|refine below_step ?_ (Aside0.out (by assumption))))) (by rw [hp.out];decide)).trans ?_;rw [h97.out]) ?_)|((with_reducible refine gate_ (.load 29 _) rfl ?_);refine Kd.event_run rfl (pg_load rfl rfl (zbB (Aside0.out (by assumption)) (by repeat (first|exact Below.refl _ _|with_reducible apply zlN|with_reducible apply zlA|refine below_step ?_ (Aside0.out (by assumption))))) hp.out) ?_)|(go_at_call 16;refine (pg_beq (some ⟨g1,256,none⟩) 32 14 ((p.drop 256).take 14) (some ⟨gm,0,none⟩) 14 14 [2,0,0,0,0,5,0,0,0,0,0,0,0,9] true _ (by rw [List.length_take,List.length_drop,hp.out];rfl) rfl (pg_C (zbB (Aside0.out (by assumption)) (by repeat (first|exact Below.refl _ _|with_reducible apply zlN|with_reducible apply zlA|refine below_step ?_ (Aside0.out (by assumption))))) (by rw [hp.out];decide) hp.out) (by decide) (Cw.C_ints (zbB (Aside0.out (by assumption)) (by repeat (first|exact Below.refl _ _|with_reducible apply zlN|with_reducible apply zlA|refine below_step ?_ (Aside0.out (by assumption))))) rfl (by simp)) (by decide) F1.out).mono ?_;rintro e w1 ⟨rfl,hb⟩;have hh_:=zm hb;clear hb;have hb:=hh_;clear hh_)|((with_reducible refine Cw.guarded rfl ?gw ?_);(case gw=>first|rfl|(go_simp;done));dsimp only))
 refine (page_State.calls k p 0 _ F2.out).mono ?_
 rintro e w1 ⟨rfl,hb⟩
 have hh_:=zm hb;clear hb;have hb:=hh_;clear hh_
 go_wp2_with (first|(go_at_call 24;refine (page_Erased.calls _).mono ?_;rintro e w1 ⟨rfl,hb⟩;have hh_:=zm hb;clear hb;have hb:=hh_;clear hh_)|((with_reducible refine Cw.guarded rfl ?gw ?_);(case gw=>first|rfl|(go_simp;done));dsimp only))
 refine (page_State.calls k (List.replicate 288 255) 10 _ F3.out).mono ?_
 rintro e w1 ⟨rfl,hb⟩
 have hh_:=zm hb;clear hb;have hb:=hh_;clear hh_
 go_wp2_with (first|((with_reducible refine Cw.guarded rfl ?gw ?_);(case gw=>first|rfl|(go_simp;done));dsimp only))
 go_ret
 exact ⟨rfl,(by repeat (first|exact Below.refl _ _|with_reducible apply zlN|with_reducible apply zlA|refine below_step ?_ (Aside0.out (by assumption))))⟩
end Go.Proofs.Ytdohpjjggjehfaa.Print
end
section
namespace Go.Proofs.Ytdohpjjggjehfaa.Print
open Go.RowKit Go.Proofs.YtdohpjjggjehfaaW.PrintWords Go.Proofs.YtdohpjjggjehfaaW.PrintLast Go.Proofs.YtdohpjjggjehfaaW.PrintMore
attribute [local go_sem] max2_int min2_int max_two min_two max_three min_three max_four min_four   -- for this text's walks alone
attribute [local go_sem ↓] Go.Proofs.Ytdohpjjggjehfaa.Sem.isSome_setCell
attribute [local go_sem] Go.Instr.field Go.asAgg
set_option linter.unusedVariables false
set_option linter.unusedSimpArgs false
def slipwayref03_Check.f (a0_0:Int) (a0_1:Int) (a0_2:Int) (a0_3:Int):Option (Int):=if a0_0 < 1 then (some 30) else (if a0_0 > 3 then (some 30) else (if a0_1 < 0 then (some 30) else (if a0_1 ≥ 1048576 then (some 30) else (if a0_2 < 1 then (some 30) else (if a0_3 < a0_2 then (some 30) else (if a0_3 > 1152921504606846976 then (some 30) else (if a0_0=1 then (some 0) else (if a0_3=a0_2 then (some 0) else (some 30)))))))))
set_option maxHeartbeats 8000000 in
set_option maxRecDepth 100000 in
theorem slipwayref03_Check.calls (a0_0:Int) (a0_1:Int) (a0_2:Int) (a0_3:Int) (r:Int) (w:World) (h:slipwayref03_Check.f a0_0 a0_1 a0_2 a0_3=some r) :
  Calls Try.prog 13 #[.agg #[.int .i64 a0_0,.int .i64 a0_1,.int .i64 a0_2,.int .i64 a0_3]] w fun e w'=>e=.returned (.int .i64 r)∧Below w.heap.size w w':=by
 have hu23:=Try.underlying23
 have HB:=zm (Below.refl w.heap.size w)
 have H:(if a0_0 < 1 then (some 30) else (if a0_0 > 3 then (some 30) else (if a0_1 < 0 then (some 30) else (if a0_1 ≥ 1048576 then (some 30) else (if a0_2 < 1 then (some 30) else (if a0_3 < a0_2 then (some 30) else (if a0_3 > 1152921504606846976 then (some 30) else (if a0_0=1 then (some 0) else (if a0_3=a0_2 then (some 0) else (some 30))))))))))=some r:=h
 clear h
 by_cases c2:a0_0 < 1
 ·rw [if_pos c2] at H
  have c2b0:decide (a0_0 < 1)=true:=decide_eq_true c2
  clear c2
  obtain rfl:=Option.some.inj H
  go_enter Try.func13,Try.ntmps13
  go_wp2_with (first|((with_reducible refine gate_dst (N:=1) rfl ?_);refine zbx 1 #[.int .i64 a0_0,.int .i64 a0_1,.int .i64 a0_2,.int .i64 a0_3] 23 ?_;intro gb175 hg w3 hbox hb;have n0_:=zkH HB hb;have n1_:=zm (hbox);have n2_:=zkG HB hg;have n3_:=zkG HB hg;clear HB;have HB:=n0_;have BK175:=n1_;have GW175:=n2_;have GE175:=n3_;clear n0_ n1_ n2_ n3_;clear hb hbox hg;have hcz4_0:w3.cell? ⟨gb175,0,none⟩=some (.int .i64 a0_0):=(blk_cell BK175.out 0).trans rfl;have hcz4_1:w3.cell? ⟨gb175,1,none⟩=some (.int .i64 a0_1):=(blk_cell BK175.out 1).trans rfl;have hcz4_2:w3.cell? ⟨gb175,2,none⟩=some (.int .i64 a0_2):=(blk_cell BK175.out 2).trans rfl;have hcz4_3:w3.cell? ⟨gb175,3,none⟩=some (.int .i64 a0_3):=(blk_cell BK175.out 3).trans rfl;have hfz4_0:=blk_frozen BK175.out 0;have hfz4_1:=blk_frozen BK175.out 1;have hfz4_2:=blk_frozen BK175.out 2;have hfz4_3:=blk_frozen BK175.out 3))
  go_ret
  exact ⟨ze_,zb_⟩
 ·rw [if_neg c2] at H
  have c2b0:decide (a0_0 < 1)=false:=decide_eq_false c2
  clear c2
  by_cases c5:a0_0 > 3
  ·rw [if_pos c5] at H
   have c5b0:decide (3 < a0_0)=true:=decide_eq_true c5
   clear c5
   obtain rfl:=Option.some.inj H
   go_enter Try.func13,Try.ntmps13
   go_wp2_with (first|((with_reducible refine gate_dst (N:=1) rfl ?_);refine zbx 1 #[.int .i64 a0_0,.int .i64 a0_1,.int .i64 a0_2,.int .i64 a0_3] 23 ?_;intro gb175 hg w6 hbox hb;have n0_:=zkH HB hb;have n1_:=zm (hbox);have n2_:=zkG HB hg;have n3_:=zkG HB hg;clear HB;have HB:=n0_;have BK175:=n1_;have GW175:=n2_;have GE175:=n3_;clear n0_ n1_ n2_ n3_;clear hb hbox hg;have hcz7_0:w6.cell? ⟨gb175,0,none⟩=some (.int .i64 a0_0):=(blk_cell BK175.out 0).trans rfl;have hcz7_1:w6.cell? ⟨gb175,1,none⟩=some (.int .i64 a0_1):=(blk_cell BK175.out 1).trans rfl;have hcz7_2:w6.cell? ⟨gb175,2,none⟩=some (.int .i64 a0_2):=(blk_cell BK175.out 2).trans rfl;have hcz7_3:w6.cell? ⟨gb175,3,none⟩=some (.int .i64 a0_3):=(blk_cell BK175.out 3).trans rfl;have hfz7_0:=blk_frozen BK175.out 0;have hfz7_1:=blk_frozen BK175.out 1;have hfz7_2:=blk_frozen BK175.out 2;have hfz7_3:=blk_frozen BK175.out 3))
   go_ret
   exact ⟨ze_,zb_⟩
  ·rw [if_neg c5] at H
   have c5b0:decide (3 < a0_0)=false:=decide_eq_false c5
   clear c5
   by_cases c8:a0_1 < 0
   ·rw [if_pos c8] at H
    have c8b0:decide (a0_1 < 0)=true:=decide_eq_true c8
    clear c8
    obtain rfl:=Option.some.inj H
    go_enter Try.func13,Try.ntmps13
    go_wp2_with (first|((with_reducible refine gate_dst (N:=1) rfl ?_);refine zbx 1 #[.int .i64 a0_0,.int .i64 a0_1,.int .i64 a0_2,.int .i64 a0_3] 23 ?_;intro gb175 hg w9 hbox hb;have n0_:=zkH HB hb;have n1_:=zm (hbox);have n2_:=zkG HB hg;have n3_:=zkG HB hg;clear HB;have HB:=n0_;have BK175:=n1_;have GW175:=n2_;have GE175:=n3_;clear n0_ n1_ n2_ n3_;clear hb hbox hg;have hcz10_0:w9.cell? ⟨gb175,0,none⟩=some (.int .i64 a0_0):=(blk_cell BK175.out 0).trans rfl;have hcz10_1:w9.cell? ⟨gb175,1,none⟩=some (.int .i64 a0_1):=(blk_cell BK175.out 1).trans rfl;have hcz10_2:w9.cell? ⟨gb175,2,none⟩=some (.int .i64 a0_2):=(blk_cell BK175.out 2).trans rfl;have hcz10_3:w9.cell? ⟨gb175,3,none⟩=some (.int .i64 a0_3):=(blk_cell BK175.out 3).trans rfl;have hfz10_0:=blk_frozen BK175.out 0;have hfz10_1:=blk_frozen BK175.out 1;have hfz10_2:=blk_frozen BK175.out 2;have hfz10_3:=blk_frozen BK175.out 3))
    go_ret
    exact ⟨ze_,zb_⟩
   ·rw [if_neg c8] at H
    have c8b0:decide (a0_1 < 0)=false:=decide_eq_false c8
    clear c8
    by_cases c11:a0_1 ≥ 1048576
    ·rw [if_pos c11] at H
     have c11b0:decide (1048576≤a0_1)=true:=decide_eq_true c11
     clear c11
     obtain rfl:=Option.some.inj H
     go_enter Try.func13,Try.ntmps13
     go_wp2_with (first|((with_reducible refine gate_dst (N:=1) rfl ?_);refine zbx 1 #[.int .i64 a0_0,.int .i64 a0_1,.int .i64 a0_2,.int .i64 a0_3] 23 ?_;intro gb175 hg w12 hbox hb;have n0_:=zkH HB hb;have n1_:=zm (hbox);have n2_:=zkG HB hg;have n3_:=zkG HB hg;clear HB;have HB:=n0_;have BK175:=n1_;have GW175:=n2_;have GE175:=n3_;clear n0_ n1_ n2_ n3_;clear hb hbox hg;have hcz13_0:w12.cell? ⟨gb175,0,none⟩=some (.int .i64 a0_0):=(blk_cell BK175.out 0).trans rfl;have hcz13_1:w12.cell? ⟨gb175,1,none⟩=some (.int .i64 a0_1):=(blk_cell BK175.out 1).trans rfl;have hcz13_2:w12.cell? ⟨gb175,2,none⟩=some (.int .i64 a0_2):=(blk_cell BK175.out 2).trans rfl;have hcz13_3:w12.cell? ⟨gb175,3,none⟩=some (.int .i64 a0_3):=(blk_cell BK175.out 3).trans rfl;have hfz13_0:=blk_frozen BK175.out 0;have hfz13_1:=blk_frozen BK175.out 1;have hfz13_2:=blk_frozen BK175.out 2;have hfz13_3:=blk_frozen BK175.out 3))
     go_ret
     exact ⟨ze_,zb_⟩
    ·rw [if_neg c11] at H
     have c11b0:decide (1048576≤a0_1)=false:=decide_eq_false c11
     clear c11
     by_cases c14:a0_2 < 1
     ·rw [if_pos c14] at H
      have c14b0:decide (a0_2 < 1)=true:=decide_eq_true c14
      clear c14
      obtain rfl:=Option.some.inj H
      go_enter Try.func13,Try.ntmps13
      go_wp2_with (first|((with_reducible refine gate_dst (N:=1) rfl ?_);refine zbx 1 #[.int .i64 a0_0,.int .i64 a0_1,.int .i64 a0_2,.int .i64 a0_3] 23 ?_;intro gb175 hg w15 hbox hb;have n0_:=zkH HB hb;have n1_:=zm (hbox);have n2_:=zkG HB hg;have n3_:=zkG HB hg;clear HB;have HB:=n0_;have BK175:=n1_;have GW175:=n2_;have GE175:=n3_;clear n0_ n1_ n2_ n3_;clear hb hbox hg;have hcz16_0:w15.cell? ⟨gb175,0,none⟩=some (.int .i64 a0_0):=(blk_cell BK175.out 0).trans rfl;have hcz16_1:w15.cell? ⟨gb175,1,none⟩=some (.int .i64 a0_1):=(blk_cell BK175.out 1).trans rfl;have hcz16_2:w15.cell? ⟨gb175,2,none⟩=some (.int .i64 a0_2):=(blk_cell BK175.out 2).trans rfl;have hcz16_3:w15.cell? ⟨gb175,3,none⟩=some (.int .i64 a0_3):=(blk_cell BK175.out 3).trans rfl;have hfz16_0:=blk_frozen BK175.out 0;have hfz16_1:=blk_frozen BK175.out 1;have hfz16_2:=blk_frozen BK175.out 2;have hfz16_3:=blk_frozen BK175.out 3))
      go_ret
      exact ⟨ze_,zb_⟩
     ·rw [if_neg c14] at H
      have c14b0:decide (a0_2 < 1)=false:=decide_eq_false c14
      clear c14
      by_cases c17:a0_3 < a0_2
      ·rw [if_pos c17] at H
       have c17b0:decide (a0_3 < a0_2)=true:=decide_eq_true c17
       clear c17
       obtain rfl:=Option.some.inj H
       go_enter Try.func13,Try.ntmps13
       go_wp2_with (first|((with_reducible refine gate_dst (N:=1) rfl ?_);refine zbx 1 #[.int .i64 a0_0,.int .i64 a0_1,.int .i64 a0_2,.int .i64 a0_3] 23 ?_;intro gb175 hg w18 hbox hb;have n0_:=zkH HB hb;have n1_:=zm (hbox);have n2_:=zkG HB hg;have n3_:=zkG HB hg;clear HB;have HB:=n0_;have BK175:=n1_;have GW175:=n2_;have GE175:=n3_;clear n0_ n1_ n2_ n3_;clear hb hbox hg;have hcz19_0:w18.cell? ⟨gb175,0,none⟩=some (.int .i64 a0_0):=(blk_cell BK175.out 0).trans rfl;have hcz19_1:w18.cell? ⟨gb175,1,none⟩=some (.int .i64 a0_1):=(blk_cell BK175.out 1).trans rfl;have hcz19_2:w18.cell? ⟨gb175,2,none⟩=some (.int .i64 a0_2):=(blk_cell BK175.out 2).trans rfl;have hcz19_3:w18.cell? ⟨gb175,3,none⟩=some (.int .i64 a0_3):=(blk_cell BK175.out 3).trans rfl;have hfz19_0:=blk_frozen BK175.out 0;have hfz19_1:=blk_frozen BK175.out 1;have hfz19_2:=blk_frozen BK175.out 2;have hfz19_3:=blk_frozen BK175.out 3))
       go_ret
       exact ⟨ze_,zb_⟩
      ·rw [if_neg c17] at H
       have c17b0:decide (a0_3 < a0_2)=false:=decide_eq_false c17
       clear c17
       by_cases c20:a0_3 > 1152921504606846976
       ·rw [if_pos c20] at H
        have c20b0:decide (1152921504606846976 < a0_3)=true:=decide_eq_true c20
        clear c20
        obtain rfl:=Option.some.inj H
        go_enter Try.func13,Try.ntmps13
        go_wp2_with (first|((with_reducible refine gate_dst (N:=1) rfl ?_);refine zbx 1 #[.int .i64 a0_0,.int .i64 a0_1,.int .i64 a0_2,.int .i64 a0_3] 23 ?_;intro gb175 hg w21 hbox hb;have n0_:=zkH HB hb;have n1_:=zm (hbox);have n2_:=zkG HB hg;have n3_:=zkG HB hg;clear HB;have HB:=n0_;have BK175:=n1_;have GW175:=n2_;have GE175:=n3_;clear n0_ n1_ n2_ n3_;clear hb hbox hg;have hcz22_0:w21.cell? ⟨gb175,0,none⟩=some (.int .i64 a0_0):=(blk_cell BK175.out 0).trans rfl;have hcz22_1:w21.cell? ⟨gb175,1,none⟩=some (.int .i64 a0_1):=(blk_cell BK175.out 1).trans rfl;have hcz22_2:w21.cell? ⟨gb175,2,none⟩=some (.int .i64 a0_2):=(blk_cell BK175.out 2).trans rfl;have hcz22_3:w21.cell? ⟨gb175,3,none⟩=some (.int .i64 a0_3):=(blk_cell BK175.out 3).trans rfl;have hfz22_0:=blk_frozen BK175.out 0;have hfz22_1:=blk_frozen BK175.out 1;have hfz22_2:=blk_frozen BK175.out 2;have hfz22_3:=blk_frozen BK175.out 3))
        go_ret
        exact ⟨ze_,zb_⟩
       ·rw [if_neg c20] at H
        have c20b0:decide (1152921504606846976 < a0_3)=false:=decide_eq_false c20
        clear c20
        by_cases c23:a0_0=1
        ·rw [if_pos c23] at H
         have c23b0:(a0_0 == 1)=true:=beq_iff_eq.mpr c23
         have c23b1:(a0_0 != 1)=false:=bne_eq_false_iff_eq.mpr c23
         clear c23
         obtain rfl:=Option.some.inj H
         go_enter Try.func13,Try.ntmps13
         go_wp2_with (first|((with_reducible refine gate_dst (N:=1) rfl ?_);refine zbx 1 #[.int .i64 a0_0,.int .i64 a0_1,.int .i64 a0_2,.int .i64 a0_3] 23 ?_;intro gb175 hg w24 hbox hb;have n0_:=zkH HB hb;have n1_:=zm (hbox);have n2_:=zkG HB hg;have n3_:=zkG HB hg;clear HB;have HB:=n0_;have BK175:=n1_;have GW175:=n2_;have GE175:=n3_;clear n0_ n1_ n2_ n3_;clear hb hbox hg;have hcz25_0:w24.cell? ⟨gb175,0,none⟩=some (.int .i64 a0_0):=(blk_cell BK175.out 0).trans rfl;have hcz25_1:w24.cell? ⟨gb175,1,none⟩=some (.int .i64 a0_1):=(blk_cell BK175.out 1).trans rfl;have hcz25_2:w24.cell? ⟨gb175,2,none⟩=some (.int .i64 a0_2):=(blk_cell BK175.out 2).trans rfl;have hcz25_3:w24.cell? ⟨gb175,3,none⟩=some (.int .i64 a0_3):=(blk_cell BK175.out 3).trans rfl;have hfz25_0:=blk_frozen BK175.out 0;have hfz25_1:=blk_frozen BK175.out 1;have hfz25_2:=blk_frozen BK175.out 2;have hfz25_3:=blk_frozen BK175.out 3))
         go_ret
         exact ⟨ze_,zb_⟩
        ·rw [if_neg c23] at H
         have c23b0:(a0_0 == 1)=false:=beq_eq_false_iff_ne.mpr c23
         have c23b1:(a0_0 != 1)=true:=bne_iff_ne.mpr c23
         by_cases c26:a0_3=a0_2
         ·rw [if_pos c26] at H
          have c26b0:(a0_3 == a0_2)=true:=beq_iff_eq.mpr c26
          have c26b1:(a0_3 != a0_2)=false:=bne_eq_false_iff_eq.mpr c26
          clear c26
          obtain rfl:=Option.some.inj H
          go_enter Try.func13,Try.ntmps13
          go_wp2_with (first|((with_reducible refine gate_dst (N:=1) rfl ?_);refine zbx 1 #[.int .i64 a0_0,.int .i64 a0_1,.int .i64 a0_2,.int .i64 a0_3] 23 ?_;intro gb175 hg w27 hbox hb;have n0_:=zkH HB hb;have n1_:=zm (hbox);have n2_:=zkG HB hg;have n3_:=zkG HB hg;clear HB;have HB:=n0_;have BK175:=n1_;have GW175:=n2_;have GE175:=n3_;clear n0_ n1_ n2_ n3_;clear hb hbox hg;have hcz28_0:w27.cell? ⟨gb175,0,none⟩=some (.int .i64 a0_0):=(blk_cell BK175.out 0).trans rfl;have hcz28_1:w27.cell? ⟨gb175,1,none⟩=some (.int .i64 a0_1):=(blk_cell BK175.out 1).trans rfl;have hcz28_2:w27.cell? ⟨gb175,2,none⟩=some (.int .i64 a0_2):=(blk_cell BK175.out 2).trans rfl;have hcz28_3:w27.cell? ⟨gb175,3,none⟩=some (.int .i64 a0_3):=(blk_cell BK175.out 3).trans rfl;have hfz28_0:=blk_frozen BK175.out 0;have hfz28_1:=blk_frozen BK175.out 1;have hfz28_2:=blk_frozen BK175.out 2;have hfz28_3:=blk_frozen BK175.out 3))
          go_ret
          exact ⟨ze_,zb_⟩
         ·rw [if_neg c26] at H
          have c26b0:(a0_3 == a0_2)=false:=beq_eq_false_iff_ne.mpr c26
          have c26b1:(a0_3 != a0_2)=true:=bne_iff_ne.mpr c26
          obtain rfl:=Option.some.inj H
          go_enter Try.func13,Try.ntmps13
          go_wp2_with (first|((with_reducible refine gate_dst (N:=1) rfl ?_);refine zbx 1 #[.int .i64 a0_0,.int .i64 a0_1,.int .i64 a0_2,.int .i64 a0_3] 23 ?_;intro gb175 hg w29 hbox hb;have n0_:=zkH HB hb;have n1_:=zm (hbox);have n2_:=zkG HB hg;have n3_:=zkG HB hg;clear HB;have HB:=n0_;have BK175:=n1_;have GW175:=n2_;have GE175:=n3_;clear n0_ n1_ n2_ n3_;clear hb hbox hg;have hcz30_0:w29.cell? ⟨gb175,0,none⟩=some (.int .i64 a0_0):=(blk_cell BK175.out 0).trans rfl;have hcz30_1:w29.cell? ⟨gb175,1,none⟩=some (.int .i64 a0_1):=(blk_cell BK175.out 1).trans rfl;have hcz30_2:w29.cell? ⟨gb175,2,none⟩=some (.int .i64 a0_2):=(blk_cell BK175.out 2).trans rfl;have hcz30_3:w29.cell? ⟨gb175,3,none⟩=some (.int .i64 a0_3):=(blk_cell BK175.out 3).trans rfl;have hfz30_0:=blk_frozen BK175.out 0;have hfz30_1:=blk_frozen BK175.out 1;have hfz30_2:=blk_frozen BK175.out 2;have hfz30_3:=blk_frozen BK175.out 3))
          go_ret
          exact ⟨ze_,zb_⟩
mutual
def slipwayref01_Zeros.l0:Nat → List Int → Int → Int → Option (Int)
 | 0,_,_,_=>none
 | k + 1,x0,x3,x4=>if x4 < (x0.length:Int) then (slipwayref01_Zeros.l1 k x0 x3 x4 0) else (some x3)
def slipwayref01_Zeros.l1:Nat → List Int → Int → Int → Int → Option (Int)
 | 0,_,_,_,_=>none
 | k + 1,x0,x3,x4,x5=>if x5 < 8 then (if 0≤x4 then (if x4 < (x0.length:Int) then (if 0≤(IntKind.u64.wrap (x5)) then (if (Go.bits .and .u8 (shr .u8 (rd x0 x4) (IntKind.u64.wrap (x5))) 1)=0 then (slipwayref01_Zeros.l1 k x0 (wrap64 (x3 + 1)) x4 (wrap64 (x5 + 1))) else (slipwayref01_Zeros.l1 k x0 x3 x4 (wrap64 (x5 + 1)))) else (none)) else (none)) else (none)) else (slipwayref01_Zeros.l0 k x0 x3 (wrap64 (x4 + 1)))
end
def slipwayref01_Zeros.f (k:Nat) (l0:List Int):Option (Int):=slipwayref01_Zeros.l0 k l0 0 0
set_option maxHeartbeats 8000000 in
set_option maxRecDepth 100000 in
theorem slipwayref01_Zeros.calls (k:Nat) (A0:Option Addr) (c0:Nat) (l0:List Int) (r:Int) (w:World) (hr0:Kd.C (Kd.int .u8) w A0 l0.length l0) (hc0:l0.length≤c0) (h:slipwayref01_Zeros.f k l0=some r) :
  Calls Try.prog 54 #[.slice A0 l0.length c0] w fun e w'=>e=.returned (.int .i64 r)∧Drawn0 w w':=by
 have HR0:=zm hr0
 have HC0:=zm hc0
 clear hr0 hc0
 have H:(slipwayref01_Zeros.l0 k l0 0 0)=some r:=h
 clear h
 have H':=zm H
 clear H
 go_enter Try.func54,Try.ntmps54
 go_wp2
 go_loopg [3,4] k (fun kq v3 v4 w'=>∃ (x3_1:Int) (x4_1:Int),v3=.int .i64 x3_1∧v4=.int .i64 x4_1∧Aside0 (slipwayref01_Zeros.l0 kq l0 x3_1 x4_1=some r)∧Aside0 (kq≤k)∧Drawn0 w w')
 case atStart=>exact ⟨(0),(0),zs_,zs_,H',⟨Nat.le_refl _⟩,by repeat (first|exact Drawn0.refl _|apply Drawn0.step)⟩
 case round =>
  clear H'
  obtain ⟨x3_1,x4_1,rfl,rfl,HA,HK1,⟨m1,rfl⟩⟩:=hrel
  cases gk with
  | zero=>exact absurd HA.out (by simp [slipwayref01_Zeros.l0])
  | succ k1 =>
   have H:=HA.out
   clear HA
   simp only [slipwayref01_Zeros.l0] at H
   by_cases c2:x4_1 < (l0.length:Int)
   ·rw [if_pos c2] at H
    have c2b0:decide (x4_1 < (l0.length:Int))=true:=decide_eq_true c2
    clear c2
    have H':=zm H
    clear H
    go_wp2
    go_loopg [3,5] k1 (fun kq v3 v5 w'=>∃ (x3_2:Int) (x5_2:Int),v3=.int .i64 x3_2∧v5=.int .i64 x5_2∧Aside0 (slipwayref01_Zeros.l1 kq l0 x3_2 x4_1 x5_2=some r)∧Aside0 (kq≤k1)∧Drawn0 w w')
    case atStart=>exact ⟨(x3_1),(0),zs_,zs_,H',⟨Nat.le_refl _⟩,by repeat (first|exact Drawn0.refl _|apply Drawn0.step)⟩
    case round =>
     clear H'
     try clear c2
     try clear c2b0
     try clear p2
     obtain ⟨x3_2,x5_2,rfl,rfl,HA,HK2,⟨m2,rfl⟩⟩:=hrel
     cases gk with
     | zero=>exact absurd HA.out (by simp [slipwayref01_Zeros.l1])
     | succ k2 =>
      have H:=HA.out
      clear HA
      simp only [slipwayref01_Zeros.l1] at H
      by_cases c3:x5_2 < 8
      ·rw [if_pos c3] at H
       have c3b0:decide (x5_2 < 8)=true:=decide_eq_true c3
       clear c3
       by_cases c4:0≤x4_1
       ·rw [if_pos c4] at H
        have c4b0:decide (0≤x4_1)=true:=decide_eq_true c4
        clear c4
        by_cases c5:x4_1 < (l0.length:Int)
        ·rw [if_pos c5] at H
         have c5b0:decide (x4_1 < (l0.length:Int))=true:=decide_eq_true c5
         clear c5
         obtain ⟨ji6,hji6⟩:∃ j_:Int,(IntKind.u64.wrap (x5_2))=j_:=⟨_,rfl⟩
         replace H:(if 0≤(ji6) then (if (Go.bits .and .u8 (shr .u8 (rd l0 x4_1) (ji6)) 1)=0 then (slipwayref01_Zeros.l1 k2 l0 (wrap64 (x3_2 + 1)) x4_1 (wrap64 (x5_2 + 1))) else (slipwayref01_Zeros.l1 k2 l0 x3_2 x4_1 (wrap64 (x5_2 + 1)))) else (none))=some r:=by first|(rw [hji6] at H;exact H)|(simp only [hji6] at H ⊢;exact H)
         by_cases c7:0≤(ji6)
         ·rw [if_pos c7] at H
          have c7b0:=eq_true c7
          have c7b1:decide (0≤(ji6))=true:=decide_eq_true c7
          clear c7
          obtain ⟨ji8,hji8⟩:∃ j_:Int,(shr .u8 (rd l0 x4_1) (ji6))=j_:=⟨_,rfl⟩
          replace H:(if (Go.bits .and .u8 (ji8) 1)=0 then (slipwayref01_Zeros.l1 k2 l0 (wrap64 (x3_2 + 1)) x4_1 (wrap64 (x5_2 + 1))) else (slipwayref01_Zeros.l1 k2 l0 x3_2 x4_1 (wrap64 (x5_2 + 1))))=some r:=by first|(rw [hji8] at H;exact H)|(simp only [hji8] at H ⊢;exact H)
          have hji8_:((rd l0 x4_1) / 2 ^ min (ji6).toNat 8)=ji8:=hji8
          have hji8z:(ji6)≤8 → ((rd l0 x4_1) / 2 ^ (ji6).toNat)=ji8:=shr_small hji8
          by_cases c9:(Go.bits .and .u8 (ji8) 1)=0
          ·rw [if_pos c9] at H
           have c9b0:((Go.bits .and .u8 (ji8) 1) == 0)=true:=beq_iff_eq.mpr c9
           have c9b1:((Go.bits .and .u8 (ji8) 1) != 0)=false:=bne_eq_false_iff_eq.mpr c9
           clear c9
           have H':=zm H
           clear H
           have p176:0≤(x4_1:Int):=za_
           have q176:x4_1 < (l0.length:Int):=za_
           obtain ⟨ad176,e176,hx176_0⟩:=Kd.at_int HR0.out x4_1 p176 q176
           cases e176
           replace p176:=eq_true p176
           replace q176:=eq_true q176
           go_wp2
           go_roundg k2
           case measure=>have:=HK1.out;have:=HK2.out;omega
           case rel=>exact ⟨(wrap64 (x3_2 + 1)),(wrap64 (x5_2 + 1)),zs_,zs_,H',⟨by have:=HK1.out;have:=HK2.out;omega⟩,by repeat (first|exact Drawn0.refl _|apply Drawn0.step)⟩
          ·rw [if_neg c9] at H
           have c9b0:((Go.bits .and .u8 (ji8) 1) == 0)=false:=beq_eq_false_iff_ne.mpr c9
           have c9b1:((Go.bits .and .u8 (ji8) 1) != 0)=true:=bne_iff_ne.mpr c9
           have H':=zm H
           clear H
           have p176:0≤(x4_1:Int):=za_
           have q176:x4_1 < (l0.length:Int):=za_
           obtain ⟨ad176,e176,hx176_0⟩:=Kd.at_int HR0.out x4_1 p176 q176
           cases e176
           replace p176:=eq_true p176
           replace q176:=eq_true q176
           go_wp2
           go_roundg k2
           case measure=>have:=HK1.out;have:=HK2.out;omega
           case rel=>exact ⟨(x3_2),(wrap64 (x5_2 + 1)),zs_,zs_,H',⟨by have:=HK1.out;have:=HK2.out;omega⟩,by repeat (first|exact Drawn0.refl _|apply Drawn0.step)⟩
         ·rw [if_neg c7] at H
          exact absurd H (by simp)
        ·rw [if_neg c5] at H
         exact absurd H (by simp)
       ·rw [if_neg c4] at H
        exact absurd H (by simp)
      ·rw [if_neg c3] at H
       have c3b0:decide (x5_2 < 8)=false:=decide_eq_false c3
       clear c3
       have H':=zm H
       clear H
       go_wp2
       go_roundg k2
       case measure=>have:=HK1.out;have:=HK2.out;omega
       case rel=>exact ⟨(x3_2),(wrap64 (x4_1 + 1)),zs_,zs_,H',⟨by have:=HK1.out;have:=HK2.out;omega⟩,by repeat (first|exact Drawn0.refl _|apply Drawn0.step)⟩
   ·rw [if_neg c2] at H
    have c2b0:decide (x4_1 < (l0.length:Int))=false:=decide_eq_false c2
    clear c2
    obtain rfl:=Option.some.inj H
    go_wp2
    go_ret
    exact ⟨by first|rfl|(simp;done)|(simp [*];done),by repeat (first|exact Drawn0.refl _|apply Drawn0.step)⟩
end Go.Proofs.Ytdohpjjggjehfaa.Print
end
section
namespace Go.Proofs.Ytdohpjjggjehfaa.Print
open Go.RowKit Go.Proofs.YtdohpjjggjehfaaW.PrintWords Go.Proofs.YtdohpjjggjehfaaW.PrintLast Go.Proofs.YtdohpjjggjehfaaW.PrintMore
attribute [local go_sem] max2_int min2_int max_two min_two max_three min_three max_four min_four   -- for this text's walks alone
attribute [local go_sem ↓] Go.Proofs.Ytdohpjjggjehfaa.Sem.isSome_setCell
attribute [local go_sem] Go.Instr.field Go.asAgg
set_option linter.unusedVariables false
set_option linter.unusedSimpArgs false
def slipwayref01_Width.l0:Nat → List Int → Int → Int → Option (Int × Int)
 | 0,_,_,_=>none
 | k + 1,x0,x4,x5=>if x5 < (x0.length:Int) then (if 0≤x5 then (if (rd x0 x5) < 1 then (some (0,1)) else (if (rd x0 x5) > 64 then (some (0,1)) else (slipwayref01_Width.l0 k x0 (wrap64 (x4 + (rd x0 x5))) (wrap64 (x5 + 1))))) else (none)) else (some (wrap64 (Int.tdiv (wrap64 (x4 + 7)) 8),0))
def slipwayref01_Width.f (k:Nat) (l0:List Int):Option (Int × Int):=if (l0.length:Int) > 64 then (some (0,1)) else (slipwayref01_Width.l0 k l0 0 0)
set_option maxHeartbeats 8000000 in
set_option maxRecDepth 100000 in
theorem slipwayref01_Width.calls (k:Nat) (A0:Option Addr) (c0:Nat) (l0:List Int) (r1:Int) (r2:Int) (w:World) (hr0:Kd.C (Kd.int .i64) w A0 l0.length l0) (hc0:l0.length≤c0) (h:slipwayref01_Width.f k l0=some (r1,r2)) :
  Calls Try.prog 62 #[.slice A0 l0.length c0] w fun e w'=>e=.returned (.tuple #[.int .i64 r1,.int .i64 r2])∧Drawn0 w w':=by
 have HR0:=zm hr0
 have HC0:=zm hc0
 clear hr0 hc0
 have H:(if (l0.length:Int) > 64 then (some (0,1)) else (slipwayref01_Width.l0 k l0 0 0))=some (r1,r2):=h
 clear h
 by_cases c2:(l0.length:Int) > 64
 ·rw [if_pos c2] at H
  have c2b0:decide (64 < (l0.length:Int))=true:=decide_eq_true c2
  have c2b1:decide (64 < l0.length)=true:=decide_eq_true (by omega)
  clear c2
  simp only [Option.some.injEq,Prod.mk.injEq] at H
  obtain ⟨rfl,rfl⟩:=H
  go_enter Try.func62,Try.ntmps62
  go_wp2
  go_ret2
  exact ⟨by first|rfl|(simp;done)|(simp [*];done),by repeat (first|exact Drawn0.refl _|apply Drawn0.step)⟩
 ·rw [if_neg c2] at H
  have c2b0:decide (64 < (l0.length:Int))=false:=decide_eq_false c2
  have c2b1:decide (64 < l0.length)=false:=decide_eq_false (by omega)
  clear c2
  have H':=zm H
  clear H
  go_enter Try.func62,Try.ntmps62
  go_wp2
  go_loopg [4,5] k (fun kq v4 v5 w'=>∃ (x4_1:Int) (x5_1:Int),v4=.int .i64 x4_1∧v5=.int .i64 x5_1∧Aside0 (slipwayref01_Width.l0 kq l0 x4_1 x5_1=some (r1,r2))∧Aside0 (kq≤k)∧Drawn0 w w')
  case atStart=>exact ⟨(0),(0),zs_,zs_,H',⟨Nat.le_refl _⟩,by repeat (first|exact Drawn0.refl _|apply Drawn0.step)⟩
  case round =>
   clear H'
   try clear c2
   try clear c2b0
   try clear c2b1
   try clear p2
   obtain ⟨x4_1,x5_1,rfl,rfl,HA,HK1,⟨m1,rfl⟩⟩:=hrel
   cases gk with
   | zero=>exact absurd HA.out (by simp [slipwayref01_Width.l0])
   | succ k1 =>
    have H:=HA.out
    clear HA
    simp only [slipwayref01_Width.l0] at H
    by_cases c3:x5_1 < (l0.length:Int)
    ·rw [if_pos c3] at H
     have c3b0:decide (x5_1 < (l0.length:Int))=true:=decide_eq_true c3
     clear c3
     by_cases c4:0≤x5_1
     ·rw [if_pos c4] at H
      have c4b0:decide (0≤x5_1)=true:=decide_eq_true c4
      clear c4
      by_cases c5:(rd l0 x5_1) < 1
      ·rw [if_pos c5] at H
       have c5b0:decide ((rd l0 x5_1) < 1)=true:=decide_eq_true c5
       clear c5
       simp only [Option.some.injEq,Prod.mk.injEq] at H
       obtain ⟨rfl,rfl⟩:=H
       have p187:0≤(x5_1:Int):=za_
       have q187:x5_1 < (l0.length:Int):=za_
       obtain ⟨ad187,e187,hx187_0⟩:=Kd.at_int HR0.out x5_1 p187 q187
       cases e187
       replace p187:=eq_true p187
       replace q187:=eq_true q187
       go_wp2
       go_ret2
       exact ⟨by first|rfl|(simp;done)|(simp [*];done),by repeat (first|exact Drawn0.refl _|apply Drawn0.step)⟩
      ·rw [if_neg c5] at H
       have c5b0:decide ((rd l0 x5_1) < 1)=false:=decide_eq_false c5
       clear c5
       by_cases c6:(rd l0 x5_1) > 64
       ·rw [if_pos c6] at H
        have c6b0:decide (64 < (rd l0 x5_1))=true:=decide_eq_true c6
        clear c6
        simp only [Option.some.injEq,Prod.mk.injEq] at H
        obtain ⟨rfl,rfl⟩:=H
        have p187:0≤(x5_1:Int):=za_
        have q187:x5_1 < (l0.length:Int):=za_
        obtain ⟨ad187,e187,hx187_0⟩:=Kd.at_int HR0.out x5_1 p187 q187
        cases e187
        replace p187:=eq_true p187
        replace q187:=eq_true q187
        have p188:0≤(x5_1:Int):=za_
        have q188:x5_1 < (l0.length:Int):=za_
        obtain ⟨ad188,e188,hx188_0⟩:=Kd.at_int HR0.out x5_1 p188 q188
        obtain rfl:ad187=ad188:=(by injection e188)
        replace p188:=eq_true p188
        replace q188:=eq_true q188
        go_wp2
        go_ret2
        exact ⟨by first|rfl|(simp;done)|(simp [*];done),by repeat (first|exact Drawn0.refl _|apply Drawn0.step)⟩
       ·rw [if_neg c6] at H
        have c6b0:decide (64 < (rd l0 x5_1))=false:=decide_eq_false c6
        clear c6
        have H':=zm H
        clear H
        have p187:0≤(x5_1:Int):=za_
        have q187:x5_1 < (l0.length:Int):=za_
        obtain ⟨ad187,e187,hx187_0⟩:=Kd.at_int HR0.out x5_1 p187 q187
        cases e187
        replace p187:=eq_true p187
        replace q187:=eq_true q187
        have p188:0≤(x5_1:Int):=za_
        have q188:x5_1 < (l0.length:Int):=za_
        obtain ⟨ad188,e188,hx188_0⟩:=Kd.at_int HR0.out x5_1 p188 q188
        obtain rfl:ad187=ad188:=(by injection e188)
        replace p188:=eq_true p188
        replace q188:=eq_true q188
        have p189:0≤(x5_1:Int):=za_
        have q189:x5_1 < (l0.length:Int):=za_
        obtain ⟨ad189,e189,hx189_0⟩:=Kd.at_int HR0.out x5_1 p189 q189
        obtain rfl:ad187=ad189:=(by injection e189)
        replace p189:=eq_true p189
        replace q189:=eq_true q189
        go_wp2
        go_roundg k1
        case measure=>have:=HK1.out;omega
        case rel=>exact ⟨(wrap64 (x4_1 + (rd l0 x5_1))),(wrap64 (x5_1 + 1)),zs_,zs_,H',⟨by have:=HK1.out;omega⟩,by repeat (first|exact Drawn0.refl _|apply Drawn0.step)⟩
     ·rw [if_neg c4] at H
      exact absurd H (by simp)
    ·rw [if_neg c3] at H
     have c3b0:decide (x5_1 < (l0.length:Int))=false:=decide_eq_false c3
     clear c3
     simp only [Option.some.injEq,Prod.mk.injEq] at H
     obtain ⟨rfl,rfl⟩:=H
     go_wp2
     go_ret2
     exact ⟨by first|rfl|(simp;done)|(simp [*];done),by repeat (first|exact Drawn0.refl _|apply Drawn0.step)⟩
end Go.Proofs.Ytdohpjjggjehfaa.Print
end
section
namespace Go.Proofs.Ytdohpjjggjehfaa.Print
open Go.RowKit Go.Proofs.YtdohpjjggjehfaaW.PrintWords Go.Proofs.YtdohpjjggjehfaaW.PrintLast Go.Proofs.YtdohpjjggjehfaaW.PrintMore
attribute [local go_sem] max2_int min2_int max_two min_two max_three min_three max_four min_four   -- for this text's walks alone
attribute [local go_sem ↓] Go.Proofs.Ytdohpjjggjehfaa.Sem.isSome_setCell
attribute [local go_sem] Go.Instr.field Go.asAgg
set_option linter.unusedVariables false
set_option linter.unusedSimpArgs false
mutual
def slipwayref01_Pack.l0:Nat → List Int → List Int → List Int → Int → Int → Option (List Int × Int)
 | 0,_,_,_,_,_=>none
 | k + 1,x0,x1,x8,x9,x10=>if x10 < (x1.length:Int) then (if 0≤x10 then (if x10 < (x0.length:Int) then (if (rd x0 x10) < 64 then (if 0≤(IntKind.u64.wrap (rd x0 x10)) then (slipwayref01_Pack.j1 k x0 x1 x8 x9 x10 ((shr .u64 (rd x1 x10) (IntKind.u64.wrap (rd x0 x10))) != 0)) else (none)) else (slipwayref01_Pack.j1 k x0 x1 x8 x9 x10 false)) else (none)) else (none)) else (some (x8,0))
def slipwayref01_Pack.j1:Nat → List Int → List Int → List Int → Int → Int → Bool → Option (List Int × Int)
 | 0,_,_,_,_,_,_=>none
 | k + 1,x0,x1,x8,x9,x10,x50=>if x50=true then (some (([]:List Int),1)) else (if 0≤x10 then (if x10 < (x0.length:Int) then (slipwayref01_Pack.l1 k x0 x1 x8 x9 x10 (wrap64 ((rd x0 x10) - 1))) else (none)) else (none))
def slipwayref01_Pack.l1:Nat → List Int → List Int → List Int → Int → Int → Int → Option (List Int × Int)
 | 0,_,_,_,_,_,_=>none
 | k + 1,x0,x1,x8,x9,x10,x11=>if x11 ≥ 0 then (if 0≤(wrap64 (Int.tdiv x9 8)) then (if (wrap64 (Int.tdiv x9 8)) < (x8.length:Int) then (if 0≤x10 then (if x10 < (x1.length:Int) then (if 0≤(IntKind.u64.wrap (x11)) then (if 0≤(IntKind.u64.wrap (wrap64 (7 - (Int.tmod x9 8)))) then (slipwayref01_Pack.l1 k x0 x1 (x8.set ((wrap64 (Int.tdiv x9 8)):Int).toNat (Go.bits .or .u8 (rd x8 (wrap64 (Int.tdiv x9 8))) (shl .u8 ((Go.bits .and .u64 (shr .u64 (rd x1 x10) (IntKind.u64.wrap (x11))) 1) % 256) (IntKind.u64.wrap (wrap64 (7 - (Int.tmod x9 8))))))) (wrap64 (x9 + 1)) x10 (wrap64 (x11 - 1))) else (none)) else (none)) else (none)) else (none)) else (none)) else (none)) else (slipwayref01_Pack.l0 k x0 x1 x8 x9 (wrap64 (x10 + 1)))
end
def slipwayref01_Pack.f (k:Nat) (l0:List Int) (l1:List Int):Option (List Int × Int):=(slipwayref01_Width.f k l0).bind fun bt190=>(if bt190.2=0 then (if (l1.length:Int)=(l0.length:Int) then (if 0≤bt190.1 then (if (bt190.1:Int).toNat≤281474976710656 then (slipwayref01_Pack.l0 k l0 l1 (List.replicate (bt190.1:Int).toNat 0) 0 0) else (none)) else (none)) else (some (([]:List Int),1))) else (some (([]:List Int),bt190.2)))
def slipwayref01_Pack.T11:Bool × List (List Nat × List Nat):=(true,[([],[]),([],[]),([0,1],[0,1]),([2],[2]),([3],[3]),([4],[4]),([5],[5]),([5],[5]),([6,7,5],[5,6,7]),([8,5],[5,8]),([5],[5]),([5],[5]),([10,11,5],[5,10,11]),([12,5],[5,12]),([13,5],[5,13]),([9,14,5],[5,9,14]),([15,5],[5,15]),([5,16],[5,16])])
def slipwayref01_Pack.B11:List Nat:=[0,0,3,7,15,31,63,63,255,511,63,63,3135,7231,15423,32767,65535,131071]
theorem slipwayref01_Pack.tab11:rtab .any (opsOf Try.f55 11)=slipwayref01_Pack.T11:=by kernel_rfl
theorem slipwayref01_Pack.bits11:waitsOk slipwayref01_Pack.T11.2 slipwayref01_Pack.B11=true:=by kernel_rfl
def slipwayref01_Pack.T16:Bool × List (List Nat × List Nat):=(true,[([],[]),([],[]),([1],[1]),([0,2],[0,2]),([3],[3]),([],[]),([],[]),([5,6],[5,6]),([7],[7]),([],[]),([9],[9]),([8,10],[8,10]),([11],[11]),([12],[12]),([],[]),([14],[14]),([15],[15]),([16],[16]),([13,17],[13,17]),([4,18],[4,18]),([0,2,0,1,2,3,4,5,6,7,8,9,10,11,12,13,14,15,16,17,18,19],[0,2]),([20,19,0,1,2,3,4,5,6,7,8,9,10,11,12,13,14,15,16,17,18,19],[19,20])])
def slipwayref01_Pack.B16:List Nat:=[0,0,2,7,15,0,0,96,224,0,512,2016,4064,8160,0,16384,49152,114688,262112,524287,1048575,2097151]
theorem slipwayref01_Pack.tab16:rtab .any (opsOf Try.f55 16)=slipwayref01_Pack.T16:=by kernel_rfl
theorem slipwayref01_Pack.bits16:waitsOk slipwayref01_Pack.T16.2 slipwayref01_Pack.B16=true:=by kernel_rfl
set_option maxHeartbeats 8000000 in
set_option maxRecDepth 100000 in
theorem slipwayref01_Pack.calls (k:Nat) (A0:Option Addr) (c0:Nat) (l0:List Int) (A1:Option Addr) (c1:Nat) (l1:List Int) (r1:List Int) (r2:Int) (w:World) (hr0:Kd.C (Kd.int .i64) w A0 l0.length l0) (hc0:l0.length≤c0) (hr1:Kd.C (Kd.int .u64) w A1 l1.length l1) (hc1:l1.length≤c1) (h:slipwayref01_Pack.f k l0 l1=some (r1,r2)) :
  Calls Try.prog 55 #[.slice A0 l0.length c0,.slice A1 l1.length c1] w fun e w'=>∃ v0_:Value,e=.returned (.tuple #[v0_,.int .i64 r2])∧Kd.R (Kd.int .u8) 5 w' w.heap.size (fun _=>True) v0_ r1∧Below w.heap.size w w':=by
 have HR0:=zm hr0
 have HC0:=zm hc0
 clear hr0 hc0
 have HR1:=zm hr1
 have HC1:=zm hc1
 clear hr1 hc1
 have HB:=zm (Below.refl w.heap.size w)
 have H:((slipwayref01_Width.f k l0).bind fun bt190=>(if bt190.2=0 then (if (l1.length:Int)=(l0.length:Int) then (if 0≤bt190.1 then (if (bt190.1:Int).toNat≤281474976710656 then (slipwayref01_Pack.l0 k l0 l1 (List.replicate (bt190.1:Int).toNat 0) 0 0) else (none)) else (none)) else (some (([]:List Int),1))) else (some (([]:List Int),bt190.2))))=some (r1,r2):=h
 clear h
 replace H:=Option.bind_eq_some_iff.mp H
 obtain ⟨⟨t190,t191⟩,A30,H⟩:=H
 replace H:(if t191=0 then (if (l1.length:Int)=(l0.length:Int) then (if 0≤t190 then (if (t190:Int).toNat≤281474976710656 then (slipwayref01_Pack.l0 k l0 l1 (List.replicate (t190:Int).toNat 0) 0 0) else (none)) else (none)) else (some (([]:List Int),1))) else (some (([]:List Int),t191)))=some (r1,r2):=H
 have A3:=zm A30
 clear A30
 by_cases c4:t191=0
 ·rw [if_pos c4] at H
  have c4b0:(t191 == 0)=true:=beq_iff_eq.mpr c4
  have c4b1:(t191 != 0)=false:=bne_eq_false_iff_eq.mpr c4
  clear c4
  by_cases c5:(l1.length:Int)=(l0.length:Int)
  ·rw [if_pos c5] at H
   have c5b0:((l1.length:Int) == (l0.length:Int))=true:=beq_iff_eq.mpr c5
   have c5b1:((l1.length:Int) != (l0.length:Int))=false:=bne_eq_false_iff_eq.mpr c5
   have c5b2:(l1.length == l0.length)=true:=by first|simpa using c5|(simp at c5 ⊢;omega)
   clear c5
   by_cases c6:0≤t190
   ·rw [if_pos c6] at H
    have c6b0:=eq_true c6
    have c6b1:decide (0≤t190)=true:=decide_eq_true c6
    clear c6
    by_cases c7:(t190:Int).toNat≤281474976710656
    ·rw [if_pos c7] at H
     have c7b0:=eq_true c7
     have c7b1:decide ((t190:Int).toNat≤281474976710656)=true:=decide_eq_true c7
     clear c7
     obtain ⟨y192,hy192⟩:∃ y_:List Int,y_=(List.replicate (t190:Int).toNat 0):=⟨_,rfl⟩
     replace H:(slipwayref01_Pack.l0 k l0 l1 y192 0 0)=some (r1,r2):=by first|(rw [hy192];with_reducible exact H)|(have H2_:=(Option.bind_some _ _).symm.trans H;rw [hy192];with_reducible exact H2_)|(have H2_:=(Option.bind_some _ _).symm.trans H;with_reducible exact H2_)|with_reducible exact H|(rw [hy192];exact H)|exact H
     have Ny192:=zm hy192
     clear hy192
     have H':=zm H
     clear H
     go_enter Try.func55,Try.ntmps55
     go_wp2_with (first|((with_reducible refine gate_callee (f:=62) rfl ?_);refine goesL_ (some 14) rfl rfl Try.func62 (by kernel_rfl) rfl #[.slice A0 l0.length c0] rfl (by (try simp only [List.map_toArray,List.map_cons,List.map_nil]);first|done|rfl|(simp only [List.length_drop,List.length_take];rfl)) ?_;(with_reducible refine (slipwayref01_Width.calls k _ _ l0 t190 t191 _ ?side1 ?side2 A3.out).mono ?_);(case side1=>repeat (first|exact HR0.out|(with_reducible refine Kd.C_alloc ?_ _)|(with_reducible refine Kd.C_drewN ?_ _)|(with_reducible refine Kd.C_drew ?_)));(case side2=>exact HC0.out);rintro e w' ⟨rfl,⟨nd,rfl⟩⟩;refine ⟨_,rfl,?_⟩)|((with_reducible refine gate_dst (N:=26) rfl ?_);refine Kd.R_make (Kd.int .u8) _ 5 rfl (N:=26) rfl 24 _ _ rfl t190 rfl rfl Try.underlying24 (.int .u8 0) 1 info5 rfl (by decide) (by omega) 0 (ok:=fun _=>True) (okp:=fun _=>True) rfl (fun _ hk=>hk) trivial (za_) (Nat.le_trans (Nat.mul_le_mul_right _ (za_:t190.toNat≤281474976710656)) (by omega)) (Below.refl _ _) (Nat.le_refl _) ?_;intro v193 w8 ho9 hb hg_ hnew_;clear hg_ hnew_;(first|rw [← Ny192.out] at ho9|(simp only [Int.reduceToNat] at ho9;rw [← Ny192.out] at ho9));have n0_:=zm (Kd.R_lower ho9 (below_size (zb_)));have n1_:=zkH HB hb;clear HB;have HO194:=n0_;have HB:=n1_;clear n0_ n1_;clear hb ho9))
     go_loopg [9,10] k (fun kq v9 v10 w'=>∃ (x8_1:List Int) (x9_1:Int) (x10_1:Int),v9=.int .i64 x9_1∧v10=.int .i64 x10_1∧Aside0 (slipwayref01_Pack.l0 kq l0 l1 x8_1 x9_1 x10_1=some (r1,r2))∧Aside0 (kq≤k)∧Aside0 (Kd.R (Kd.int .u8) 5 w' w.heap.size (fun _=>True) v193 x8_1)∧Aside0 (Below w.heap.size w w'))
     case atStart=>exact ⟨(y192),(0),(0),zs_,zs_,H',⟨Nat.le_refl _⟩,⟨by (with_reducible repeat (first|apply zrA|apply zrN|apply zrD));exact HO194.out⟩,⟨zb_⟩⟩
     case round =>
      clear H'
      try clear c1
      try clear p2
      try clear c4
      try clear c4b0
      try clear c4b1
      try clear c5
      try clear c5b0
      try clear c5b1
      try clear c5b2
      try clear c6
      try clear c6b0
      try clear c6b1
      try clear c7
      try clear c7b0
      try clear c7b1
      obtain ⟨x8_1,x9_1,x10_1,rfl,rfl,HA,HK1,HO_8,HB⟩:=hrel
      cases gk with
      | zero=>exact absurd HA.out (by simp [slipwayref01_Pack.l0])
      | succ k1 =>
       have H:=HA.out
       clear HA
       simp only [slipwayref01_Pack.l0] at H
       by_cases c10:x10_1 < (l1.length:Int)
       ·rw [if_pos c10] at H
        have c10b0:decide (x10_1 < (l1.length:Int))=true:=decide_eq_true c10
        clear c10
        have HC11:=zm H
        clear H
        go_upto_region 11 with (fail)
        go_cut [50] (fun v50 wc=>∃ (kq:Nat) (x50_10:Bool),v50=.bool x50_10∧Aside0 (slipwayref01_Pack.j1 kq l0 l1 x8_1 x9_1 x10_1 x50_10=some (r1,r2))∧Aside0 (kq≤k1)∧Aside0 (Kd.R (Kd.int .u8) 5 wc w.heap.size (fun _=>True) v193 x8_1)∧Aside0 (Below w.heap.size w wc))
        case first =>
         have H:=HC11.out
         clear HC11
         by_cases c12:0≤x10_1
         ·rw [if_pos c12] at H
          have c12b0:decide (0≤x10_1)=true:=decide_eq_true c12
          clear c12
          (first|rw [c12b0]|(simp only [i64_w,i32_w];rw [c12b0])|skip)
          by_cases c13:x10_1 < (l0.length:Int)
          ·rw [if_pos c13] at H
           have c13b0:decide (x10_1 < (l0.length:Int))=true:=decide_eq_true c13
           clear c13
           by_cases c14:(rd l0 x10_1) < 64
           ·rw [if_pos c14] at H
            have c14b0:decide ((rd l0 x10_1) < 64)=true:=decide_eq_true c14
            clear c14
            obtain ⟨ji15,hji15⟩:∃ j_:Int,(IntKind.u64.wrap (rd l0 x10_1))=j_:=⟨_,rfl⟩
            replace H:(if 0≤(ji15) then (slipwayref01_Pack.j1 k1 l0 l1 x8_1 x9_1 x10_1 ((shr .u64 (rd l1 x10_1) (ji15)) != 0)) else (none))=some (r1,r2):=by first|(rw [hji15] at H;exact H)|(simp only [hji15] at H ⊢;exact H)
            by_cases c16:0≤(ji15)
            ·rw [if_pos c16] at H
             have c16b0:=eq_true c16
             have c16b1:decide (0≤(ji15))=true:=decide_eq_true c16
             clear c16
             obtain ⟨ji17,hji17⟩:∃ j_:Int,(shr .u64 (rd l1 x10_1) (ji15))=j_:=⟨_,rfl⟩
             replace H:(slipwayref01_Pack.j1 k1 l0 l1 x8_1 x9_1 x10_1 ((ji17) != 0))=some (r1,r2):=by first|(rw [hji17] at H;exact H)|(simp only [hji17] at H ⊢;exact H)
             have hji17_:((rd l1 x10_1) / 2 ^ min (ji15).toNat 64)=ji17:=hji17
             have hji17z:(ji15)≤64 → ((rd l1 x10_1) / 2 ^ (ji15).toNat)=ji17:=shr_small hji17
             have H':=zm H
             clear H
             try go_wp2
             have n0_:=zm (zrD HO_8.out)
             have n1_:=zm (zlD HB.out)
             clear HO_8 HB
             have HO_8:=n0_
             have HB:=n1_
             clear n0_ n1_
             have p195:0≤(x10_1:Int):=za_
             have q195:x10_1 < (l0.length:Int):=za_
             obtain ⟨ad195,e195,hx195_0⟩:=Kd.at_int HR0.out x10_1 p195 q195
             have hw195_0:=hx195_0
             cases e195
             replace hx195_0:=zhx HB hx195_0
             replace p195:=eq_true p195
             replace q195:=eq_true q195
             have p196:0≤(x10_1:Int):=za_
             have q196:x10_1 < (l1.length:Int):=za_
             obtain ⟨ad196,e196,hx196_0⟩:=Kd.at_int HR1.out x10_1 p196 q196
             have hw196_0:=hx196_0
             cases e196
             replace hx196_0:=zhx HB hx196_0
             replace p196:=eq_true p196
             replace q196:=eq_true q196
             have p197:0≤(x10_1:Int):=za_
             have q197:x10_1 < (l0.length:Int):=za_
             obtain ⟨ad197,e197,hx197_0⟩:=Kd.at_int HR0.out x10_1 p197 q197
             have hw197_0:=hx197_0
             obtain rfl:ad195=ad197:=(by injection e197)
             replace hx197_0:=zhx HB hx197_0
             replace p197:=eq_true p197
             replace q197:=eq_true q197
             refine start_ (n:=18) (S:=fun w'=>w'.cell? (ad195.add (x10_1).toNat)=some (.int .i64 (rd l0 x10_1))∧w'.cell? (ad196.add (x10_1).toNat)=some (.int .u64 (rd l1 x10_1))∧w'.cell? (ad195.add (x10_1).toNat)=some (.int .i64 (rd l0 x10_1))) (ds:=[]) (Array.replicate 18 false) (by kernel_rfl) rfl rfl ⟨(zhx HB hw195_0),(zhx HB hw196_0),(zhx HB hw197_0)⟩ (fun hHeld=>?_);refine with_tabW slipwayref01_Pack.tab11 slipwayref01_Pack.bits11 (fun HT_ HW_=>?_)
             generalize wr.drew=w18 at HO_8 HB hx195_0 hx196_0 hx197_0 hHeld ⊢
             refine zpu 0 ?_
             refine zpu 1 ?_
             refine zpu 2 ?_
             refine zta 3 hHeld ?_
             refine zpu 4 ?_
             refine zpu 5 ?_
             refine zpu 6 ?_
             refine zpu 7 ?_
             refine zpu 8 ?_
             refine zpu 10 ?_
             refine zpu 11 ?_
             refine zpu 12 ?_
             refine zta 9 hHeld ?_
             refine zta 13 hHeld ?_
             refine zpu 14 ?_
             refine zpu 15 ?_
             refine zpu 16 ?_
             refine zpu 17 ?_
             refine zdo ?_
             try go_wp2
             go_meet
             case rel=>exact ⟨_,(((ji17) != 0)),(by first|rfl|(simp;done)|(simp only [← hji17] <;> (first|rfl|simp))|(simp [*];done)),H',⟨by have:=HK1.out;first|omega|exact Nat.le_refl _⟩,⟨by (with_reducible repeat (first|apply zrA|apply zrN|apply zrD));exact HO_8.out⟩,⟨zb_⟩⟩
            ·rw [if_neg c16] at H
             exact absurd H (by simp)
           ·rw [if_neg c14] at H
            have c14b0:decide ((rd l0 x10_1) < 64)=false:=decide_eq_false c14
            clear c14
            have H':=zm H
            clear H
            try go_wp2
            have n0_:=zm (zrD HO_8.out)
            have n1_:=zm (zlD HB.out)
            clear HO_8 HB
            have HO_8:=n0_
            have HB:=n1_
            clear n0_ n1_
            have p195:0≤(x10_1:Int):=za_
            have q195:x10_1 < (l0.length:Int):=za_
            obtain ⟨ad195,e195,hx195_0⟩:=Kd.at_int HR0.out x10_1 p195 q195
            have hw195_0:=hx195_0
            cases e195
            replace hx195_0:=zhx HB hx195_0
            replace p195:=eq_true p195
            replace q195:=eq_true q195
            refine start_ (n:=18) (S:=fun w'=>w'.cell? (ad195.add (x10_1).toNat)=some (.int .i64 (rd l0 x10_1))) (ds:=[]) (Array.replicate 18 false) (by kernel_rfl) rfl rfl ((zhx HB hw195_0)) (fun hHeld=>?_);refine with_tabW slipwayref01_Pack.tab11 slipwayref01_Pack.bits11 (fun HT_ HW_=>?_)
            generalize wr.drew=w19 at HO_8 HB hx195_0 hHeld ⊢
            refine zpu 0 ?_
            refine zpu 1 ?_
            refine zpu 2 ?_
            refine take_ (i:=3) (N:=some 36) (v:=?_) (a':=?_) #[true,true,true,true,false,false,false,false,false,false,false,false,false,false,false,false,false,false] rfl rfl (take_ofW HT_.out HW_.out (by kernel_rfl)) (fun _ _ _ h=>h) (Or.inl ⟨by rfl,?_⟩) hHeld ?_ ?_
            rotate_left
            ·intro w' s0
             go_simp
             with_reducible rfl
            rotate_left
            ·simp only [Act.put,List.setIfInBounds_toArray,List.set_cons_zero,List.set_cons_succ,i64_w,i32_w]
             rfl
            refine zpu 4 ?_
            refine zpu 5 ?_
            refine zpn 6 ?_
            refine zpn 7 ?_
            refine zpn 8 ?_
            refine zpn 9 ?_
            refine zpn 10 ?_
            refine zpn 11 ?_
            refine zpn 12 ?_
            refine zpn 13 ?_
            refine zpn 14 ?_
            refine zpn 15 ?_
            refine zpn 16 ?_
            refine zpu 17 ?_
            refine zdo ?_
            try go_wp2
            go_meet
            case rel=>exact ⟨_,(false),zs_,H',⟨by have:=HK1.out;first|omega|exact Nat.le_refl _⟩,⟨by (with_reducible repeat (first|apply zrA|apply zrN|apply zrD));exact HO_8.out⟩,⟨zb_⟩⟩
          ·rw [if_neg c13] at H
           exact absurd H (by simp)
         ·rw [if_neg c12] at H
          exact absurd H (by simp)
        case rest =>
         clear HC11
         try clear c1
         try clear p1
         try clear q1
         try clear hx1
         try clear p2
         try clear c4
         try clear c4b0
         try clear c4b1
         try clear c5
         try clear c5b0
         try clear c5b1
         try clear c5b2
         try clear c6
         try clear c6b0
         try clear c6b1
         try clear c7
         try clear c7b0
         try clear c7b1
         try clear c10
         try clear c10b0
         try clear c12
         try clear c12b0
         try clear c13
         try clear c13b0
         try clear c14
         try clear c14b0
         try clear c16
         try clear c16b0
         try clear c16b1
         try clear p19
         try clear q19
         try clear hx19
         try clear hx195_0
         try clear hx196_0
         try clear hx197_0
         try clear p195
         try clear p196
         try clear p197
         try clear p2
         try clear q195
         try clear q196
         try clear q197
         obtain ⟨kq,x50_10,rfl,HA,HJ10,HO_8,HB⟩:=hcut
         cases kq with
         | zero=>exact absurd HA.out (by simp [slipwayref01_Pack.j1])
         | succ kj10 =>
          have H:=HA.out
          clear HA
          simp only [slipwayref01_Pack.j1] at H
          by_cases c20:x50_10=true
          ·subst c20
           have H1:(some (([]:List Int),1))=some (r1,r2):=by rw [if_pos rfl] at H;exact H
           clear H
           have H:=H1
           clear H1
           simp only [Option.some.injEq,Prod.mk.injEq] at H
           obtain ⟨rfl,rfl⟩:=H
           go_wp2
           go_ret2
           exact ⟨_,ze_,zr_,zb_⟩
          ·replace c20:=Bool.eq_false_iff.mpr c20
           subst c20
           have H1:(if 0≤x10_1 then (if x10_1 < (l0.length:Int) then (slipwayref01_Pack.l1 kj10 l0 l1 x8_1 x9_1 x10_1 (wrap64 ((rd l0 x10_1) - 1))) else (none)) else (none))=some (r1,r2):=by rw [if_neg (show ¬ (false=true) by decide)] at H;exact H
           clear H
           have H:=H1
           clear H1
           by_cases c21:0≤x10_1
           ·rw [if_pos c21] at H
            have c21b0:decide (0≤x10_1)=true:=decide_eq_true c21
            clear c21
            by_cases c22:x10_1 < (l0.length:Int)
            ·rw [if_pos c22] at H
             have c22b0:decide (x10_1 < (l0.length:Int))=true:=decide_eq_true c22
             clear c22
             have H':=zm H
             clear H
             have p198:0≤(x10_1:Int):=za_
             have q198:x10_1 < (l0.length:Int):=za_
             obtain ⟨ad198,e198,hx198_0⟩:=Kd.at_int HR0.out x10_1 p198 q198
             cases e198
             replace hx198_0:=zhx HB hx198_0
             replace p198:=eq_true p198
             replace q198:=eq_true q198
             go_wp2
             go_loopg [9,11] kj10 (fun kq v9 v11 w'=>∃ (x8_3:List Int) (x9_3:Int) (x11_3:Int),v9=.int .i64 x9_3∧v11=.int .i64 x11_3∧Aside0 (slipwayref01_Pack.l1 kq l0 l1 x8_3 x9_3 x10_1 x11_3=some (r1,r2))∧Aside0 (kq≤kj10)∧Aside0 (Kd.R (Kd.int .u8) 5 w' w.heap.size (fun _=>True) v193 x8_3)∧Aside0 (Below w.heap.size w w'))
             case atStart=>exact ⟨(x8_1),(x9_1),(wrap64 ((rd l0 x10_1) - 1)),zs_,zs_,H',⟨Nat.le_refl _⟩,⟨by (with_reducible repeat (first|apply zrA|apply zrN|apply zrD));exact HO_8.out⟩,⟨zb_⟩⟩
             case round =>
              clear H'
              try clear c1
              try clear p1
              try clear q1
              try clear hx1
              try clear c2
              try clear p2
              try clear c4
              try clear c4b0
              try clear c4b1
              try clear c5
              try clear c5b0
              try clear c5b1
              try clear c5b2
              try clear c6
              try clear c6b0
              try clear c6b1
              try clear p6
              try clear c7
              try clear c7b0
              try clear c7b1
              try clear c10
              try clear c10b0
              try clear c12
              try clear c12b0
              try clear c13
              try clear c13b0
              try clear c14
              try clear c14b0
              try clear c16
              try clear c16b0
              try clear c16b1
              try clear p19
              try clear q19
              try clear hx19
              try clear c20
              try clear c21
              try clear c21b0
              try clear c22
              try clear c22b0
              try clear hx195_0
              try clear hx196_0
              try clear hx197_0
              try clear hx198_0
              try clear p1
              try clear p19
              try clear p195
              try clear p196
              try clear p197
              try clear p198
              try clear p2
              try clear q1
              try clear q19
              try clear q195
              try clear q196
              try clear q197
              try clear q198
              obtain ⟨x8_3,x9_3,x11_3,rfl,rfl,HA,HK3,HO_8,HB⟩:=hrel
              cases gk with
              | zero=>exact absurd HA.out (by simp [slipwayref01_Pack.l1])
              | succ k3 =>
               have H:=HA.out
               clear HA
               simp only [slipwayref01_Pack.l1] at H
               by_cases c23:x11_3 ≥ 0
               ·rw [if_pos c23] at H
                have c23b0:decide (0≤x11_3)=true:=decide_eq_true c23
                clear c23
                obtain ⟨ji24,hji24⟩:∃ j_:Int,(wrap64 (Int.tdiv x9_3 8))=j_:=⟨_,rfl⟩
                replace H:(if 0≤(ji24) then (if (ji24) < (x8_3.length:Int) then (if 0≤x10_1 then (if x10_1 < (l1.length:Int) then (if 0≤(IntKind.u64.wrap (x11_3)) then (if 0≤(IntKind.u64.wrap (wrap64 (7 - (Int.tmod x9_3 8)))) then (slipwayref01_Pack.l1 k3 l0 l1 (x8_3.set ((ji24):Int).toNat (Go.bits .or .u8 (rd x8_3 (ji24)) (shl .u8 ((Go.bits .and .u64 (shr .u64 (rd l1 x10_1) (IntKind.u64.wrap (x11_3))) 1) % 256) (IntKind.u64.wrap (wrap64 (7 - (Int.tmod x9_3 8))))))) (wrap64 (x9_3 + 1)) x10_1 (wrap64 (x11_3 - 1))) else (none)) else (none)) else (none)) else (none)) else (none)) else (none))=some (r1,r2):=by first|(rw [hji24] at H;exact H)|(simp only [hji24] at H ⊢;exact H)
                have hji24w:(IntKind.i64.wrap (Int.tdiv x9_3 8))=ji24:=(i64_w _).trans hji24
                by_cases c25:0≤(ji24)
                ·rw [if_pos c25] at H
                 have c25b0:decide (0≤(ji24))=true:=decide_eq_true c25
                 clear c25
                 by_cases c26:(ji24) < (x8_3.length:Int)
                 ·rw [if_pos c26] at H
                  have c26b0:decide ((ji24) < (x8_3.length:Int))=true:=decide_eq_true c26
                  clear c26
                  by_cases c27:0≤x10_1
                  ·rw [if_pos c27] at H
                   have c27b0:decide (0≤x10_1)=true:=decide_eq_true c27
                   clear c27
                   by_cases c28:x10_1 < (l1.length:Int)
                   ·rw [if_pos c28] at H
                    have c28b0:decide (x10_1 < (l1.length:Int))=true:=decide_eq_true c28
                    clear c28
                    obtain ⟨ji29,hji29⟩:∃ j_:Int,(IntKind.u64.wrap (x11_3))=j_:=⟨_,rfl⟩
                    replace H:(if 0≤(ji29) then (if 0≤(IntKind.u64.wrap (wrap64 (7 - (Int.tmod x9_3 8)))) then (slipwayref01_Pack.l1 k3 l0 l1 (x8_3.set ((ji24):Int).toNat (Go.bits .or .u8 (rd x8_3 (ji24)) (shl .u8 ((Go.bits .and .u64 (shr .u64 (rd l1 x10_1) (ji29)) 1) % 256) (IntKind.u64.wrap (wrap64 (7 - (Int.tmod x9_3 8))))))) (wrap64 (x9_3 + 1)) x10_1 (wrap64 (x11_3 - 1))) else (none)) else (none))=some (r1,r2):=by first|(rw [hji29] at H;exact H)|(simp only [hji29] at H ⊢;exact H)
                    by_cases c30:0≤(ji29)
                    ·rw [if_pos c30] at H
                     have c30b0:=eq_true c30
                     have c30b1:decide (0≤(ji29))=true:=decide_eq_true c30
                     clear c30
                     obtain ⟨ji31,hji31⟩:∃ j_:Int,(shr .u64 (rd l1 x10_1) (ji29))=j_:=⟨_,rfl⟩
                     replace H:(if 0≤(IntKind.u64.wrap (wrap64 (7 - (Int.tmod x9_3 8)))) then (slipwayref01_Pack.l1 k3 l0 l1 (x8_3.set ((ji24):Int).toNat (Go.bits .or .u8 (rd x8_3 (ji24)) (shl .u8 ((Go.bits .and .u64 (ji31) 1) % 256) (IntKind.u64.wrap (wrap64 (7 - (Int.tmod x9_3 8))))))) (wrap64 (x9_3 + 1)) x10_1 (wrap64 (x11_3 - 1))) else (none))=some (r1,r2):=by first|(rw [hji31] at H;exact H)|(simp only [hji31] at H ⊢;exact H)
                     have hji31_:((rd l1 x10_1) / 2 ^ min (ji29).toNat 64)=ji31:=hji31
                     have hji31z:(ji29)≤64 → ((rd l1 x10_1) / 2 ^ (ji29).toNat)=ji31:=shr_small hji31
                     obtain ⟨ji32,hji32⟩:∃ j_:Int,(IntKind.u64.wrap (wrap64 (7 - (Int.tmod x9_3 8))))=j_:=⟨_,rfl⟩
                     replace H:(if 0≤(ji32) then (slipwayref01_Pack.l1 k3 l0 l1 (x8_3.set ((ji24):Int).toNat (Go.bits .or .u8 (rd x8_3 (ji24)) (shl .u8 ((Go.bits .and .u64 (ji31) 1) % 256) (ji32)))) (wrap64 (x9_3 + 1)) x10_1 (wrap64 (x11_3 - 1))) else (none))=some (r1,r2):=by first|(rw [hji32] at H;exact H)|(simp only [hji32] at H ⊢;exact H)
                     by_cases c33:0≤(ji32)
                     ·rw [if_pos c33] at H
                      have c33b0:=eq_true c33
                      have c33b1:decide (0≤(ji32))=true:=decide_eq_true c33
                      clear c33
                      obtain ⟨ji34,hji34⟩:∃ j_:Int,(shl .u8 ((Go.bits .and .u64 (ji31) 1) % 256) (ji32))=j_:=⟨_,rfl⟩
                      replace H:(slipwayref01_Pack.l1 k3 l0 l1 (x8_3.set ((ji24):Int).toNat (Go.bits .or .u8 (rd x8_3 (ji24)) (ji34))) (wrap64 (x9_3 + 1)) x10_1 (wrap64 (x11_3 - 1)))=some (r1,r2):=by first|(rw [hji34] at H;exact H)|(simp only [hji34] at H ⊢;exact H)
                      have hji34_:(IntKind.u8.wrap (((Go.bits .and .u64 (ji31) 1) % 256) * 2 ^ min (ji32).toNat 8))=ji34:=hji34
                      have hji34z:(ji32)≤8 → (IntKind.u8.wrap (((Go.bits .and .u64 (ji31) 1) % 256) * 2 ^ (ji32).toNat))=ji34:=shl_small hji34
                      have hji34m:(((Go.bits .and .u64 (ji31) 1) % 256) * 2 ^ min (ji32).toNat 8) % 256=ji34:=(IntKind.wrap_u8 _).symm.trans hji34_
                      have hji34n:(ji32)≤8 → (((Go.bits .and .u64 (ji31) 1) % 256) * 2 ^ (ji32).toNat) % 256=ji34:=fun hle_=>(IntKind.wrap_u8 _).symm.trans (hji34z hle_)
                      obtain ⟨y201,hy201⟩:∃ y_:List Int,y_=(x8_3.set ((ji24):Int).toNat (Go.bits .or .u8 (rd x8_3 (ji24)) (ji34))):=⟨_,rfl⟩
                      replace H:(slipwayref01_Pack.l1 k3 l0 l1 y201 (wrap64 (x9_3 + 1)) x10_1 (wrap64 (x11_3 - 1)))=some (r1,r2):=by first|(rw [hy201];with_reducible exact H)|(have H2_:=(Option.bind_some _ _).symm.trans H;rw [hy201];with_reducible exact H2_)|(have H2_:=(Option.bind_some _ _).symm.trans H;with_reducible exact H2_)|with_reducible exact H|(rw [hy201];exact H)|exact H
                      have Ny201:=zm hy201
                      clear hy201
                      have H':=zm H
                      clear H
                      try go_wp2
                      have n0_:=zm (zrD HO_8.out)
                      have n1_:=zm (zlD HB.out)
                      clear HO_8 HB
                      have HO_8:=n0_
                      have HB:=n1_
                      clear n0_ n1_
                      obtain ⟨Ao37,co37,eo37⟩:=Kd.R_slice HO_8.out
                      (first|subst eo37|(injection eo37 with f1_ f2_ f3_;have f4_:=f1_.symm;have f5_:=f3_.symm;clear f1_ f2_ f3_;subst f4_;subst f5_))
                      have p199:0≤((ji24):Int):=za_
                      have q199:(ji24) < (x8_3.length:Int):=za_
                      obtain ⟨ad199,e199,hx199_0⟩:=Kd.at_int (Kd.R_reads' HO_8.out).2.2 (ji24) p199 q199
                      cases e199
                      replace p199:=eq_true p199
                      replace q199:=eq_true q199
                      have p200:0≤(x10_1:Int):=za_
                      have q200:x10_1 < (l1.length:Int):=za_
                      obtain ⟨ad200,e200,hx200_0⟩:=Kd.at_int HR1.out x10_1 p200 q200
                      have hw200_0:=hx200_0
                      cases e200
                      replace hx200_0:=zhx HB hx200_0
                      replace p200:=eq_true p200
                      replace q200:=eq_true q200
                      have p35:0≤((ji24):Int):=za_
                      have q35:((ji24):Int) < ((x8_3.length:Int):Int):=za_
                      obtain ⟨go35,co35,eo35,gb35,gl35,cl35,HG35⟩:=Kd.R_form HO_8.out (by omega)
                      (first|cases eo35|(injection eo35 with ea_ en_ ec_;(first|subst ea_|(injection ea_ with ea_;subst ea_));subst ec_;clear en_))
                      have GB35:=zm gb35
                      have GG35:=zm HG35
                      clear gb35 gl35 HG35
                      (first|simp only [add_plain] at hx199_0|skip)
                      obtain ⟨hx35_0,hf35_0⟩:=Kd.R_celln 0 HO_8.out ((ji24):Int) p35 q35
                      replace p35:=eq_true p35
                      replace q35:=eq_true q35
                      have HP38:=Kd.R_putn HO_8.out ((ji24):Int) (Go.bits .or .u8 (rd x8_3 (ji24)) (ji34))
                      rw [← Ny201.out] at HP38
                      have HQ38:=zm HP38
                      clear HP38
                      refine start_ (n:=22) (S:=fun w'=>w'.cell? ⟨go35,((ji24)).toNat,none⟩=some (.int .u8 (rd x8_3 (ji24)))∧w'.cell? (ad200.add (x10_1).toNat)=some (.int .u64 (rd l1 x10_1))) (ds:=[21]) (Array.replicate 22 false) (by kernel_rfl) rfl rfl ⟨hx199_0,(zhx HB hw200_0)⟩ (fun hHeld=>?_);refine with_tabW slipwayref01_Pack.tab16 slipwayref01_Pack.bits16 (fun HT_ HW_=>?_)
                      generalize wr.drew=w36 at HO_8 HB GG35 HQ38 hf35_0 hx199_0 hx200_0 hx35_0 hHeld ⊢
                      refine zpu 0 ?_
                      refine zpu 1 ?_
                      refine zpu 2 ?_
                      refine zpu 3 ?_
                      refine zpu 5 ?_
                      refine zpu 6 ?_
                      refine zpu 7 ?_
                      refine zpu 9 ?_
                      refine zpu 10 ?_
                      refine zpu 14 ?_
                      refine zpu 15 ?_
                      refine zpu 16 ?_
                      refine zpu 17 ?_
                      refine zta 4 hHeld ?_
                      refine zta 8 hHeld ?_
                      refine zpu 11 ?_
                      refine zpu 12 ?_
                      refine zpu 13 ?_
                      refine zpu 18 ?_
                      refine zpu 19 ?_
                      refine zpu 20 ?_
                      refine zla 21 none (fun K hK=>?_)
                      refine skip_ (w1:=?_) (by rfl) rfl ?_ ?_
                      rotate_left
                      ·go_simp
                       rfl
                      refine hK.out _ _ ?_
                      clear hK K
                      refine zdo ?_
                      try go_wp2
                      go_roundg k3
                      case measure=>have:=HK1.out;have:=HJ10.out;have:=HK3.out;omega
                      case rel=>exact ⟨(y201),(wrap64 (x9_3 + 1)),(wrap64 (x11_3 - 1)),zs_,zs_,H',⟨by have:=HK1.out;have:=HJ10.out;have:=HK3.out;omega⟩,⟨by (with_reducible repeat (first|apply zrA|apply zrN|apply zrD));exact HQ38.out⟩,⟨by repeat (first|(with_reducible first|exact HB.out|apply zlA|apply zlN|apply zlD|refine zlS ?_ GB35.out)|exact HB.out)⟩⟩
                     ·rw [if_neg c33] at H
                      exact absurd H (by simp)
                    ·rw [if_neg c30] at H
                     exact absurd H (by simp)
                   ·rw [if_neg c28] at H
                    exact absurd H (by simp)
                  ·rw [if_neg c27] at H
                   exact absurd H (by simp)
                 ·rw [if_neg c26] at H
                  exact absurd H (by simp)
                ·rw [if_neg c25] at H
                 exact absurd H (by simp)
               ·rw [if_neg c23] at H
                have c23b0:decide (0≤x11_3)=false:=decide_eq_false c23
                clear c23
                have H':=zm H
                clear H
                go_wp2
                go_roundg k3
                case measure=>have:=HK1.out;have:=HJ10.out;have:=HK3.out;omega
                case rel=>exact ⟨(x8_3),(x9_3),(wrap64 (x10_1 + 1)),zs_,zs_,H',⟨by have:=HK1.out;have:=HJ10.out;have:=HK3.out;omega⟩,⟨by (with_reducible repeat (first|apply zrA|apply zrN|apply zrD));exact HO_8.out⟩,⟨zb_⟩⟩
            ·rw [if_neg c22] at H
             exact absurd H (by simp)
           ·rw [if_neg c21] at H
            exact absurd H (by simp)
       ·rw [if_neg c10] at H
        have c10b0:decide (x10_1 < (l1.length:Int))=false:=decide_eq_false c10
        clear c10
        simp only [Option.some.injEq,Prod.mk.injEq] at H
        obtain ⟨rfl,rfl⟩:=H
        go_wp2
        go_ret2
        exact ⟨_,ze_,by (with_reducible repeat (first|apply zrA|apply zrN|apply zrD));exact HO_8.out,zb_⟩
    ·rw [if_neg c7] at H
     exact absurd H (by simp)
   ·rw [if_neg c6] at H
    exact absurd H (by simp)
  ·rw [if_neg c5] at H
   have c5b0:((l1.length:Int) == (l0.length:Int))=false:=beq_eq_false_iff_ne.mpr c5
   have c5b1:((l1.length:Int) != (l0.length:Int))=true:=bne_iff_ne.mpr c5
   have c5b2:(l1.length == l0.length)=false:=by first|simpa using c5|(simp at c5 ⊢;omega)
   simp only [Option.some.injEq,Prod.mk.injEq] at H
   obtain ⟨rfl,rfl⟩:=H
   go_enter Try.func55,Try.ntmps55
   go_wp2_with (first|((with_reducible refine gate_callee (f:=62) rfl ?_);refine goesL_ (some 14) rfl rfl Try.func62 (by kernel_rfl) rfl #[.slice A0 l0.length c0] rfl (by (try simp only [List.map_toArray,List.map_cons,List.map_nil]);first|done|rfl|(simp only [List.length_drop,List.length_take];rfl)) ?_;(with_reducible refine (slipwayref01_Width.calls k _ _ l0 t190 t191 _ ?side1 ?side2 A3.out).mono ?_);(case side1=>repeat (first|exact HR0.out|(with_reducible refine Kd.C_alloc ?_ _)|(with_reducible refine Kd.C_drewN ?_ _)|(with_reducible refine Kd.C_drew ?_)));(case side2=>exact HC0.out);rintro e w' ⟨rfl,⟨nd,rfl⟩⟩;refine ⟨_,rfl,?_⟩))
   go_ret2
   exact ⟨_,ze_,zr_,zb_⟩
 ·rw [if_neg c4] at H
  have c4b0:(t191 == 0)=false:=beq_eq_false_iff_ne.mpr c4
  have c4b1:(t191 != 0)=true:=bne_iff_ne.mpr c4
  simp only [Option.some.injEq,Prod.mk.injEq] at H
  obtain ⟨rfl,rfl⟩:=H
  go_enter Try.func55,Try.ntmps55
  go_wp2_with (first|((with_reducible refine gate_callee (f:=62) rfl ?_);refine goesL_ (some 14) rfl rfl Try.func62 (by kernel_rfl) rfl #[.slice A0 l0.length c0] rfl (by (try simp only [List.map_toArray,List.map_cons,List.map_nil]);first|done|rfl|(simp only [List.length_drop,List.length_take];rfl)) ?_;(with_reducible refine (slipwayref01_Width.calls k _ _ l0 t190 t191 _ ?side1 ?side2 A3.out).mono ?_);(case side1=>repeat (first|exact HR0.out|(with_reducible refine Kd.C_alloc ?_ _)|(with_reducible refine Kd.C_drewN ?_ _)|(with_reducible refine Kd.C_drew ?_)));(case side2=>exact HC0.out);rintro e w' ⟨rfl,⟨nd,rfl⟩⟩;refine ⟨_,rfl,?_⟩))
  go_ret2
  exact ⟨_,ze_,zr_,zb_⟩
end Go.Proofs.Ytdohpjjggjehfaa.Print
end
section
namespace Go.Proofs.Ytdohpjjggjehfaa.Print
open Go.RowKit Go.Proofs.YtdohpjjggjehfaaW.PrintWords Go.Proofs.YtdohpjjggjehfaaW.PrintLast Go.Proofs.YtdohpjjggjehfaaW.PrintMore
attribute [local go_sem] max2_int min2_int max_two min_two max_three min_three max_four min_four   -- for this text's walks alone
attribute [local go_sem ↓] Go.Proofs.Ytdohpjjggjehfaa.Sem.isSome_setCell
attribute [local go_sem] Go.Instr.field Go.asAgg
set_option linter.unusedVariables false
set_option linter.unusedSimpArgs false
def slipwayref03_header.l0:Nat → List Int → Option (List Int)
 | 0,_=>none
 | k + 1,x3=>if (x3.length:Int) < 28 then (if x3.length < 140737488355328 then (slipwayref03_header.l0 k (x3 ++ [0])) else (none)) else (some x3)
def slipwayref03_header.f (k:Nat) (a0_0:Int) (a0_1:Int) (a0_2:Int) (a0_3:Int):Option (List Int):=(slipwayref01_Pack.f k (([8,8,32,64,64]:List Int)) (([IntKind.u64.wrap (a0_0),0,IntKind.u64.wrap (a0_1),IntKind.u64.wrap (a0_2),IntKind.u64.wrap (a0_3)]:List Int))).bind fun bt209=>(slipwayref03_header.l0 k bt209.1)
set_option maxHeartbeats 8000000 in
set_option maxRecDepth 100000 in
theorem slipwayref03_header.calls (k:Nat) (a0_0:Int) (a0_1:Int) (a0_2:Int) (a0_3:Int) (r:List Int) (w:World) (h:slipwayref03_header.f k a0_0 a0_1 a0_2 a0_3=some r) :
  Calls Try.prog 34 #[.agg #[.int .i64 a0_0,.int .i64 a0_1,.int .i64 a0_2,.int .i64 a0_3]] w fun e w'=>∃ v0_:Value,e=.returned (v0_)∧Kd.R (Kd.int .u8) 5 w' w.heap.size (fun _=>True) v0_ r∧Below w.heap.size w w':=by
 have hu23:=Try.underlying23
 have HB:=zm (Below.refl w.heap.size w)
 have H:((slipwayref01_Pack.f k (([8,8,32,64,64]:List Int)) (([IntKind.u64.wrap (a0_0),0,IntKind.u64.wrap (a0_1),IntKind.u64.wrap (a0_2),IntKind.u64.wrap (a0_3)]:List Int))).bind fun bt209=>(slipwayref03_header.l0 k bt209.1))=some r:=h
 clear h
 obtain ⟨y203,hy203⟩:∃ y_:List Int,y_=(([8,8,32,64,64]:List Int)):=⟨_,rfl⟩
 replace H:((slipwayref01_Pack.f k y203 (([IntKind.u64.wrap (a0_0),0,IntKind.u64.wrap (a0_1),IntKind.u64.wrap (a0_2),IntKind.u64.wrap (a0_3)]:List Int))).bind fun bt209=>(slipwayref03_header.l0 k bt209.1))=some r:=by first|(rw [hy203];with_reducible exact H)|(have H2_:=(Option.bind_some _ _).symm.trans H;rw [hy203];with_reducible exact H2_)|(have H2_:=(Option.bind_some _ _).symm.trans H;with_reducible exact H2_)|with_reducible exact H|(rw [hy203];exact H)|exact H
 have Ny203:=zm hy203
 clear hy203
 obtain ⟨y206,hy206⟩:∃ y_:List Int,y_=(([IntKind.u64.wrap (a0_0),0,IntKind.u64.wrap (a0_1),IntKind.u64.wrap (a0_2),IntKind.u64.wrap (a0_3)]:List Int)):=⟨_,rfl⟩
 replace H:((slipwayref01_Pack.f k y203 y206).bind fun bt209=>(slipwayref03_header.l0 k bt209.1))=some r:=by first|(rw [hy206];with_reducible exact H)|(have H2_:=(Option.bind_some _ _).symm.trans H;rw [hy206];with_reducible exact H2_)|(have H2_:=(Option.bind_some _ _).symm.trans H;with_reducible exact H2_)|with_reducible exact H|(rw [hy206];exact H)|exact H
 have Ny206:=zm hy206
 clear hy206
 replace H:=Option.bind_eq_some_iff.mp H
 obtain ⟨⟨t209,t210⟩,A20,H⟩:=H
 replace H:(slipwayref03_header.l0 k t209)=some r:=H
 have A2:=zm A20
 clear A20
 have H':=zm H
 clear H
 go_enter Try.func34,Try.ntmps34
 go_wp2_with (first|((with_reducible refine gate_dst (N:=1) rfl ?_);refine zbx 1 #[.int .i64 a0_0,.int .i64 a0_1,.int .i64 a0_2,.int .i64 a0_3] 23 ?_;intro gb202 hg w3 hbox hb;have n0_:=zkH HB hb;have n1_:=zm (hbox);have n2_:=zkG HB hg;have n3_:=zkG HB hg;clear HB;have HB:=n0_;have BK202:=n1_;have GW202:=n2_;have GE202:=n3_;clear n0_ n1_ n2_ n3_;clear hb hbox hg)|((with_reducible refine gate_dst (N:=6) rfl ?_);refine Kd.R_lit (Kd.int .i64) _ 3 ?hg (N:=6) ?hd (xs:=([8,8,32,64,64]:List Int)) (inner:=[.int .i64 8,.int .i64 8,.int .i64 32,.int .i64 64,.int .i64 64]) (ok:=fun _=>True) (okp:=fun _=>True) ?hr ?hp (fun _ hk=>hk) trivial (Below.refl _ _) (Nat.le_refl _) (by simp) ?_;(case hd=>rfl);(case hg=>rfl);(case hr=>first|(go_simp;done)|(go_simp;rfl));(case hp=>exact (Reps.one (show Kd.M (Kd.int .i64) _ _ _ 8 [.int .i64 8] from rfl) (Reps.one (show Kd.M (Kd.int .i64) _ _ _ 8 [.int .i64 8] from rfl) (Reps.one (show Kd.M (Kd.int .i64) _ _ _ 32 [.int .i64 32] from rfl) (Reps.one (show Kd.M (Kd.int .i64) _ _ _ 64 [.int .i64 64] from rfl) (Reps.one (show Kd.M (Kd.int .i64) _ _ _ 64 [.int .i64 64] from rfl) (Reps.none _ _)))))));intro v204 w4 ho5 hb hg_ hnew_;clear hg_ hnew_;(first|rw [← Ny203.out] at ho5|(simp only [Int.reduceToNat] at ho5;rw [← Ny203.out] at ho5));have n0_:=zm (Kd.R_lower ho5 (below_size (zb_)));have n1_:=zkB BK202 hb;have n2_:=zkH HB hb;clear BK202 HB;have HO205:=n0_;have BK202:=n1_;have HB:=n2_;clear n0_ n1_ n2_;clear hb ho5;have hcz6_0:w4.cell? ⟨gb202,0,none⟩=some (.int .i64 a0_0):=(blk_cell BK202.out 0).trans rfl;have hcz6_1:w4.cell? ⟨gb202,1,none⟩=some (.int .i64 a0_1):=(blk_cell BK202.out 1).trans rfl;have hcz6_2:w4.cell? ⟨gb202,2,none⟩=some (.int .i64 a0_2):=(blk_cell BK202.out 2).trans rfl;have hcz6_3:w4.cell? ⟨gb202,3,none⟩=some (.int .i64 a0_3):=(blk_cell BK202.out 3).trans rfl;have hfz6_0:=blk_frozen BK202.out 0;have hfz6_1:=blk_frozen BK202.out 1;have hfz6_2:=blk_frozen BK202.out 2;have hfz6_3:=blk_frozen BK202.out 3)|((with_reducible refine gate_dst (N:=19) rfl ?_);refine Kd.R_lit (Kd.int .u64) _ 58 ?hg (N:=19) ?hd (xs:=([IntKind.u64.wrap (a0_0),0,IntKind.u64.wrap (a0_1),IntKind.u64.wrap (a0_2),IntKind.u64.wrap (a0_3)]:List Int)) (inner:=[.int .u64 (IntKind.u64.wrap (a0_0)),.int .u64 0,.int .u64 (IntKind.u64.wrap (a0_1)),.int .u64 (IntKind.u64.wrap (a0_2)),.int .u64 (IntKind.u64.wrap (a0_3))]) (ok:=fun _=>True) (okp:=fun _=>True) ?hr ?hp (fun _ hk=>hk) trivial (Below.refl _ _) (Nat.le_refl _) (by simp) ?_;(case hd=>rfl);(case hg=>rfl);(case hr=>first|(go_simp;done)|(go_simp;rfl));(case hp=>exact (Reps.one (show Kd.M (Kd.int .u64) _ _ _ (IntKind.u64.wrap (a0_0)) [.int .u64 (IntKind.u64.wrap (a0_0))] from rfl) (Reps.one (show Kd.M (Kd.int .u64) _ _ _ 0 [.int .u64 0] from rfl) (Reps.one (show Kd.M (Kd.int .u64) _ _ _ (IntKind.u64.wrap (a0_1)) [.int .u64 (IntKind.u64.wrap (a0_1))] from rfl) (Reps.one (show Kd.M (Kd.int .u64) _ _ _ (IntKind.u64.wrap (a0_2)) [.int .u64 (IntKind.u64.wrap (a0_2))] from rfl) (Reps.one (show Kd.M (Kd.int .u64) _ _ _ (IntKind.u64.wrap (a0_3)) [.int .u64 (IntKind.u64.wrap (a0_3))] from rfl) (Reps.none _ _)))))));intro v207 w7 ho8 hb hg_ hnew_;clear hg_ hnew_;(first|rw [← Ny206.out] at ho8|(simp only [Int.reduceToNat] at ho8;rw [← Ny206.out] at ho8));have n0_:=zm (Kd.R_below (by (with_reducible repeat (first|apply zrA|apply zrN|apply zrD));exact HO205.out) hb);have n1_:=zm (Kd.R_lower ho8 (below_size (zb_)));have n2_:=zkB BK202 hb;have n3_:=zkH HB hb;clear HO205 BK202 HB;have HO205:=n0_;have HO208:=n1_;have BK202:=n2_;have HB:=n3_;clear n0_ n1_ n2_ n3_;clear hb ho8;obtain ⟨Ao9,co9,eo9⟩:=Kd.R_slice HO205.out;subst eo9;obtain ⟨Ao10,co10,eo10⟩:=Kd.R_slice HO208.out;subst eo10)|((with_reducible refine gate_callee (f:=55) rfl ?_);refine goesL_ (some 20) rfl rfl Try.func55 (by kernel_rfl) rfl #[.slice Ao9 y203.length co9,.slice Ao10 y206.length co10] rfl (by (try simp only [List.map_toArray,List.map_cons,List.map_nil]);first|done|rfl|(simp only [List.length_drop,List.length_take];rfl)) ?_;(with_reducible refine (slipwayref01_Pack.calls k _ _ y203 _ _ y206 t209 t210 _ ?side1 ?side2 ?side3 ?side4 A2.out).mono ?_);(case side1=>repeat (first|exact (Kd.R_reads' HO205.out).2.2|(with_reducible refine Kd.C_alloc ?_ _)|(with_reducible refine Kd.C_drewN ?_ _)|(with_reducible refine Kd.C_drew ?_)));(case side2=>exact (Kd.R_reads' HO205.out).2.1);(case side3=>repeat (first|exact (Kd.R_reads' HO208.out).2.2|(with_reducible refine Kd.C_alloc ?_ _)|(with_reducible refine Kd.C_drewN ?_ _)|(with_reducible refine Kd.C_drew ?_)));(case side4=>exact (Kd.R_reads' HO208.out).2.1);rintro e w11 ⟨v211,rfl,ho0,hb⟩;refine ⟨_,rfl,?_⟩;have n0_:=zm (Kd.R_below (by (with_reducible repeat (first|apply zrA|apply zrN|apply zrD));exact HO205.out) hb);have n1_:=zm (Kd.R_below (by (with_reducible repeat (first|apply zrA|apply zrN|apply zrD));exact HO208.out) hb);have n2_:=zm (Kd.R_lower ho0 (below_size (zb_)));have n3_:=zkB BK202 hb;have n4_:=zkH HB hb;clear HO205 HO208 BK202 HB;have HO205:=n0_;have HO208:=n1_;have HO212:=n2_;have BK202:=n3_;have HB:=n4_;clear n0_ n1_ n2_ n3_ n4_;(try clear hb);(try clear hb2);(try clear hk);(try clear hi);(try clear ho0)))
 go_loopg [3] k (fun kq v3 w'=>∃ (x3_1:List Int),Aside0 (slipwayref03_header.l0 kq x3_1=some r)∧Aside0 (kq≤k)∧Aside0 (Kd.R (Kd.int .u8) 5 w' w.heap.size (fun _=>True) v3 x3_1)∧Aside0 (w'.heap[gb202]?=some (.cells #[.int .i64 a0_0,.int .i64 a0_1,.int .i64 a0_2,.int .i64 a0_3] 23 (0,0)))∧Aside0 (Below w.heap.size w w'))
 case atStart=>exact ⟨(t209),H',⟨Nat.le_refl _⟩,⟨by (with_reducible repeat (first|apply zrA|apply zrN|apply zrD));exact HO212.out⟩,⟨zx_⟩,⟨zb_⟩⟩
 case round =>
  clear H'
  try clear p2
  try clear c3
  try clear c5
  try clear hcz6_0
  try clear hcz6_1
  try clear hcz6_2
  try clear hcz6_3
  try clear hfz6_0
  try clear hfz6_1
  try clear hfz6_2
  try clear hfz6_3
  obtain ⟨x3_1,HA,HK1,HO_3,BK202,HB⟩:=hrel
  cases gk with
  | zero=>exact absurd HA.out (by simp [slipwayref03_header.l0])
  | succ k1 =>
   have H:=HA.out
   clear HA
   simp only [slipwayref03_header.l0] at H
   by_cases c12:(x3_1.length:Int) < 28
   ·rw [if_pos c12] at H
    have c12b0:decide ((x3_1.length:Int) < 28)=true:=decide_eq_true c12
    have c12b1:decide (x3_1.length < 28)=true:=decide_eq_true (by omega)
    clear c12
    by_cases c13:x3_1.length < 140737488355328
    ·rw [if_pos c13] at H
     have LMc13:=zm c13
     clear c13
     obtain ⟨y213,hy213⟩:∃ y_:List Int,y_=(x3_1 ++ [0]):=⟨_,rfl⟩
     replace H:(slipwayref03_header.l0 k1 y213)=some r:=by first|(rw [hy213];with_reducible exact H)|(have H2_:=(Option.bind_some _ _).symm.trans H;rw [hy213];with_reducible exact H2_)|(have H2_:=(Option.bind_some _ _).symm.trans H;with_reducible exact H2_)|with_reducible exact H|(rw [hy213];exact H)|exact H
     have Ny213:=zm hy213
     clear hy213
     have H':=zm H
     clear H
     obtain ⟨Ao14,co14,eo14⟩:=Kd.R_slice HO_3.out
     subst eo14
     go_wp2_with (first|((with_reducible refine gate_builtin (b:=.append) (xs:=#[.tmp 26,.tmp 27]) rfl ?_);at_builtin;refine Kd.R_append (Kd.int .u8) (w0:=w) w.heap.size rfl (.tmp 26) (.tmp 27) 24 5 (.int .u8 0) 1 rfl Try.underlying24 info5 rfl (by decide) (by omega) (.slice Ao14 x3_1.length co14) x3_1 0 [.int .u8 0] (fun _=>True) (fun _=>False) rfl rfl ?aP (fun _ hk=>hk.elim) ?aF ?aO ?aB ?aS ?aL ?_;(case aP=>exact rfl);(case aB=>exact (zb_));(case aF=>exact (fun _ _=>trivial));(case aO=>exact (by (with_reducible repeat (first|apply zrA|apply zrN|apply zrD));exact HO_3.out));(case aS=>exact (below_size (zb_)));(case aL=>have:=LMc13.out;omega);intro v214 w15 ho hb hg hat;rw [← Ny213.out] at ho;have n0_:=zm (blk_grown (g:=gb202) (o:=.cells #[.int .i64 a0_0,.int .i64 a0_1,.int .i64 a0_2,.int .i64 a0_3] 23 (0,0)) zx_ hg (Kd.R_ne HO_3.out BK202.out (by decide)));have n1_:=zm (hb);have n2_:=zm (ho);clear BK202 HB HO_3;have BK202:=n0_;have HB:=n1_;have HO215:=n2_;clear n0_ n1_ n2_;clear ho hb hg hat))
     go_roundg k1
     case measure=>have:=HK1.out;omega
     case rel=>exact ⟨(y213),H',⟨by have:=HK1.out;omega⟩,⟨by (with_reducible repeat (first|apply zrA|apply zrN|apply zrD));exact HO215.out⟩,⟨zx_⟩,⟨zb_⟩⟩
    ·rw [if_neg c13] at H
     exact absurd H (by simp)
   ·rw [if_neg c12] at H
    have c12b0:decide ((x3_1.length:Int) < 28)=false:=decide_eq_false c12
    have c12b1:decide (x3_1.length < 28)=false:=decide_eq_false (by omega)
    clear c12
    obtain rfl:=Option.some.inj H
    obtain ⟨Ao16,co16,eo16⟩:=Kd.R_slice HO_3.out
    subst eo16
    go_wp2
    go_ret
    exact ⟨_,ze_,by (with_reducible repeat (first|apply zrA|apply zrN|apply zrD));exact HO_3.out,zb_⟩
end Go.Proofs.Ytdohpjjggjehfaa.Print
end
section
namespace Go.Proofs.Ytdohpjjggjehfaa.Print
open Go.RowKit Go.Proofs.YtdohpjjggjehfaaW.PrintWords Go.Proofs.YtdohpjjggjehfaaW.PrintLast Go.Proofs.YtdohpjjggjehfaaW.PrintMore
attribute [local go_sem] max2_int min2_int max_two min_two max_three min_three max_four min_four   -- for this text's walks alone
attribute [local go_sem ↓] Go.Proofs.Ytdohpjjggjehfaa.Sem.isSome_setCell
attribute [local go_sem] Go.Instr.field Go.asAgg
set_option linter.unusedVariables false
set_option linter.unusedSimpArgs false
def slipwayref01_ones.l0:Nat → List Int → Int → Option (Bool)
 | 0,_,_=>none
 | k + 1,x0,x3=>if x3 < (x0.length:Int) then (if 0≤x3 then (if (rd x0 x3)=255 then (slipwayref01_ones.l0 k x0 (wrap64 (x3 + 1))) else (some false)) else (none)) else (some true)
def slipwayref01_ones.f (k:Nat) (l0:List Int):Option (Bool):=slipwayref01_ones.l0 k l0 0
set_option maxHeartbeats 8000000 in
set_option maxRecDepth 100000 in
theorem slipwayref01_ones.calls (k:Nat) (A0:Option Addr) (c0:Nat) (l0:List Int) (r:Bool) (w:World) (hr0:Kd.C (Kd.int .u8) w A0 l0.length l0) (hc0:l0.length≤c0) (h:slipwayref01_ones.f k l0=some r) :
  Calls Try.prog 65 #[.slice A0 l0.length c0] w fun e w'=>e=.returned (.bool r)∧Drawn0 w w':=by
 have HR0:=zm hr0
 have HC0:=zm hc0
 clear hr0 hc0
 have H:(slipwayref01_ones.l0 k l0 0)=some r:=h
 clear h
 have H':=zm H
 clear H
 go_enter Try.func65,Try.ntmps65
 go_wp2
 go_loopg [3] k (fun kq v3 w'=>∃ (x3_1:Int),v3=.int .i64 x3_1∧Aside0 (slipwayref01_ones.l0 kq l0 x3_1=some r)∧Aside0 (kq≤k)∧Drawn0 w w')
 case atStart=>exact ⟨(0),zs_,H',⟨Nat.le_refl _⟩,by repeat (first|exact Drawn0.refl _|apply Drawn0.step)⟩
 case round =>
  clear H'
  obtain ⟨x3_1,rfl,HA,HK1,⟨m1,rfl⟩⟩:=hrel
  cases gk with
  | zero=>exact absurd HA.out (by simp [slipwayref01_ones.l0])
  | succ k1 =>
   have H:=HA.out
   clear HA
   simp only [slipwayref01_ones.l0] at H
   by_cases c2:x3_1 < (l0.length:Int)
   ·rw [if_pos c2] at H
    have c2b0:decide (x3_1 < (l0.length:Int))=true:=decide_eq_true c2
    clear c2
    by_cases c3:0≤x3_1
    ·rw [if_pos c3] at H
     have c3b0:decide (0≤x3_1)=true:=decide_eq_true c3
     clear c3
     by_cases c4:(rd l0 x3_1)=255
     ·rw [if_pos c4] at H
      have c4b0:((rd l0 x3_1) == 255)=true:=beq_iff_eq.mpr c4
      have c4b1:((rd l0 x3_1) != 255)=false:=bne_eq_false_iff_eq.mpr c4
      clear c4
      have H':=zm H
      clear H
      have p238:0≤(x3_1:Int):=za_
      have q238:x3_1 < (l0.length:Int):=za_
      obtain ⟨ad238,e238,hx238_0⟩:=Kd.at_int HR0.out x3_1 p238 q238
      cases e238
      replace p238:=eq_true p238
      replace q238:=eq_true q238
      go_wp2
      go_roundg k1
      case measure=>have:=HK1.out;omega
      case rel=>exact ⟨(wrap64 (x3_1 + 1)),zs_,H',⟨by have:=HK1.out;omega⟩,by repeat (first|exact Drawn0.refl _|apply Drawn0.step)⟩
     ·rw [if_neg c4] at H
      have c4b0:((rd l0 x3_1) == 255)=false:=beq_eq_false_iff_ne.mpr c4
      have c4b1:((rd l0 x3_1) != 255)=true:=bne_iff_ne.mpr c4
      obtain rfl:=Option.some.inj H
      have p238:0≤(x3_1:Int):=za_
      have q238:x3_1 < (l0.length:Int):=za_
      obtain ⟨ad238,e238,hx238_0⟩:=Kd.at_int HR0.out x3_1 p238 q238
      cases e238
      replace p238:=eq_true p238
      replace q238:=eq_true q238
      go_wp2
      go_ret
      exact ⟨by first|rfl|(simp;done)|(simp [*];done),by repeat (first|exact Drawn0.refl _|apply Drawn0.step)⟩
    ·rw [if_neg c3] at H
     exact absurd H (by simp)
   ·rw [if_neg c2] at H
    have c2b0:decide (x3_1 < (l0.length:Int))=false:=decide_eq_false c2
    clear c2
    obtain rfl:=Option.some.inj H
    go_wp2
    go_ret
    exact ⟨by first|rfl|(simp;done)|(simp [*];done),by repeat (first|exact Drawn0.refl _|apply Drawn0.step)⟩
end Go.Proofs.Ytdohpjjggjehfaa.Print
end
section
namespace Go.Proofs.Ytdohpjjggjehfaa.Print
open Go.RowKit Go.Proofs.YtdohpjjggjehfaaW.PrintWords Go.Proofs.YtdohpjjggjehfaaW.PrintLast Go.Proofs.YtdohpjjggjehfaaW.PrintMore
attribute [local go_sem] max2_int min2_int max_two min_two max_three min_three max_four min_four   -- for this text's walks alone
attribute [local go_sem ↓] Go.Proofs.Ytdohpjjggjehfaa.Sem.isSome_setCell
attribute [local go_sem] Go.Instr.field Go.asAgg
set_option linter.unusedVariables false
set_option linter.unusedSimpArgs false
mutual
def slipwayref01_State.j0:Nat → List Int → Bool → Option (Int)
 | 0,_,_=>none
 | k + 1,x0,x11=>if x11=true then (some 10) else (if (x0.length:Int) < 4 then (slipwayref01_State.j1 k x0 true) else (slipwayref01_State.j1 k x0 (decide ((x0.length:Int) > 1048580))))
def slipwayref01_State.j1:Nat → List Int → Bool → Option (Int)
 | 0,_,_=>none
 | k + 1,x0,x19=>if x19=true then (some 11) else (if 0≤(wrap64 ((x0.length:Int) - 4)) then (if (wrap64 ((x0.length:Int) - 4)) < (x0.length:Int) then (if 0≤(wrap64 ((wrap64 ((x0.length:Int) - 4)) + 1)) then (if (wrap64 ((wrap64 ((x0.length:Int) - 4)) + 1)) < (x0.length:Int) then (if 0≤(wrap64 ((wrap64 ((x0.length:Int) - 4)) + 2)) then (if (wrap64 ((wrap64 ((x0.length:Int) - 4)) + 2)) < (x0.length:Int) then (if 0≤(wrap64 ((wrap64 ((x0.length:Int) - 4)) + 3)) then (if (wrap64 ((wrap64 ((x0.length:Int) - 4)) + 3)) < (x0.length:Int) then (if (wrap64 ((x0.length:Int) - 4))≤(x0.length:Int) then ((slipwayref01_Zeros.f k (x0.take ((wrap64 ((x0.length:Int) - 4)):Int).toNat)).bind fun t245=>(if (Go.bits .or .i64 (Go.bits .or .i64 (Go.bits .or .i64 (wrap64 ((wrap64 (rd x0 (wrap64 ((x0.length:Int) - 4)))) * 16777216)) (wrap64 ((wrap64 (rd x0 (wrap64 ((wrap64 ((x0.length:Int) - 4)) + 1)))) * 65536))) (wrap64 ((wrap64 (rd x0 (wrap64 ((wrap64 ((x0.length:Int) - 4)) + 2)))) * 256))) (wrap64 (rd x0 (wrap64 ((wrap64 ((x0.length:Int) - 4)) + 3)))))=t245 then (some 0) else (some 11))) else (none)) else (none)) else (none)) else (none)) else (none)) else (none)) else (none)) else (none)) else (none))
end
def slipwayref01_State.f (k:Nat) (l0:List Int):Option (Int):=if (l0.length:Int) > 0 then ((slipwayref01_ones.f k l0).bind fun t239=>(slipwayref01_State.j0 k l0 t239)) else (slipwayref01_State.j0 k l0 false)
set_option maxHeartbeats 8000000 in
set_option maxRecDepth 100000 in
theorem slipwayref01_State.calls (k:Nat) (A0:Option Addr) (c0:Nat) (l0:List Int) (r:Int) (w:World) (hr0:Kd.C (Kd.int .u8) w A0 l0.length l0) (hc0:l0.length≤c0) (h:slipwayref01_State.f k l0=some r) :
  Calls Try.prog 61 #[.slice A0 l0.length c0] w fun e w'=>e=.returned (.int .i64 r)∧Drawn0 w w':=by
 have HR0:=zm hr0
 have HC0:=zm hc0
 clear hr0 hc0
 have H:(if (l0.length:Int) > 0 then ((slipwayref01_ones.f k l0).bind fun t239=>(slipwayref01_State.j0 k l0 t239)) else (slipwayref01_State.j0 k l0 false))=some r:=h
 clear h
 have HC2:=zm H
 clear H
 go_enter Try.func61,Try.ntmps61
 go_upto_region 1 with (fail)
 repeat (go_quiet (fail);go_upto_region 1 with (fail))
 go_cut [11] (fun v11 wc=>∃ (kq:Nat) (x11_1:Bool),v11=.bool x11_1∧Aside0 (slipwayref01_State.j0 kq l0 x11_1=some r)∧Aside0 (kq≤k)∧Drawn0 w wc)
 case first =>
  have H:=HC2.out
  clear HC2
  by_cases c3:(l0.length:Int) > 0
  ·rw [if_pos c3] at H
   have c3b0:decide (0 < (l0.length:Int))=true:=decide_eq_true c3
   have c3b1:decide (0 < l0.length)=true:=decide_eq_true (by omega)
   clear c3
   (first|rw [c3b0]|(simp only [i64_w,i32_w];rw [c3b0])|skip)
   replace H:=Option.bind_eq_some_iff.mp H
   obtain ⟨t239,A40,H⟩:=H
   replace H:(slipwayref01_State.j0 k l0 t239)=some r:=H
   have A4:=zm A40
   clear A40
   have H':=zm H
   clear H
   go_wp2_with (first|(go_at_call 65;(with_reducible refine (slipwayref01_ones.calls k _ _ l0 t239 _ ?side1 ?side2 A4.out).mono ?_);(case side1=>repeat (first|exact HR0.out|(with_reducible refine Kd.C_alloc ?_ _)|(with_reducible refine Kd.C_drewN ?_ _)|(with_reducible refine Kd.C_drew ?_)));(case side2=>exact HC0.out);rintro e w' ⟨rfl,⟨nd,rfl⟩⟩;(try first|exact ⟨rfl,_,World.drewN_drewN _ _ _⟩|exact ⟨rfl,_,Eq.trans (World.drewN_drewN _ _ _) (congrArg (World.drewN _) (Nat.add_assoc _ _ _))⟩)))
   repeat (go_quiet (first|(go_at_call 65;(with_reducible refine (slipwayref01_ones.calls k _ _ l0 t239 _ ?side1 ?side2 A4.out).mono ?_);(case side1=>repeat (first|exact HR0.out|(with_reducible refine Kd.C_alloc ?_ _)|(with_reducible refine Kd.C_drewN ?_ _)|(with_reducible refine Kd.C_drew ?_)));(case side2=>exact HC0.out);rintro e w' ⟨rfl,⟨nd,rfl⟩⟩;(try first|exact ⟨rfl,_,World.drewN_drewN _ _ _⟩|exact ⟨rfl,_,Eq.trans (World.drewN_drewN _ _ _) (congrArg (World.drewN _) (Nat.add_assoc _ _ _))⟩)));try go_wp2_with (first|(go_at_call 65;(with_reducible refine (slipwayref01_ones.calls k _ _ l0 t239 _ ?side1 ?side2 A4.out).mono ?_);(case side1=>repeat (first|exact HR0.out|(with_reducible refine Kd.C_alloc ?_ _)|(with_reducible refine Kd.C_drewN ?_ _)|(with_reducible refine Kd.C_drew ?_)));(case side2=>exact HC0.out);rintro e w' ⟨rfl,⟨nd,rfl⟩⟩;(try first|exact ⟨rfl,_,World.drewN_drewN _ _ _⟩|exact ⟨rfl,_,Eq.trans (World.drewN_drewN _ _ _) (congrArg (World.drewN _) (Nat.add_assoc _ _ _))⟩))))
   go_meet
   case rel=>exact ⟨_,(t239),zs_,H',⟨by first|omega|exact Nat.le_refl _⟩,by repeat (first|exact Drawn0.refl _|apply Drawn0.step)⟩
  ·rw [if_neg c3] at H
   have c3b0:decide (0 < (l0.length:Int))=false:=decide_eq_false c3
   have c3b1:decide (0 < l0.length)=false:=decide_eq_false (by omega)
   clear c3
   (first|rw [c3b0]|(simp only [i64_w,i32_w];rw [c3b0])|skip)
   have H':=zm H
   clear H
   go_wp2
   repeat (go_quiet (fail);try go_wp2)
   go_meet
   case rel=>exact ⟨_,(false),zs_,H',⟨by first|omega|exact Nat.le_refl _⟩,by repeat (first|exact Drawn0.refl _|apply Drawn0.step)⟩
 case rest =>
  clear HC2
  try clear p2
  try clear c3
  try clear c3b0
  try clear c3b1
  obtain ⟨kq,x11_1,rfl,HA,HJ1,⟨mc1,rfl⟩⟩:=hcut
  cases kq with
  | zero=>exact absurd HA.out (by simp [slipwayref01_State.j0])
  | succ kj1 =>
   have H:=HA.out
   clear HA
   simp only [slipwayref01_State.j0] at H
   by_cases c5:x11_1=true
   ·subst c5
    have H1:(some 10)=some r:=by rw [if_pos rfl] at H;exact H
    clear H
    have H:=H1
    clear H1
    obtain rfl:=Option.some.inj H
    go_wp2
    repeat (go_quiet (fail);try go_wp2)
    go_ret
    exact ⟨by first|rfl|(simp;done)|(simp [*];done),by repeat (first|exact Drawn0.refl _|apply Drawn0.step)⟩
   ·replace c5:=Bool.eq_false_iff.mpr c5
    subst c5
    have H1:(if (l0.length:Int) < 4 then (slipwayref01_State.j1 kj1 l0 true) else (slipwayref01_State.j1 kj1 l0 (decide ((l0.length:Int) > 1048580))))=some r:=by rw [if_neg (show ¬ (false=true) by decide)] at H;exact H
    clear H
    have H:=H1
    clear H1
    have HC6:=zm H
    clear H
    go_upto_region 3 with (fail)
    repeat (go_quiet (fail);go_upto_region 3 with (fail))
    go_cut [19] (fun v19 wc=>∃ (kq:Nat) (x19_5:Bool),v19=.bool x19_5∧Aside0 (slipwayref01_State.j1 kq l0 x19_5=some r)∧Aside0 (kq≤kj1)∧Drawn0 w wc)
    case first =>
     have H:=HC6.out
     clear HC6
     by_cases c7:(l0.length:Int) < 4
     ·rw [if_pos c7] at H
      have c7b0:decide ((l0.length:Int) < 4)=true:=decide_eq_true c7
      have c7b1:decide (l0.length < 4)=true:=decide_eq_true (by omega)
      clear c7
      (first|rw [c7b0]|(simp only [i64_w,i32_w];rw [c7b0])|skip)
      have H':=zm H
      clear H
      go_wp2
      repeat (go_quiet (fail);try go_wp2)
      go_meet
      case rel=>exact ⟨_,(true),zs_,H',⟨by have:=HJ1.out;first|omega|exact Nat.le_refl _⟩,by repeat (first|exact Drawn0.refl _|apply Drawn0.step)⟩
     ·rw [if_neg c7] at H
      have c7b0:decide ((l0.length:Int) < 4)=false:=decide_eq_false c7
      have c7b1:decide (l0.length < 4)=false:=decide_eq_false (by omega)
      clear c7
      (first|rw [c7b0]|(simp only [i64_w,i32_w];rw [c7b0])|skip)
      have H':=zm H
      clear H
      go_wp2
      repeat (go_quiet (fail);try go_wp2)
      go_meet
      case rel=>exact ⟨_,(decide ((l0.length:Int) > 1048580)),zs_,H',⟨by have:=HJ1.out;first|omega|exact Nat.le_refl _⟩,by repeat (first|exact Drawn0.refl _|apply Drawn0.step)⟩
    case rest =>
     clear HC6
     try clear c1
     try clear p2
     try clear c3
     try clear c3b0
     try clear c3b1
     try clear c5
     try clear c6
     try clear c7
     try clear c7b0
     try clear c7b1
     try clear p2
     obtain ⟨kq,x19_5,rfl,HA,HJ5,⟨mc5,rfl⟩⟩:=hcut
     cases kq with
     | zero=>exact absurd HA.out (by simp [slipwayref01_State.j1])
     | succ kj5 =>
      have H:=HA.out
      clear HA
      simp only [slipwayref01_State.j1] at H
      by_cases c8:x19_5=true
      ·subst c8
       have H1:(some 11)=some r:=by rw [if_pos rfl] at H;exact H
       clear H
       have H:=H1
       clear H1
       obtain rfl:=Option.some.inj H
       go_wp2
       repeat (go_quiet (fail);try go_wp2)
       go_ret
       exact ⟨by first|rfl|(simp;done)|(simp [*];done),by repeat (first|exact Drawn0.refl _|apply Drawn0.step)⟩
      ·replace c8:=Bool.eq_false_iff.mpr c8
       subst c8
       have H1:(if 0≤(wrap64 ((l0.length:Int) - 4)) then (if (wrap64 ((l0.length:Int) - 4)) < (l0.length:Int) then (if 0≤(wrap64 ((wrap64 ((l0.length:Int) - 4)) + 1)) then (if (wrap64 ((wrap64 ((l0.length:Int) - 4)) + 1)) < (l0.length:Int) then (if 0≤(wrap64 ((wrap64 ((l0.length:Int) - 4)) + 2)) then (if (wrap64 ((wrap64 ((l0.length:Int) - 4)) + 2)) < (l0.length:Int) then (if 0≤(wrap64 ((wrap64 ((l0.length:Int) - 4)) + 3)) then (if (wrap64 ((wrap64 ((l0.length:Int) - 4)) + 3)) < (l0.length:Int) then (if (wrap64 ((l0.length:Int) - 4))≤(l0.length:Int) then ((slipwayref01_Zeros.f kj5 (l0.take ((wrap64 ((l0.length:Int) - 4)):Int).toNat)).bind fun t245=>(if (Go.bits .or .i64 (Go.bits .or .i64 (Go.bits .or .i64 (wrap64 ((wrap64 (rd l0 (wrap64 ((l0.length:Int) - 4)))) * 16777216)) (wrap64 ((wrap64 (rd l0 (wrap64 ((wrap64 ((l0.length:Int) - 4)) + 1)))) * 65536))) (wrap64 ((wrap64 (rd l0 (wrap64 ((wrap64 ((l0.length:Int) - 4)) + 2)))) * 256))) (wrap64 (rd l0 (wrap64 ((wrap64 ((l0.length:Int) - 4)) + 3)))))=t245 then (some 0) else (some 11))) else (none)) else (none)) else (none)) else (none)) else (none)) else (none)) else (none)) else (none)) else (none))=some r:=by rw [if_neg (show ¬ (false=true) by decide)] at H;exact H
       clear H
       have H:=H1
       clear H1
       obtain ⟨ji9,hji9⟩:∃ j_:Int,(wrap64 ((l0.length:Int) - 4))=j_:=⟨_,rfl⟩
       replace H:(if 0≤(ji9) then (if (ji9) < (l0.length:Int) then (if 0≤(wrap64 ((ji9) + 1)) then (if (wrap64 ((ji9) + 1)) < (l0.length:Int) then (if 0≤(wrap64 ((ji9) + 2)) then (if (wrap64 ((ji9) + 2)) < (l0.length:Int) then (if 0≤(wrap64 ((ji9) + 3)) then (if (wrap64 ((ji9) + 3)) < (l0.length:Int) then (if (ji9)≤(l0.length:Int) then ((slipwayref01_Zeros.f kj5 (l0.take ((ji9):Int).toNat)).bind fun t245=>(if (Go.bits .or .i64 (Go.bits .or .i64 (Go.bits .or .i64 (wrap64 ((wrap64 (rd l0 (ji9))) * 16777216)) (wrap64 ((wrap64 (rd l0 (wrap64 ((ji9) + 1)))) * 65536))) (wrap64 ((wrap64 (rd l0 (wrap64 ((ji9) + 2)))) * 256))) (wrap64 (rd l0 (wrap64 ((ji9) + 3)))))=t245 then (some 0) else (some 11))) else (none)) else (none)) else (none)) else (none)) else (none)) else (none)) else (none)) else (none)) else (none))=some r:=by first|(rw [hji9] at H;exact H)|(simp only [hji9] at H ⊢;exact H)
       have hji9w:(IntKind.i64.wrap ((l0.length:Int) - 4))=ji9:=(i64_w _).trans hji9
       by_cases c10:0≤(ji9)
       ·rw [if_pos c10] at H
        have c10b0:decide (0≤(ji9))=true:=decide_eq_true c10
        clear c10
        by_cases c11:(ji9) < (l0.length:Int)
        ·rw [if_pos c11] at H
         have c11b0:decide ((ji9) < (l0.length:Int))=true:=decide_eq_true c11
         clear c11
         obtain ⟨ji12,hji12⟩:∃ j_:Int,(wrap64 ((ji9) + 1))=j_:=⟨_,rfl⟩
         replace H:(if 0≤(ji12) then (if (ji12) < (l0.length:Int) then (if 0≤(wrap64 ((ji9) + 2)) then (if (wrap64 ((ji9) + 2)) < (l0.length:Int) then (if 0≤(wrap64 ((ji9) + 3)) then (if (wrap64 ((ji9) + 3)) < (l0.length:Int) then (if (ji9)≤(l0.length:Int) then ((slipwayref01_Zeros.f kj5 (l0.take ((ji9):Int).toNat)).bind fun t245=>(if (Go.bits .or .i64 (Go.bits .or .i64 (Go.bits .or .i64 (wrap64 ((wrap64 (rd l0 (ji9))) * 16777216)) (wrap64 ((wrap64 (rd l0 (ji12))) * 65536))) (wrap64 ((wrap64 (rd l0 (wrap64 ((ji9) + 2)))) * 256))) (wrap64 (rd l0 (wrap64 ((ji9) + 3)))))=t245 then (some 0) else (some 11))) else (none)) else (none)) else (none)) else (none)) else (none)) else (none)) else (none))=some r:=by first|(rw [hji12] at H;exact H)|(simp only [hji12] at H ⊢;exact H)
         have hji12w:(IntKind.i64.wrap ((ji9) + 1))=ji12:=(i64_w _).trans hji12
         by_cases c13:0≤(ji12)
         ·rw [if_pos c13] at H
          have c13b0:decide (0≤(ji12))=true:=decide_eq_true c13
          clear c13
          by_cases c14:(ji12) < (l0.length:Int)
          ·rw [if_pos c14] at H
           have c14b0:decide ((ji12) < (l0.length:Int))=true:=decide_eq_true c14
           clear c14
           obtain ⟨ji15,hji15⟩:∃ j_:Int,(wrap64 ((ji9) + 2))=j_:=⟨_,rfl⟩
           replace H:(if 0≤(ji15) then (if (ji15) < (l0.length:Int) then (if 0≤(wrap64 ((ji9) + 3)) then (if (wrap64 ((ji9) + 3)) < (l0.length:Int) then (if (ji9)≤(l0.length:Int) then ((slipwayref01_Zeros.f kj5 (l0.take ((ji9):Int).toNat)).bind fun t245=>(if (Go.bits .or .i64 (Go.bits .or .i64 (Go.bits .or .i64 (wrap64 ((wrap64 (rd l0 (ji9))) * 16777216)) (wrap64 ((wrap64 (rd l0 (ji12))) * 65536))) (wrap64 ((wrap64 (rd l0 (ji15))) * 256))) (wrap64 (rd l0 (wrap64 ((ji9) + 3)))))=t245 then (some 0) else (some 11))) else (none)) else (none)) else (none)) else (none)) else (none))=some r:=by first|(rw [hji15] at H;exact H)|(simp only [hji15] at H ⊢;exact H)
           have hji15w:(IntKind.i64.wrap ((ji9) + 2))=ji15:=(i64_w _).trans hji15
           by_cases c16:0≤(ji15)
           ·rw [if_pos c16] at H
            have c16b0:decide (0≤(ji15))=true:=decide_eq_true c16
            clear c16
            by_cases c17:(ji15) < (l0.length:Int)
            ·rw [if_pos c17] at H
             have c17b0:decide ((ji15) < (l0.length:Int))=true:=decide_eq_true c17
             clear c17
             obtain ⟨ji18,hji18⟩:∃ j_:Int,(wrap64 ((ji9) + 3))=j_:=⟨_,rfl⟩
             replace H:(if 0≤(ji18) then (if (ji18) < (l0.length:Int) then (if (ji9)≤(l0.length:Int) then ((slipwayref01_Zeros.f kj5 (l0.take ((ji9):Int).toNat)).bind fun t245=>(if (Go.bits .or .i64 (Go.bits .or .i64 (Go.bits .or .i64 (wrap64 ((wrap64 (rd l0 (ji9))) * 16777216)) (wrap64 ((wrap64 (rd l0 (ji12))) * 65536))) (wrap64 ((wrap64 (rd l0 (ji15))) * 256))) (wrap64 (rd l0 (ji18))))=t245 then (some 0) else (some 11))) else (none)) else (none)) else (none))=some r:=by first|(rw [hji18] at H;exact H)|(simp only [hji18] at H ⊢;exact H)
             have hji18w:(IntKind.i64.wrap ((ji9) + 3))=ji18:=(i64_w _).trans hji18
             by_cases c19:0≤(ji18)
             ·rw [if_pos c19] at H
              have c19b0:decide (0≤(ji18))=true:=decide_eq_true c19
              clear c19
              by_cases c20:(ji18) < (l0.length:Int)
              ·rw [if_pos c20] at H
               have c20b0:decide ((ji18) < (l0.length:Int))=true:=decide_eq_true c20
               clear c20
               have c21b0:=eq_true (za_:0≤(ji9))
               by_cases c22:(ji9)≤(l0.length:Int)
               ·rw [if_pos c22] at H
                have c22b0:=eq_true c22
                have c22b1:decide ((ji9)≤(l0.length:Int))=true:=decide_eq_true c22
                clear c22
                replace H:=Option.bind_eq_some_iff.mp H
                obtain ⟨t245,A230,H⟩:=H
                replace H:(if (Go.bits .or .i64 (Go.bits .or .i64 (Go.bits .or .i64 (wrap64 ((wrap64 (rd l0 (ji9))) * 16777216)) (wrap64 ((wrap64 (rd l0 (ji12))) * 65536))) (wrap64 ((wrap64 (rd l0 (ji15))) * 256))) (wrap64 (rd l0 (ji18))))=t245 then (some 0) else (some 11))=some r:=H
                have A23:=zm A230
                clear A230
                by_cases c24:(Go.bits .or .i64 (Go.bits .or .i64 (Go.bits .or .i64 (wrap64 ((wrap64 (rd l0 (ji9))) * 16777216)) (wrap64 ((wrap64 (rd l0 (ji12))) * 65536))) (wrap64 ((wrap64 (rd l0 (ji15))) * 256))) (wrap64 (rd l0 (ji18))))=t245
                ·rw [if_pos c24] at H
                 have c24b0:((Go.bits .or .i64 (Go.bits .or .i64 (Go.bits .or .i64 (wrap64 ((wrap64 (rd l0 (ji9))) * 16777216)) (wrap64 ((wrap64 (rd l0 (ji12))) * 65536))) (wrap64 ((wrap64 (rd l0 (ji15))) * 256))) (wrap64 (rd l0 (ji18)))) == t245)=true:=beq_iff_eq.mpr c24
                 have c24b1:((Go.bits .or .i64 (Go.bits .or .i64 (Go.bits .or .i64 (wrap64 ((wrap64 (rd l0 (ji9))) * 16777216)) (wrap64 ((wrap64 (rd l0 (ji12))) * 65536))) (wrap64 ((wrap64 (rd l0 (ji15))) * 256))) (wrap64 (rd l0 (ji18)))) != t245)=false:=bne_eq_false_iff_eq.mpr c24
                 clear c24
                 obtain rfl:=Option.some.inj H
                 have p240:0≤((ji9):Int):=za_
                 have q240:(ji9) < (l0.length:Int):=za_
                 obtain ⟨ad240,e240,hx240_0⟩:=Kd.at_int HR0.out (ji9) p240 q240
                 cases e240
                 replace p240:=eq_true p240
                 replace q240:=eq_true q240
                 have p241:0≤((ji12):Int):=za_
                 have q241:(ji12) < (l0.length:Int):=za_
                 obtain ⟨ad241,e241,hx241_0⟩:=Kd.at_int HR0.out (ji12) p241 q241
                 obtain rfl:ad240=ad241:=(by injection e241)
                 replace p241:=eq_true p241
                 replace q241:=eq_true q241
                 have p242:0≤((ji15):Int):=za_
                 have q242:(ji15) < (l0.length:Int):=za_
                 obtain ⟨ad242,e242,hx242_0⟩:=Kd.at_int HR0.out (ji15) p242 q242
                 obtain rfl:ad240=ad242:=(by injection e242)
                 replace p242:=eq_true p242
                 replace q242:=eq_true q242
                 have p243:0≤((ji18):Int):=za_
                 have q243:(ji18) < (l0.length:Int):=za_
                 obtain ⟨ad243,e243,hx243_0⟩:=Kd.at_int HR0.out (ji18) p243 q243
                 obtain rfl:ad240=ad243:=(by injection e243)
                 replace p243:=eq_true p243
                 replace q243:=eq_true q243
                 obtain ⟨i025,hi025,_,hsz25,_⟩:=info_parts info5
                 obtain ⟨hcut25,hA25,hC25⟩:=print_take_of (P:=Try.prog) (Value.int .u8) 0 24 5 .i64 Try.underlying24 hi025 hsz25 (some ad240) c0 l0 (ji9) (za_) (za_) HC0.out
                 have HR244:=zm (Kd.C_of_reads (h1:=fun _=>rfl) (hA25 _ (Kd.reads_of_C HR0.out)))
                 have HC244:=zm hC25
                 clear hA25 hC25 hi025 hsz25
                 go_wp2_with (first|(go_at_call 54;(try refine calls_of_args (args':=#[.slice (some ad240) (l0.take ((ji9):Int).toNat).length c0]) (by first|(rw [show (l0.take ((ji9):Int).toNat).length=(ji9).toNat from (by rw [List.length_take];have h_:((ji9):Int)≤(l0.length:Int):=za_;omega)] <;> rfl)|rfl) ?_);(with_reducible refine (slipwayref01_Zeros.calls kj5 _ _ (l0.take ((ji9):Int).toNat) t245 _ ?side1 ?side2 A23.out).mono ?_);(case side1=>repeat (first|exact HR244.out|(with_reducible refine Kd.C_alloc ?_ _)|(with_reducible refine Kd.C_drewN ?_ _)|(with_reducible refine Kd.C_drew ?_)));(case side2=>exact HC244.out);rintro e w' ⟨rfl,⟨nd,rfl⟩⟩;(try first|exact ⟨rfl,_,World.drewN_drewN _ _ _⟩|exact ⟨rfl,_,Eq.trans (World.drewN_drewN _ _ _) (congrArg (World.drewN _) (Nat.add_assoc _ _ _))⟩)))
                 repeat (go_quiet (first|(go_at_call 54;(try refine calls_of_args (args':=#[.slice (some ad240) (l0.take ((ji9):Int).toNat).length c0]) (by first|(rw [show (l0.take ((ji9):Int).toNat).length=(ji9).toNat from (by rw [List.length_take];have h_:((ji9):Int)≤(l0.length:Int):=za_;omega)] <;> rfl)|rfl) ?_);(with_reducible refine (slipwayref01_Zeros.calls kj5 _ _ (l0.take ((ji9):Int).toNat) t245 _ ?side1 ?side2 A23.out).mono ?_);(case side1=>repeat (first|exact HR244.out|(with_reducible refine Kd.C_alloc ?_ _)|(with_reducible refine Kd.C_drewN ?_ _)|(with_reducible refine Kd.C_drew ?_)));(case side2=>exact HC244.out);rintro e w' ⟨rfl,⟨nd,rfl⟩⟩;(try first|exact ⟨rfl,_,World.drewN_drewN _ _ _⟩|exact ⟨rfl,_,Eq.trans (World.drewN_drewN _ _ _) (congrArg (World.drewN _) (Nat.add_assoc _ _ _))⟩)));try go_wp2_with (first|(go_at_call 54;(try refine calls_of_args (args':=#[.slice (some ad240) (l0.take ((ji9):Int).toNat).length c0]) (by first|(rw [show (l0.take ((ji9):Int).toNat).length=(ji9).toNat from (by rw [List.length_take];have h_:((ji9):Int)≤(l0.length:Int):=za_;omega)] <;> rfl)|rfl) ?_);(with_reducible refine (slipwayref01_Zeros.calls kj5 _ _ (l0.take ((ji9):Int).toNat) t245 _ ?side1 ?side2 A23.out).mono ?_);(case side1=>repeat (first|exact HR244.out|(with_reducible refine Kd.C_alloc ?_ _)|(with_reducible refine Kd.C_drewN ?_ _)|(with_reducible refine Kd.C_drew ?_)));(case side2=>exact HC244.out);rintro e w' ⟨rfl,⟨nd,rfl⟩⟩;(try first|exact ⟨rfl,_,World.drewN_drewN _ _ _⟩|exact ⟨rfl,_,Eq.trans (World.drewN_drewN _ _ _) (congrArg (World.drewN _) (Nat.add_assoc _ _ _))⟩))))
                 go_ret
                 exact ⟨by first|rfl|(simp;done)|(simp only [← hji9,← hji12,← hji15,← hji18] <;> (first|rfl|simp))|(simp [*];done),by repeat (first|exact Drawn0.refl _|apply Drawn0.step)⟩
                ·rw [if_neg c24] at H
                 have c24b0:((Go.bits .or .i64 (Go.bits .or .i64 (Go.bits .or .i64 (wrap64 ((wrap64 (rd l0 (ji9))) * 16777216)) (wrap64 ((wrap64 (rd l0 (ji12))) * 65536))) (wrap64 ((wrap64 (rd l0 (ji15))) * 256))) (wrap64 (rd l0 (ji18)))) == t245)=false:=beq_eq_false_iff_ne.mpr c24
                 have c24b1:((Go.bits .or .i64 (Go.bits .or .i64 (Go.bits .or .i64 (wrap64 ((wrap64 (rd l0 (ji9))) * 16777216)) (wrap64 ((wrap64 (rd l0 (ji12))) * 65536))) (wrap64 ((wrap64 (rd l0 (ji15))) * 256))) (wrap64 (rd l0 (ji18)))) != t245)=true:=bne_iff_ne.mpr c24
                 obtain rfl:=Option.some.inj H
                 have p240:0≤((ji9):Int):=za_
                 have q240:(ji9) < (l0.length:Int):=za_
                 obtain ⟨ad240,e240,hx240_0⟩:=Kd.at_int HR0.out (ji9) p240 q240
                 cases e240
                 replace p240:=eq_true p240
                 replace q240:=eq_true q240
                 have p241:0≤((ji12):Int):=za_
                 have q241:(ji12) < (l0.length:Int):=za_
                 obtain ⟨ad241,e241,hx241_0⟩:=Kd.at_int HR0.out (ji12) p241 q241
                 obtain rfl:ad240=ad241:=(by injection e241)
                 replace p241:=eq_true p241
                 replace q241:=eq_true q241
                 have p242:0≤((ji15):Int):=za_
                 have q242:(ji15) < (l0.length:Int):=za_
                 obtain ⟨ad242,e242,hx242_0⟩:=Kd.at_int HR0.out (ji15) p242 q242
                 obtain rfl:ad240=ad242:=(by injection e242)
                 replace p242:=eq_true p242
                 replace q242:=eq_true q242
                 have p243:0≤((ji18):Int):=za_
                 have q243:(ji18) < (l0.length:Int):=za_
                 obtain ⟨ad243,e243,hx243_0⟩:=Kd.at_int HR0.out (ji18) p243 q243
                 obtain rfl:ad240=ad243:=(by injection e243)
                 replace p243:=eq_true p243
                 replace q243:=eq_true q243
                 obtain ⟨i026,hi026,_,hsz26,_⟩:=info_parts info5
                 obtain ⟨hcut26,hA26,hC26⟩:=print_take_of (P:=Try.prog) (Value.int .u8) 0 24 5 .i64 Try.underlying24 hi026 hsz26 (some ad240) c0 l0 (ji9) (za_) (za_) HC0.out
                 have HR244:=zm (Kd.C_of_reads (h1:=fun _=>rfl) (hA26 _ (Kd.reads_of_C HR0.out)))
                 have HC244:=zm hC26
                 clear hA26 hC26 hi026 hsz26
                 go_wp2_with (first|(go_at_call 54;(try refine calls_of_args (args':=#[.slice (some ad240) (l0.take ((ji9):Int).toNat).length c0]) (by first|(rw [show (l0.take ((ji9):Int).toNat).length=(ji9).toNat from (by rw [List.length_take];have h_:((ji9):Int)≤(l0.length:Int):=za_;omega)] <;> rfl)|rfl) ?_);(with_reducible refine (slipwayref01_Zeros.calls kj5 _ _ (l0.take ((ji9):Int).toNat) t245 _ ?side1 ?side2 A23.out).mono ?_);(case side1=>repeat (first|exact HR244.out|(with_reducible refine Kd.C_alloc ?_ _)|(with_reducible refine Kd.C_drewN ?_ _)|(with_reducible refine Kd.C_drew ?_)));(case side2=>exact HC244.out);rintro e w' ⟨rfl,⟨nd,rfl⟩⟩;(try first|exact ⟨rfl,_,World.drewN_drewN _ _ _⟩|exact ⟨rfl,_,Eq.trans (World.drewN_drewN _ _ _) (congrArg (World.drewN _) (Nat.add_assoc _ _ _))⟩)))
                 repeat (go_quiet (first|(go_at_call 54;(try refine calls_of_args (args':=#[.slice (some ad240) (l0.take ((ji9):Int).toNat).length c0]) (by first|(rw [show (l0.take ((ji9):Int).toNat).length=(ji9).toNat from (by rw [List.length_take];have h_:((ji9):Int)≤(l0.length:Int):=za_;omega)] <;> rfl)|rfl) ?_);(with_reducible refine (slipwayref01_Zeros.calls kj5 _ _ (l0.take ((ji9):Int).toNat) t245 _ ?side1 ?side2 A23.out).mono ?_);(case side1=>repeat (first|exact HR244.out|(with_reducible refine Kd.C_alloc ?_ _)|(with_reducible refine Kd.C_drewN ?_ _)|(with_reducible refine Kd.C_drew ?_)));(case side2=>exact HC244.out);rintro e w' ⟨rfl,⟨nd,rfl⟩⟩;(try first|exact ⟨rfl,_,World.drewN_drewN _ _ _⟩|exact ⟨rfl,_,Eq.trans (World.drewN_drewN _ _ _) (congrArg (World.drewN _) (Nat.add_assoc _ _ _))⟩)));try go_wp2_with (first|(go_at_call 54;(try refine calls_of_args (args':=#[.slice (some ad240) (l0.take ((ji9):Int).toNat).length c0]) (by first|(rw [show (l0.take ((ji9):Int).toNat).length=(ji9).toNat from (by rw [List.length_take];have h_:((ji9):Int)≤(l0.length:Int):=za_;omega)] <;> rfl)|rfl) ?_);(with_reducible refine (slipwayref01_Zeros.calls kj5 _ _ (l0.take ((ji9):Int).toNat) t245 _ ?side1 ?side2 A23.out).mono ?_);(case side1=>repeat (first|exact HR244.out|(with_reducible refine Kd.C_alloc ?_ _)|(with_reducible refine Kd.C_drewN ?_ _)|(with_reducible refine Kd.C_drew ?_)));(case side2=>exact HC244.out);rintro e w' ⟨rfl,⟨nd,rfl⟩⟩;(try first|exact ⟨rfl,_,World.drewN_drewN _ _ _⟩|exact ⟨rfl,_,Eq.trans (World.drewN_drewN _ _ _) (congrArg (World.drewN _) (Nat.add_assoc _ _ _))⟩))))
                 go_ret
                 exact ⟨by first|rfl|(simp;done)|(simp only [← hji9,← hji12,← hji15,← hji18] <;> (first|rfl|simp))|(simp [*];done),by repeat (first|exact Drawn0.refl _|apply Drawn0.step)⟩
               ·rw [if_neg c22] at H
                exact absurd H (by simp)
              ·rw [if_neg c20] at H
               exact absurd H (by simp)
             ·rw [if_neg c19] at H
              exact absurd H (by simp)
            ·rw [if_neg c17] at H
             exact absurd H (by simp)
           ·rw [if_neg c16] at H
            exact absurd H (by simp)
          ·rw [if_neg c14] at H
           exact absurd H (by simp)
         ·rw [if_neg c13] at H
          exact absurd H (by simp)
        ·rw [if_neg c11] at H
         exact absurd H (by simp)
       ·rw [if_neg c10] at H
        exact absurd H (by simp)
end Go.Proofs.Ytdohpjjggjehfaa.Print
end
section
namespace Go.Proofs.Ytdohpjjggjehfaa.Print
open Go.RowKit Go.Proofs.YtdohpjjggjehfaaW.PrintWords Go.Proofs.YtdohpjjggjehfaaW.PrintLast Go.Proofs.YtdohpjjggjehfaaW.PrintMore
attribute [local go_sem] max2_int min2_int max_two min_two max_three min_three max_four min_four   -- for this text's walks alone
attribute [local go_sem ↓] Go.Proofs.Ytdohpjjggjehfaa.Sem.isSome_setCell
attribute [local go_sem] Go.Instr.field Go.asAgg
set_option linter.unusedVariables false
set_option linter.unusedSimpArgs false
def slipwayref01_Open.f (k:Nat) (l0:List Int):Option (List Int × Int):=(slipwayref01_State.f k l0).bind fun t246=>(if t246=0 then (if 0≤(wrap64 ((l0.length:Int) - 4)) then (if (wrap64 ((l0.length:Int) - 4))≤(l0.length:Int) then (if ([]:List Int).length + (l0.take ((wrap64 ((l0.length:Int) - 4)):Int).toNat).length < 140737488355328 then (some ((([]:List Int) ++ (l0.take ((wrap64 ((l0.length:Int) - 4)):Int).toNat)),0)) else (none)) else (none)) else (none)) else (some (([]:List Int),t246)))
set_option maxHeartbeats 8000000 in
set_option maxRecDepth 100000 in
theorem slipwayref01_Open.calls (k:Nat) (A0:Option Addr) (c0:Nat) (l0:List Int) (r1:List Int) (r2:Int) (w:World) (hr0:Kd.C (Kd.int .u8) w A0 l0.length l0) (hc0:l0.length≤c0) (h:slipwayref01_Open.f k l0=some (r1,r2)) :
  Calls Try.prog 41 #[.slice A0 l0.length c0] w fun e w'=>∃ v0_:Value,e=.returned (.tuple #[v0_,.int .i64 r2])∧Kd.R (Kd.int .u8) 5 w' w.heap.size (fun _=>True) v0_ r1∧Below w.heap.size w w':=by
 have HR0:=zm hr0
 have HC0:=zm hc0
 clear hr0 hc0
 have HB:=zm (Below.refl w.heap.size w)
 have H:((slipwayref01_State.f k l0).bind fun t246=>(if t246=0 then (if 0≤(wrap64 ((l0.length:Int) - 4)) then (if (wrap64 ((l0.length:Int) - 4))≤(l0.length:Int) then (if ([]:List Int).length + (l0.take ((wrap64 ((l0.length:Int) - 4)):Int).toNat).length < 140737488355328 then (some ((([]:List Int) ++ (l0.take ((wrap64 ((l0.length:Int) - 4)):Int).toNat)),0)) else (none)) else (none)) else (none)) else (some (([]:List Int),t246))))=some (r1,r2):=h
 clear h
 replace H:=Option.bind_eq_some_iff.mp H
 obtain ⟨t246,A20,H⟩:=H
 replace H:(if t246=0 then (if 0≤(wrap64 ((l0.length:Int) - 4)) then (if (wrap64 ((l0.length:Int) - 4))≤(l0.length:Int) then (if ([]:List Int).length + (l0.take ((wrap64 ((l0.length:Int) - 4)):Int).toNat).length < 140737488355328 then (some ((([]:List Int) ++ (l0.take ((wrap64 ((l0.length:Int) - 4)):Int).toNat)),0)) else (none)) else (none)) else (none)) else (some (([]:List Int),t246)))=some (r1,r2):=H
 have A2:=zm A20
 clear A20
 by_cases c3:t246=0
 ·rw [if_pos c3] at H
  have c3b0:(t246 == 0)=true:=beq_iff_eq.mpr c3
  have c3b1:(t246 != 0)=false:=bne_eq_false_iff_eq.mpr c3
  clear c3
  obtain ⟨ji4,hji4⟩:∃ j_:Int,(wrap64 ((l0.length:Int) - 4))=j_:=⟨_,rfl⟩
  replace H:(if 0≤(ji4) then (if (ji4)≤(l0.length:Int) then (if ([]:List Int).length + (l0.take ((ji4):Int).toNat).length < 140737488355328 then (some ((([]:List Int) ++ (l0.take ((ji4):Int).toNat)),0)) else (none)) else (none)) else (none))=some (r1,r2):=by first|(rw [hji4] at H;exact H)|(simp only [hji4] at H ⊢;exact H)
  (try rw [hji4] at A2)
  have hji4w:(IntKind.i64.wrap ((l0.length:Int) - 4))=ji4:=(i64_w _).trans hji4
  by_cases c5:0≤(ji4)
  ·rw [if_pos c5] at H
   have c5b0:=eq_true c5
   have c5b1:decide (0≤(ji4))=true:=decide_eq_true c5
   clear c5
   by_cases c6:(ji4)≤(l0.length:Int)
   ·rw [if_pos c6] at H
    have c6b0:=eq_true c6
    have c6b1:decide ((ji4)≤(l0.length:Int))=true:=decide_eq_true c6
    clear c6
    by_cases c7:([]:List Int).length + (l0.take ((ji4):Int).toNat).length < 140737488355328
    ·rw [if_pos c7] at H
     have LMc7:=zm c7
     clear c7
     obtain ⟨y248,hy248⟩:∃ y_:List Int,y_=(([]:List Int) ++ (l0.take ((ji4):Int).toNat)):=⟨_,rfl⟩
     replace H:(some (y248,0))=some (r1,r2):=by first|(rw [hy248];with_reducible exact H)|(have H2_:=(Option.bind_some _ _).symm.trans H;rw [hy248];with_reducible exact H2_)|(have H2_:=(Option.bind_some _ _).symm.trans H;with_reducible exact H2_)|with_reducible exact H|(rw [hy248];exact H)|exact H
     have Ny248:=zm hy248
     clear hy248
     simp only [Option.some.injEq,Prod.mk.injEq] at H
     obtain ⟨rfl,rfl⟩:=H
     go_enter Try.func41,Try.ntmps41
     go_wp2_with (first|((with_reducible refine gate_callee (f:=61) rfl ?_);refine goesL_ (some 7) rfl rfl Try.func61 (by kernel_rfl) rfl #[.slice A0 l0.length c0] rfl (by (try simp only [List.map_toArray,List.map_cons,List.map_nil]);first|done|rfl|(simp only [List.length_drop,List.length_take];rfl)) ?_;(with_reducible refine (slipwayref01_State.calls k _ _ l0 t246 _ ?side1 ?side2 A2.out).mono ?_);(case side1=>repeat (first|exact HR0.out|(with_reducible refine Kd.C_alloc ?_ _)|(with_reducible refine Kd.C_drewN ?_ _)|(with_reducible refine Kd.C_drew ?_)));(case side2=>exact HC0.out);rintro e w' ⟨rfl,⟨nd,rfl⟩⟩;refine ⟨_,rfl,?_⟩;obtain ⟨i08,hi08,_,hsz8,_⟩:=info_parts info5;obtain ⟨hcut8,hA8,hC8⟩:=print_take_of (P:=Try.prog) (Value.int .u8) 0 24 5 .i64 Try.underlying24 hi08 hsz8 A0 c0 l0 (ji4) (za_) (za_) HC0.out;have HR247:=zm (Kd.C_of_reads (h1:=fun _=>rfl) (hA8 _ (Kd.reads_of_C HR0.out)));have HC247:=zm hC8;clear hA8 hC8 hi08 hsz8)|((with_reducible refine gate_builtin (b:=.append) (xs:=#[.tmp 11,.tmp 16]) rfl ?_);at_builtin;refine Kd.R_append_rows (Kd.int .u8) (w0:=w) w.heap.size rfl (.tmp 11) (.tmp 16) 24 5 (.int .u8 0) 1 rfl Try.underlying24 info5 rfl (by decide) (by omega) (.slice none 0 0) ([]:List Int) (l0.take ((ji4):Int).toNat) _ _ _ (fun _=>True) (fun _=>False) rfl rfl ?aO ?aR (fun _ _ h=>h) (fun _ h=>h.elim) ?aF ?aB ?aS ?aL ?_;(case aR=>first|(refine Eq.mp (congrArg (fun n_=>Kd.C _ _ _ n_ _) (show (l0.take ((ji4):Int).toNat).length=(ji4).toNat from (by rw [List.length_take];have h_:((ji4):Int)≤(l0.length:Int):=za_;omega))) ?_;repeat (first|exact HR247.out|(with_reducible refine Kd.C_alloc ?_ _)|(with_reducible refine Kd.C_drewN ?_ _)|(with_reducible refine Kd.C_drew ?_)))|(repeat (first|exact HR247.out|(with_reducible refine Kd.C_alloc ?_ _)|(with_reducible refine Kd.C_drewN ?_ _)|(with_reducible refine Kd.C_drew ?_))));(case aB=>exact (zb_));(case aF=>exact (fun _ _=>trivial));(case aO=>exact ((Kd.R_nil _ _ _ _ (fun _=>True))));(case aS=>exact (below_size (zb_)));(case aL=>have:=LMc7.out;have hlx_:=(show (l0.take ((ji4):Int).toNat).length=(ji4).toNat from (by rw [List.length_take];have h_:((ji4):Int)≤(l0.length:Int):=za_;omega));omega);intro v249 w9 ho hb hg hat;rw [← Ny248.out] at ho;have n0_:=zm (hb);have n1_:=zm (ho);clear HB;have HB:=n0_;have HO250:=n1_;clear n0_ n1_;clear ho hb hg hat))
     go_ret2
     exact ⟨_,by first|rfl|(simp [errW_none,errW_some] <;> rfl)|(simp only [← hji4];first|rfl|(simp [errW_none,errW_some] <;> rfl))|(simp [*,errW_none,errW_some] <;> rfl),by (with_reducible repeat (first|apply zrA|apply zrN|apply zrD));exact HO250.out,zb_⟩
    ·rw [if_neg c7] at H
     exact absurd H (by simp)
   ·rw [if_neg c6] at H
    exact absurd H (by simp)
  ·rw [if_neg c5] at H
   exact absurd H (by simp)
 ·rw [if_neg c3] at H
  have c3b0:(t246 == 0)=false:=beq_eq_false_iff_ne.mpr c3
  have c3b1:(t246 != 0)=true:=bne_iff_ne.mpr c3
  simp only [Option.some.injEq,Prod.mk.injEq] at H
  obtain ⟨rfl,rfl⟩:=H
  go_enter Try.func41,Try.ntmps41
  go_wp2_with (first|((with_reducible refine gate_callee (f:=61) rfl ?_);refine goesL_ (some 7) rfl rfl Try.func61 (by kernel_rfl) rfl #[.slice A0 l0.length c0] rfl (by (try simp only [List.map_toArray,List.map_cons,List.map_nil]);first|done|rfl|(simp only [List.length_drop,List.length_take];rfl)) ?_;(with_reducible refine (slipwayref01_State.calls k _ _ l0 t246 _ ?side1 ?side2 A2.out).mono ?_);(case side1=>repeat (first|exact HR0.out|(with_reducible refine Kd.C_alloc ?_ _)|(with_reducible refine Kd.C_drewN ?_ _)|(with_reducible refine Kd.C_drew ?_)));(case side2=>exact HC0.out);rintro e w' ⟨rfl,⟨nd,rfl⟩⟩;refine ⟨_,rfl,?_⟩))
  go_ret2
  exact ⟨_,ze_,zr_,zb_⟩
end Go.Proofs.Ytdohpjjggjehfaa.Print
end
section
namespace Go.Proofs.Ytdohpjjggjehfaa.Print
open Go.RowKit Go.Proofs.YtdohpjjggjehfaaW.PrintWords Go.Proofs.YtdohpjjggjehfaaW.PrintLast Go.Proofs.YtdohpjjggjehfaaW.PrintMore
attribute [local go_sem] max2_int min2_int max_two min_two max_three min_three max_four min_four   -- for this text's walks alone
attribute [local go_sem ↓] Go.Proofs.Ytdohpjjggjehfaa.Sem.isSome_setCell
attribute [local go_sem] Go.Instr.field Go.asAgg
set_option linter.unusedVariables false
set_option linter.unusedSimpArgs false
-- CX
-- PG
def slipwayref03_Bytes.f (p:List Int):Option (List Int):=if p.length=288 then some p else none
set_option maxHeartbeats 4000000 in
set_option maxRecDepth 100000 in
theorem slipwayref03_Bytes.calls (p:List Int) (r:List Int) (w:World) (h:slipwayref03_Bytes.f p=some r) :
  Calls Try.prog 42 #[.agg (pc p)] w fun e w'=>∃ v0_:Value,e=.returned v0_∧Kd.R (Kd.int .u8) 5 w' w.heap.size (fun _=>True) v0_ r∧Below w.heap.size w w':=by
 have hu29:=Try.underlying29
 unfold slipwayref03_Bytes.f at h
 obtain ⟨hp,h⟩:=Cw.gt_ h
 obtain rfl:=Option.some.inj h
 clear h
 have hh_:=zm hp;clear hp;have hp:=hh_;clear hh_
 go_enter Try.func42,Try.ntmps42
 go_wp2_with (first|((with_reducible refine gate_ (.box 29 _) rfl ?_);refine box_event rfl rfl (pg_box rfl rfl) ?_;rintro g1 hg w1 hbk hb;skip;clear hg;have hh_:=zm hbk;clear hbk;have hbk:=hh_;clear hh_;have hh_:=zm hb;clear hb;have hb:=hh_;clear hh_)|((with_reducible refine gate_builtin (b:=.append) (xs:=#[.tmp 4,.tmp 6]) rfl ?_);at_builtin;refine Kd.R_append_rows (Kd.int .u8) (w0:=w1) w1.heap.size rfl (.tmp 4) (.tmp 6) 24 5 (.int .u8 0) 1 rfl Try.underlying24 info5 rfl (by decide) (by omega) _ ([]:List Int) ((p.drop 0).take 256) _ _ _ (fun _=>True) (fun _=>False) rfl rfl (Kd.R_nil _ _ _ _ _) (pg_C (zbB (Aside0.out (by assumption)) (by repeat (first|exact Below.refl _ _|with_reducible apply zlN|with_reducible apply zlA|refine below_step ?_ (Aside0.out (by assumption))))) (by have:=hp.out;omega) hp.out) (fun _ _ h=>h) (fun _ h=>h.elim) (fun _ _=>trivial) (by repeat (first|exact Below.refl _ _|with_reducible apply zlN|with_reducible apply zlA|refine below_step ?_ (Aside0.out (by assumption)))) (below_size (by repeat (first|exact Below.refl _ _|with_reducible apply zlN|with_reducible apply zlA|refine below_step ?_ (Aside0.out (by assumption))))) (by have:=hp.out;simp only [List.length_append,List.length_take,List.length_drop,List.length_nil];omega) ?_;intro v' w' ho hb hg hat;clear hg hat;have hh_:=zm ho;clear ho;have ho:=hh_;clear hh_;have hh_:=zm hb;clear hb;have hb:=hh_;clear hh_)|((with_reducible refine gate_builtin (b:=.append) (xs:=#[.tmp 8,.tmp 10]) rfl ?_);at_builtin;refine Kd.R_append_rows (Kd.int .u8) (w0:=w1) w1.heap.size rfl (.tmp 8) (.tmp 10) 24 5 (.int .u8 0) 1 rfl Try.underlying24 info5 rfl (by decide) (by omega) _ ([] ++ (p.drop 0).take 256) ((p.drop 256).take 32) _ _ _ (fun _=>True) (fun _=>False) rfl rfl (Kd.R_below ho.out (by repeat (first|exact Below.refl _ _|with_reducible apply zlN|with_reducible apply zlA|refine below_step ?_ (Aside0.out (by assumption))))) (pg_C (zbB (Aside0.out (by assumption)) (by repeat (first|exact Below.refl _ _|with_reducible apply zlN|with_reducible apply zlA|refine below_step ?_ (Aside0.out (by assumption))))) (by have:=hp.out;omega) hp.out) (fun _ _ h=>h) (fun _ h=>h.elim) (fun _ _=>trivial) (by repeat (first|exact Below.refl _ _|with_reducible apply zlN|with_reducible apply zlA|refine below_step ?_ (Aside0.out (by assumption)))) (below_size (by repeat (first|exact Below.refl _ _|with_reducible apply zlN|with_reducible apply zlA|refine below_step ?_ (Aside0.out (by assumption))))) (by have:=hp.out;simp only [List.length_append,List.length_take,List.length_drop,List.length_nil];omega) ?_;intro v' w' ho hb hg hat;clear hg hat;have hh_:=zm ho;clear ho;have ho:=hh_;clear hh_;have hh_:=zm hb;clear hb;have hb:=hh_;clear hh_))
 have e:[] ++ (p.drop 0).take 256 ++ (p.drop 256).take 32=p:=by
  have:=hp.out
  rw [List.nil_append,List.drop_zero,List.take_of_length_le (l:=p.drop 256) (by rw [List.length_drop];omega),List.take_append_drop]
 go_ret
 have ho:=ho.out
 rw [e] at ho
 exact ⟨_,rfl,Kd.R_lower ho (below_size (by repeat (first|exact Below.refl _ _|with_reducible apply zlN|with_reducible apply zlA|refine below_step ?_ (Aside0.out (by assumption))))),(by repeat (first|exact Below.refl _ _|with_reducible apply zlN|with_reducible apply zlA|refine below_step ?_ (Aside0.out (by assumption))))⟩
end Go.Proofs.Ytdohpjjggjehfaa.Print
end
section
namespace Go.Proofs.Ytdohpjjggjehfaa.Print
open Go.RowKit Go.Proofs.YtdohpjjggjehfaaW.PrintWords Go.Proofs.YtdohpjjggjehfaaW.PrintLast Go.Proofs.YtdohpjjggjehfaaW.PrintMore
attribute [local go_sem] max2_int min2_int max_two min_two max_three min_three max_four min_four   -- for this text's walks alone
attribute [local go_sem ↓] Go.Proofs.Ytdohpjjggjehfaa.Sem.isSome_setCell
attribute [local go_sem] Go.Instr.field Go.asAgg
set_option linter.unusedVariables false
set_option linter.unusedSimpArgs false
mutual
def slipwayref01_Unpack.l0:Nat → List Int → List Int → Int → List Int → Int → Int → Option (List Int × Int)
 | 0,_,_,_,_,_,_=>none
 | k + 1,x0,x1,x6,x8,x9,x10=>if x10 < (x0.length:Int) then (slipwayref01_Unpack.l1 k x0 x1 x6 x8 x9 x10 0 0) else (slipwayref01_Unpack.l2 k x1 x6 x8 x9)
def slipwayref01_Unpack.l1:Nat → List Int → List Int → Int → List Int → Int → Int → Int → Int → Option (List Int × Int)
 | 0,_,_,_,_,_,_,_,_=>none
 | k + 1,x0,x1,x6,x8,x9,x10,x11,x12=>if 0≤x10 then (if x10 < (x0.length:Int) then (if x12 < (rd x0 x10) then (if 0≤(wrap64 (Int.tdiv x9 8)) then (if (wrap64 (Int.tdiv x9 8)) < (x1.length:Int) then (if 0≤(IntKind.u64.wrap (wrap64 (7 - (Int.tmod x9 8)))) then (slipwayref01_Unpack.l1 k x0 x1 x6 x8 (wrap64 (x9 + 1)) x10 (Go.bits .or .u64 (IntKind.u64.wrap (x11 * 2)) (IntKind.u64.wrap (Go.bits .and .u8 (shr .u8 (rd x1 (wrap64 (Int.tdiv x9 8))) (IntKind.u64.wrap (wrap64 (7 - (Int.tmod x9 8))))) 1))) (wrap64 (x12 + 1))) else (none)) else (none)) else (none)) else (if x8.length < 17592186044416 then (slipwayref01_Unpack.l0 k x0 x1 x6 (x8 ++ [x11]) x9 (wrap64 (x10 + 1))) else (none))) else (none)) else (none)
def slipwayref01_Unpack.l2:Nat → List Int → Int → List Int → Int → Option (List Int × Int)
 | 0,_,_,_,_=>none
 | k + 1,x1,x6,x8,x9=>if x9 < (wrap64 (8 * x6)) then (if 0≤(wrap64 (Int.tdiv x9 8)) then (if (wrap64 (Int.tdiv x9 8)) < (x1.length:Int) then (if 0≤(IntKind.u64.wrap (wrap64 (7 - (Int.tmod x9 8)))) then (if (Go.bits .and .u8 (shr .u8 (rd x1 (wrap64 (Int.tdiv x9 8))) (IntKind.u64.wrap (wrap64 (7 - (Int.tmod x9 8))))) 1)=0 then (slipwayref01_Unpack.l2 k x1 x6 x8 (wrap64 (x9 + 1))) else (some (([]:List Int),1))) else (none)) else (none)) else (none)) else (some (x8,0))
end
def slipwayref01_Unpack.f (k:Nat) (l0:List Int) (l1:List Int):Option (List Int × Int):=(slipwayref01_Width.f k l0).bind fun bt251=>(if bt251.2=0 then (if (l1.length:Int)=bt251.1 then (slipwayref01_Unpack.l0 k l0 l1 bt251.1 ([]:List Int) 0 0) else (some (([]:List Int),3))) else (some (([]:List Int),bt251.2)))
set_option maxHeartbeats 8000000 in
set_option maxRecDepth 100000 in
theorem slipwayref01_Unpack.calls (k:Nat) (A0:Option Addr) (c0:Nat) (l0:List Int) (A1:Option Addr) (c1:Nat) (l1:List Int) (r1:List Int) (r2:Int) (w:World) (hr0:Kd.C (Kd.int .i64) w A0 l0.length l0) (hc0:l0.length≤c0) (hr1:Kd.C (Kd.int .u8) w A1 l1.length l1) (hc1:l1.length≤c1) (h:slipwayref01_Unpack.f k l0 l1=some (r1,r2)) :
  Calls Try.prog 43 #[.slice A0 l0.length c0,.slice A1 l1.length c1] w fun e w'=>∃ v0_:Value,e=.returned (.tuple #[v0_,.int .i64 r2])∧Kd.R (Kd.int .u64) 58 w' w.heap.size (fun _=>True) v0_ r1∧Below w.heap.size w w':=by
 have HR0:=zm hr0
 have HC0:=zm hc0
 clear hr0 hc0
 have HR1:=zm hr1
 have HC1:=zm hc1
 clear hr1 hc1
 have HB:=zm (Below.refl w.heap.size w)
 have H:((slipwayref01_Width.f k l0).bind fun bt251=>(if bt251.2=0 then (if (l1.length:Int)=bt251.1 then (slipwayref01_Unpack.l0 k l0 l1 bt251.1 ([]:List Int) 0 0) else (some (([]:List Int),3))) else (some (([]:List Int),bt251.2))))=some (r1,r2):=h
 clear h
 replace H:=Option.bind_eq_some_iff.mp H
 obtain ⟨⟨t251,t252⟩,A30,H⟩:=H
 replace H:(if t252=0 then (if (l1.length:Int)=t251 then (slipwayref01_Unpack.l0 k l0 l1 t251 ([]:List Int) 0 0) else (some (([]:List Int),3))) else (some (([]:List Int),t252)))=some (r1,r2):=H
 have A3:=zm A30
 clear A30
 by_cases c4:t252=0
 ·rw [if_pos c4] at H
  have c4b0:(t252 == 0)=true:=beq_iff_eq.mpr c4
  have c4b1:(t252 != 0)=false:=bne_eq_false_iff_eq.mpr c4
  clear c4
  by_cases c5:(l1.length:Int)=t251
  ·rw [if_pos c5] at H
   have c5b0:((l1.length:Int) == t251)=true:=beq_iff_eq.mpr c5
   have c5b1:((l1.length:Int) != t251)=false:=bne_eq_false_iff_eq.mpr c5
   clear c5
   have H':=zm H
   clear H
   go_enter Try.func43,Try.ntmps43
   go_wp2_with (first|((with_reducible refine gate_callee (f:=62) rfl ?_);refine goesL_ (some 15) rfl rfl Try.func62 (by kernel_rfl) rfl #[.slice A0 l0.length c0] rfl (by (try simp only [List.map_toArray,List.map_cons,List.map_nil]);first|done|rfl|(simp only [List.length_drop,List.length_take];rfl)) ?_;(with_reducible refine (slipwayref01_Width.calls k _ _ l0 t251 t252 _ ?side1 ?side2 A3.out).mono ?_);(case side1=>repeat (first|exact HR0.out|(with_reducible refine Kd.C_alloc ?_ _)|(with_reducible refine Kd.C_drewN ?_ _)|(with_reducible refine Kd.C_drew ?_)));(case side2=>exact HC0.out);rintro e w' ⟨rfl,⟨nd,rfl⟩⟩;refine ⟨_,rfl,?_⟩))
   go_loopg [8,9,10] k (fun kq v8 v9 v10 w'=>∃ (x8_1:List Int) (x9_1:Int) (x10_1:Int),v9=.int .i64 x9_1∧v10=.int .i64 x10_1∧Aside0 (slipwayref01_Unpack.l0 kq l0 l1 t251 x8_1 x9_1 x10_1=some (r1,r2))∧Aside0 (kq≤k)∧Aside0 (Kd.R (Kd.int .u64) 58 w' w.heap.size (fun _=>True) v8 x8_1)∧Aside0 (Below w.heap.size w w'))
   case atStart=>exact ⟨(([]:List Int)),(0),(0),zs_,zs_,H',⟨Nat.le_refl _⟩,⟨zr_⟩,⟨zb_⟩⟩
   case round =>
    clear H'
    try clear c1
    try clear p2
    try clear c4
    try clear c4b0
    try clear c4b1
    try clear c5
    try clear c5b0
    try clear c5b1
    obtain ⟨x8_1,x9_1,x10_1,rfl,rfl,HA,HK1,HO_8,HB⟩:=hrel
    cases gk with
    | zero=>exact absurd HA.out (by simp [slipwayref01_Unpack.l0])
    | succ k1 =>
     have H:=HA.out
     clear HA
     simp only [slipwayref01_Unpack.l0] at H
     by_cases c6:x10_1 < (l0.length:Int)
     ·rw [if_pos c6] at H
      have c6b0:decide (x10_1 < (l0.length:Int))=true:=decide_eq_true c6
      clear c6
      have H':=zm H
      clear H
      go_wp2
      go_loopg [9,11,12] k1 (fun kq v9 v11 v12 w'=>∃ (x9_2:Int) (x11_2:Int) (x12_2:Int),v9=.int .i64 x9_2∧v11=.int .u64 x11_2∧v12=.int .i64 x12_2∧Aside0 (slipwayref01_Unpack.l1 kq l0 l1 t251 x8_1 x9_2 x10_1 x11_2 x12_2=some (r1,r2))∧Aside0 (kq≤k1)∧Aside0 (Kd.R (Kd.int .u64) 58 w' w.heap.size (fun _=>True) u8 x8_1)∧Aside0 (Below w.heap.size w w'))
      case atStart=>exact ⟨(x9_1),(0),(0),zs_,zs_,zs_,H',⟨Nat.le_refl _⟩,⟨by (with_reducible repeat (first|apply zrA|apply zrN|apply zrD));exact HO_8.out⟩,⟨zb_⟩⟩
      case round =>
       clear H'
       try clear c1
       try clear p2
       try clear c4
       try clear c4b0
       try clear c4b1
       try clear c5
       try clear c5b0
       try clear c5b1
       try clear c6
       try clear c6b0
       try clear p2
       obtain ⟨x9_2,x11_2,x12_2,rfl,rfl,rfl,HA,HK2,HO_8,HB⟩:=hrel
       cases gk with
       | zero=>exact absurd HA.out (by simp [slipwayref01_Unpack.l1])
       | succ k2 =>
        have H:=HA.out
        clear HA
        simp only [slipwayref01_Unpack.l1] at H
        by_cases c7:0≤x10_1
        ·rw [if_pos c7] at H
         have c7b0:decide (0≤x10_1)=true:=decide_eq_true c7
         clear c7
         by_cases c8:x10_1 < (l0.length:Int)
         ·rw [if_pos c8] at H
          have c8b0:decide (x10_1 < (l0.length:Int))=true:=decide_eq_true c8
          clear c8
          by_cases c9:x12_2 < (rd l0 x10_1)
          ·rw [if_pos c9] at H
           have c9b0:decide (x12_2 < (rd l0 x10_1))=true:=decide_eq_true c9
           clear c9
           obtain ⟨ji10,hji10⟩:∃ j_:Int,(wrap64 (Int.tdiv x9_2 8))=j_:=⟨_,rfl⟩
           replace H:(if 0≤(ji10) then (if (ji10) < (l1.length:Int) then (if 0≤(IntKind.u64.wrap (wrap64 (7 - (Int.tmod x9_2 8)))) then (slipwayref01_Unpack.l1 k2 l0 l1 t251 x8_1 (wrap64 (x9_2 + 1)) x10_1 (Go.bits .or .u64 (IntKind.u64.wrap (x11_2 * 2)) (IntKind.u64.wrap (Go.bits .and .u8 (shr .u8 (rd l1 (ji10)) (IntKind.u64.wrap (wrap64 (7 - (Int.tmod x9_2 8))))) 1))) (wrap64 (x12_2 + 1))) else (none)) else (none)) else (none))=some (r1,r2):=by first|(rw [hji10] at H;exact H)|(simp only [hji10] at H ⊢;exact H)
           have hji10w:(IntKind.i64.wrap (Int.tdiv x9_2 8))=ji10:=(i64_w _).trans hji10
           by_cases c11:0≤(ji10)
           ·rw [if_pos c11] at H
            have c11b0:decide (0≤(ji10))=true:=decide_eq_true c11
            clear c11
            by_cases c12:(ji10) < (l1.length:Int)
            ·rw [if_pos c12] at H
             have c12b0:decide ((ji10) < (l1.length:Int))=true:=decide_eq_true c12
             clear c12
             obtain ⟨ji13,hji13⟩:∃ j_:Int,(IntKind.u64.wrap (wrap64 (7 - (Int.tmod x9_2 8))))=j_:=⟨_,rfl⟩
             replace H:(if 0≤(ji13) then (slipwayref01_Unpack.l1 k2 l0 l1 t251 x8_1 (wrap64 (x9_2 + 1)) x10_1 (Go.bits .or .u64 (IntKind.u64.wrap (x11_2 * 2)) (IntKind.u64.wrap (Go.bits .and .u8 (shr .u8 (rd l1 (ji10)) (ji13)) 1))) (wrap64 (x12_2 + 1))) else (none))=some (r1,r2):=by first|(rw [hji13] at H;exact H)|(simp only [hji13] at H ⊢;exact H)
             by_cases c14:0≤(ji13)
             ·rw [if_pos c14] at H
              have c14b0:=eq_true c14
              have c14b1:decide (0≤(ji13))=true:=decide_eq_true c14
              clear c14
              obtain ⟨ji15,hji15⟩:∃ j_:Int,(shr .u8 (rd l1 (ji10)) (ji13))=j_:=⟨_,rfl⟩
              replace H:(slipwayref01_Unpack.l1 k2 l0 l1 t251 x8_1 (wrap64 (x9_2 + 1)) x10_1 (Go.bits .or .u64 (IntKind.u64.wrap (x11_2 * 2)) (IntKind.u64.wrap (Go.bits .and .u8 (ji15) 1))) (wrap64 (x12_2 + 1)))=some (r1,r2):=by first|(rw [hji15] at H;exact H)|(simp only [hji15] at H ⊢;exact H)
              have hji15_:((rd l1 (ji10)) / 2 ^ min (ji13).toNat 8)=ji15:=hji15
              have hji15z:(ji13)≤8 → ((rd l1 (ji10)) / 2 ^ (ji13).toNat)=ji15:=shr_small hji15
              have H':=zm H
              clear H
              have p253:0≤(x10_1:Int):=za_
              have q253:x10_1 < (l0.length:Int):=za_
              obtain ⟨ad253,e253,hx253_0⟩:=Kd.at_int HR0.out x10_1 p253 q253
              cases e253
              replace hx253_0:=zhx HB hx253_0
              replace p253:=eq_true p253
              replace q253:=eq_true q253
              have p254:0≤((ji10):Int):=za_
              have q254:(ji10) < (l1.length:Int):=za_
              obtain ⟨ad254,e254,hx254_0⟩:=Kd.at_int HR1.out (ji10) p254 q254
              cases e254
              replace hx254_0:=zhx HB hx254_0
              replace p254:=eq_true p254
              replace q254:=eq_true q254
              go_wp2
              go_roundg k2
              case measure=>have:=HK1.out;have:=HK2.out;omega
              case rel=>exact ⟨(wrap64 (x9_2 + 1)),(Go.bits .or .u64 (IntKind.u64.wrap (x11_2 * 2)) (IntKind.u64.wrap (Go.bits .and .u8 (ji15) 1))),(wrap64 (x12_2 + 1)),zs_,(by first|rfl|(simp;done)|(simp only [← hji15] <;> (first|rfl|simp))|(simp [*];done)),zs_,H',⟨by have:=HK1.out;have:=HK2.out;omega⟩,⟨by (with_reducible repeat (first|apply zrA|apply zrN|apply zrD));exact HO_8.out⟩,⟨zb_⟩⟩
             ·rw [if_neg c14] at H
              exact absurd H (by simp)
            ·rw [if_neg c12] at H
             exact absurd H (by simp)
           ·rw [if_neg c11] at H
            exact absurd H (by simp)
          ·rw [if_neg c9] at H
           have c9b0:decide (x12_2 < (rd l0 x10_1))=false:=decide_eq_false c9
           clear c9
           by_cases c16:x8_1.length < 17592186044416
           ·rw [if_pos c16] at H
            have LMc16:=zm c16
            clear c16
            obtain ⟨y255,hy255⟩:∃ y_:List Int,y_=(x8_1 ++ [x11_2]):=⟨_,rfl⟩
            replace H:(slipwayref01_Unpack.l0 k2 l0 l1 t251 y255 x9_2 (wrap64 (x10_1 + 1)))=some (r1,r2):=by first|(rw [hy255];with_reducible exact H)|(have H2_:=(Option.bind_some _ _).symm.trans H;rw [hy255];with_reducible exact H2_)|(have H2_:=(Option.bind_some _ _).symm.trans H;with_reducible exact H2_)|with_reducible exact H|(rw [hy255];exact H)|exact H
            have Ny255:=zm hy255
            clear hy255
            have H':=zm H
            clear H
            have p253:0≤(x10_1:Int):=za_
            have q253:x10_1 < (l0.length:Int):=za_
            obtain ⟨ad253,e253,hx253_0⟩:=Kd.at_int HR0.out x10_1 p253 q253
            cases e253
            replace hx253_0:=zhx HB hx253_0
            replace p253:=eq_true p253
            replace q253:=eq_true q253
            go_wp2_with (first|((with_reducible refine gate_builtin (b:=.append) (xs:=#[.tmp 56,.tmp 58]) rfl ?_);at_builtin;refine Kd.R_append (Kd.int .u64) (w0:=w) w.heap.size rfl (.tmp 56) (.tmp 58) 64 58 (.int .u64 0) 8 rfl Try.underlying64 info58 rfl (by decide) (by omega) u8 x8_1 x11_2 [.int .u64 x11_2] (fun _=>True) (fun _=>False) rfl rfl ?aP (fun _ hk=>hk.elim) ?aF ?aO ?aB ?aS ?aL ?_;(case aP=>exact rfl);(case aB=>exact (zb_));(case aF=>exact (fun _ _=>trivial));(case aO=>exact (by (with_reducible repeat (first|apply zrA|apply zrN|apply zrD));exact HO_8.out));(case aS=>exact (below_size (zb_)));(case aL=>have:=LMc16.out;omega);intro v256 w17 ho hb hg hat;rw [← Ny255.out] at ho;have n0_:=zm (hb);have n1_:=zm (ho);clear HB HO_8;have HB:=n0_;have HO257:=n1_;clear n0_ n1_;clear ho hb hg hat))
            go_roundg k2
            case measure=>have:=HK1.out;have:=HK2.out;omega
            case rel=>exact ⟨(y255),(x9_2),(wrap64 (x10_1 + 1)),zs_,zs_,H',⟨by have:=HK1.out;have:=HK2.out;omega⟩,⟨by (with_reducible repeat (first|apply zrA|apply zrN|apply zrD));exact HO257.out⟩,⟨zb_⟩⟩
           ·rw [if_neg c16] at H
            exact absurd H (by simp)
         ·rw [if_neg c8] at H
          exact absurd H (by simp)
        ·rw [if_neg c7] at H
         exact absurd H (by simp)
     ·rw [if_neg c6] at H
      have c6b0:decide (x10_1 < (l0.length:Int))=false:=decide_eq_false c6
      clear c6
      have H':=zm H
      clear H
      go_wp2
      go_loopg [9] k1 (fun kq v9 w'=>∃ (x9_2:Int),v9=.int .i64 x9_2∧Aside0 (slipwayref01_Unpack.l2 kq l1 t251 x8_1 x9_2=some (r1,r2))∧Aside0 (kq≤k1)∧Aside0 (Kd.R (Kd.int .u64) 58 w' w.heap.size (fun _=>True) u8 x8_1)∧Aside0 (Below w.heap.size w w'))
      case atStart=>exact ⟨(x9_1),zs_,H',⟨Nat.le_refl _⟩,⟨by (with_reducible repeat (first|apply zrA|apply zrN|apply zrD));exact HO_8.out⟩,⟨zb_⟩⟩
      case round =>
       clear H'
       try clear c1
       try clear p2
       try clear q2
       try clear hx2
       try clear c4
       try clear c4b0
       try clear c4b1
       try clear c5
       try clear c5b0
       try clear c5b1
       try clear c6
       try clear c6b0
       try clear p6
       try clear c7
       try clear c7b0
       try clear c8
       try clear c8b0
       try clear c9
       try clear c9b0
       try clear c11
       try clear c11b0
       try clear c12
       try clear c12b0
       try clear c14
       try clear c14b0
       try clear c14b1
       try clear c16
       try clear hx253_0
       try clear hx254_0
       try clear p2
       try clear p253
       try clear p254
       try clear q253
       try clear q254
       obtain ⟨x9_2,rfl,HA,HK2,HO_8,HB⟩:=hrel
       cases gk with
       | zero=>exact absurd HA.out (by simp [slipwayref01_Unpack.l2])
       | succ k2 =>
        have H:=HA.out
        clear HA
        simp only [slipwayref01_Unpack.l2] at H
        by_cases c18:x9_2 < (wrap64 (8 * t251))
        ·rw [if_pos c18] at H
         have c18b0:decide (x9_2 < (wrap64 (8 * t251)))=true:=decide_eq_true c18
         clear c18
         obtain ⟨ji19,hji19⟩:∃ j_:Int,(wrap64 (Int.tdiv x9_2 8))=j_:=⟨_,rfl⟩
         replace H:(if 0≤(ji19) then (if (ji19) < (l1.length:Int) then (if 0≤(IntKind.u64.wrap (wrap64 (7 - (Int.tmod x9_2 8)))) then (if (Go.bits .and .u8 (shr .u8 (rd l1 (ji19)) (IntKind.u64.wrap (wrap64 (7 - (Int.tmod x9_2 8))))) 1)=0 then (slipwayref01_Unpack.l2 k2 l1 t251 x8_1 (wrap64 (x9_2 + 1))) else (some (([]:List Int),1))) else (none)) else (none)) else (none))=some (r1,r2):=by first|(rw [hji19] at H;exact H)|(simp only [hji19] at H ⊢;exact H)
         have hji19w:(IntKind.i64.wrap (Int.tdiv x9_2 8))=ji19:=(i64_w _).trans hji19
         by_cases c20:0≤(ji19)
         ·rw [if_pos c20] at H
          have c20b0:decide (0≤(ji19))=true:=decide_eq_true c20
          clear c20
          by_cases c21:(ji19) < (l1.length:Int)
          ·rw [if_pos c21] at H
           have c21b0:decide ((ji19) < (l1.length:Int))=true:=decide_eq_true c21
           clear c21
           obtain ⟨ji22,hji22⟩:∃ j_:Int,(IntKind.u64.wrap (wrap64 (7 - (Int.tmod x9_2 8))))=j_:=⟨_,rfl⟩
           replace H:(if 0≤(ji22) then (if (Go.bits .and .u8 (shr .u8 (rd l1 (ji19)) (ji22)) 1)=0 then (slipwayref01_Unpack.l2 k2 l1 t251 x8_1 (wrap64 (x9_2 + 1))) else (some (([]:List Int),1))) else (none))=some (r1,r2):=by first|(rw [hji22] at H;exact H)|(simp only [hji22] at H ⊢;exact H)
           by_cases c23:0≤(ji22)
           ·rw [if_pos c23] at H
            have c23b0:=eq_true c23
            have c23b1:decide (0≤(ji22))=true:=decide_eq_true c23
            clear c23
            obtain ⟨ji24,hji24⟩:∃ j_:Int,(shr .u8 (rd l1 (ji19)) (ji22))=j_:=⟨_,rfl⟩
            replace H:(if (Go.bits .and .u8 (ji24) 1)=0 then (slipwayref01_Unpack.l2 k2 l1 t251 x8_1 (wrap64 (x9_2 + 1))) else (some (([]:List Int),1)))=some (r1,r2):=by first|(rw [hji24] at H;exact H)|(simp only [hji24] at H ⊢;exact H)
            have hji24_:((rd l1 (ji19)) / 2 ^ min (ji22).toNat 8)=ji24:=hji24
            have hji24z:(ji22)≤8 → ((rd l1 (ji19)) / 2 ^ (ji22).toNat)=ji24:=shr_small hji24
            by_cases c25:(Go.bits .and .u8 (ji24) 1)=0
            ·rw [if_pos c25] at H
             have c25b0:((Go.bits .and .u8 (ji24) 1) == 0)=true:=beq_iff_eq.mpr c25
             have c25b1:((Go.bits .and .u8 (ji24) 1) != 0)=false:=bne_eq_false_iff_eq.mpr c25
             clear c25
             have H':=zm H
             clear H
             have p258:0≤((ji19):Int):=za_
             have q258:(ji19) < (l1.length:Int):=za_
             obtain ⟨ad258,e258,hx258_0⟩:=Kd.at_int HR1.out (ji19) p258 q258
             cases e258
             replace hx258_0:=zhx HB hx258_0
             replace p258:=eq_true p258
             replace q258:=eq_true q258
             go_wp2
             go_roundg k2
             case measure=>have:=HK1.out;have:=HK2.out;omega
             case rel=>exact ⟨(wrap64 (x9_2 + 1)),zs_,H',⟨by have:=HK1.out;have:=HK2.out;omega⟩,⟨by (with_reducible repeat (first|apply zrA|apply zrN|apply zrD));exact HO_8.out⟩,⟨zb_⟩⟩
            ·rw [if_neg c25] at H
             have c25b0:((Go.bits .and .u8 (ji24) 1) == 0)=false:=beq_eq_false_iff_ne.mpr c25
             have c25b1:((Go.bits .and .u8 (ji24) 1) != 0)=true:=bne_iff_ne.mpr c25
             simp only [Option.some.injEq,Prod.mk.injEq] at H
             obtain ⟨rfl,rfl⟩:=H
             have p258:0≤((ji19):Int):=za_
             have q258:(ji19) < (l1.length:Int):=za_
             obtain ⟨ad258,e258,hx258_0⟩:=Kd.at_int HR1.out (ji19) p258 q258
             cases e258
             replace hx258_0:=zhx HB hx258_0
             replace p258:=eq_true p258
             replace q258:=eq_true q258
             go_wp2
             go_ret2
             exact ⟨_,by first|rfl|(simp [errW_none,errW_some] <;> rfl)|(simp only [← hji19,← hji22,← hji24];first|rfl|(simp [errW_none,errW_some] <;> rfl))|(simp [*,errW_none,errW_some] <;> rfl),zr_,zb_⟩
           ·rw [if_neg c23] at H
            exact absurd H (by simp)
          ·rw [if_neg c21] at H
           exact absurd H (by simp)
         ·rw [if_neg c20] at H
          exact absurd H (by simp)
        ·rw [if_neg c18] at H
         have c18b0:decide (x9_2 < (wrap64 (8 * t251)))=false:=decide_eq_false c18
         clear c18
         simp only [Option.some.injEq,Prod.mk.injEq] at H
         obtain ⟨rfl,rfl⟩:=H
         go_wp2
         go_ret2
         exact ⟨_,ze_,by (with_reducible repeat (first|apply zrA|apply zrN|apply zrD));exact HO_8.out,zb_⟩
  ·rw [if_neg c5] at H
   have c5b0:((l1.length:Int) == t251)=false:=beq_eq_false_iff_ne.mpr c5
   have c5b1:((l1.length:Int) != t251)=true:=bne_iff_ne.mpr c5
   simp only [Option.some.injEq,Prod.mk.injEq] at H
   obtain ⟨rfl,rfl⟩:=H
   go_enter Try.func43,Try.ntmps43
   go_wp2_with (first|((with_reducible refine gate_callee (f:=62) rfl ?_);refine goesL_ (some 15) rfl rfl Try.func62 (by kernel_rfl) rfl #[.slice A0 l0.length c0] rfl (by (try simp only [List.map_toArray,List.map_cons,List.map_nil]);first|done|rfl|(simp only [List.length_drop,List.length_take];rfl)) ?_;(with_reducible refine (slipwayref01_Width.calls k _ _ l0 t251 t252 _ ?side1 ?side2 A3.out).mono ?_);(case side1=>repeat (first|exact HR0.out|(with_reducible refine Kd.C_alloc ?_ _)|(with_reducible refine Kd.C_drewN ?_ _)|(with_reducible refine Kd.C_drew ?_)));(case side2=>exact HC0.out);rintro e w' ⟨rfl,⟨nd,rfl⟩⟩;refine ⟨_,rfl,?_⟩))
   go_ret2
   exact ⟨_,ze_,zr_,zb_⟩
 ·rw [if_neg c4] at H
  have c4b0:(t252 == 0)=false:=beq_eq_false_iff_ne.mpr c4
  have c4b1:(t252 != 0)=true:=bne_iff_ne.mpr c4
  simp only [Option.some.injEq,Prod.mk.injEq] at H
  obtain ⟨rfl,rfl⟩:=H
  go_enter Try.func43,Try.ntmps43
  go_wp2_with (first|((with_reducible refine gate_callee (f:=62) rfl ?_);refine goesL_ (some 15) rfl rfl Try.func62 (by kernel_rfl) rfl #[.slice A0 l0.length c0] rfl (by (try simp only [List.map_toArray,List.map_cons,List.map_nil]);first|done|rfl|(simp only [List.length_drop,List.length_take];rfl)) ?_;(with_reducible refine (slipwayref01_Width.calls k _ _ l0 t251 t252 _ ?side1 ?side2 A3.out).mono ?_);(case side1=>repeat (first|exact HR0.out|(with_reducible refine Kd.C_alloc ?_ _)|(with_reducible refine Kd.C_drewN ?_ _)|(with_reducible refine Kd.C_drew ?_)));(case side2=>exact HC0.out);rintro e w' ⟨rfl,⟨nd,rfl⟩⟩;refine ⟨_,rfl,?_⟩))
  go_ret2
  exact ⟨_,ze_,zr_,zb_⟩
end Go.Proofs.Ytdohpjjggjehfaa.Print
end
