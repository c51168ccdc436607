/- Texts of the proof of PageBack, part 22. -/
import Derived.Test.YtdohpjjggjehfaaPageBackMA
import Derived.Test.YtdohpjjggjehfaaPageBackM20
import Derived.Test.YtdohpjjggjehfaaPageBackM13
import Derived.Test.YtdohpjjggjehfaaPageBackM21
import Derived.Test.YtdohpjjggjehfaaPageBackM15
section
namespace Go.Proofs.Ytdohpjjggjehfaa.Print
open Go.RowKit Go.Proofs.YtdohpjjggjehfaaW.PrintWords Go.Proofs.YtdohpjjggjehfaaW.PrintLast Go.Proofs.YtdohpjjggjehfaaW.PrintMore
attribute [local go_sem] max2_int min2_int max_two min_two max_three min_three max_four min_four   -- for this text's walks alone
attribute [local go_sem ↓] Go.Proofs.Ytdohpjjggjehfaa.Sem.isSome_setCell
attribute [local go_sem] Go.Instr.field Go.asAgg
set_option linter.unusedVariables false
set_option linter.unusedSimpArgs false
-- CX
-- PG
def pg_of (d h:List Int):List Int:=splice (splice pz 0 (d.take 256)) 256 (h.take 32)
theorem pg_of_len (d h:List Int):(pg_of d h).length=288:=by
 unfold pg_of
 rw [splice_len,splice_len,pz_len]
 ·rw [pz_len,List.length_take];omega
 ·rw [splice_len,pz_len,List.length_take]
  ·omega
  ·rw [pz_len,List.length_take];omega
def page_Encode.f (k:Nat) (a0_0:Int) (a0_1:Int) (a0_2:Int) (a0_3:Int) (l1:List Int):Option (List Int × Int) :=
 (page_Check.f k a0_0 a0_1 a0_2 a0_3).bind fun e=>if e=0 then (if l1.length≤256 then
 (seal_Pack.f k [8,8,32,64,64] [IntKind.u64.wrap a0_0,0,IntKind.u64.wrap a0_1,IntKind.u64.wrap a0_2,IntKind.u64.wrap a0_3]).bind fun h=>if h.2=0 then
 (slices_Concat_byte_byte.f k [((pg_of l1 h.1).drop 0).take 256,((pg_of l1 h.1).drop 256).take 28]).bind fun b =>
 (seal_Seal.f k b).bind fun s=>if s.2=0 then if 4≤s.1.length then if s.1.length≤9223372036854775807 then some (splice (pg_of l1 h.1) 284 ((s.1.drop (s.1.length - 4)).take 4),0) else none else none
 else some (pz,s.2) else some (pz,h.2) else some (pz,3)) else some (pz,e)
theorem lo4 {n:Nat} (h:4≤n) (hn:n≤9223372036854775807):wrap64 ((n:Int) - 4)=((n - 4:Nat):Int):=by unfold wrap64;omega
theorem p4_len (l1 hd sb:List Int) (h:4≤sb.length):(splice (pg_of l1 hd) 284 ((sb.drop (sb.length - 4)).take 4)).length=288:=by
 rw [splice_len,pg_of_len]
 rw [pg_of_len,List.length_take,List.length_drop]
 omega
set_option maxHeartbeats 4000000 in
set_option maxRecDepth 100000 in
theorem page_Encode.calls (k:Nat) (a0_0:Int) (a0_1:Int) (a0_2:Int) (a0_3:Int) (A1:Option Addr) (c1:Nat) (l1:List Int) (r1:List Int) (r2:Int) (w:World) (hr1:Kd.C (Kd.int .u8) w A1 l1.length l1) (hc1:l1.length≤c1) (h:page_Encode.f k a0_0 a0_1 a0_2 a0_3 l1=some (r1,r2)) :
  Calls Try.prog 10 #[.agg #[.int .i64 a0_0,.int .i64 a0_1,.int .i64 a0_2,.int .i64 a0_3],.slice A1 l1.length c1] w fun e w'=>e=.returned (.tuple #[.agg (pc r1),.int .i64 r2])∧Below w.heap.size w w':=by
 have hu29:=Try.underlying29
 have hu23:=Try.underlying23
 have H:page_Encode.f k a0_0 a0_1 a0_2 a0_3 l1=some (r1,r2):=h
 clear h
 have hh_:=zm hr1;clear hr1;have hr1:=hh_;clear hh_;have hh_:=zm hc1;clear hc1;have hc1:=hh_;clear hh_
 unfold page_Encode.f at H
 have hg_:=Option.bind_eq_some_iff.mp H;clear H;obtain ⟨ec,F0,H⟩:=hg_;have hh_:=zm F0;clear F0;have F0:=hh_;clear hh_;(try dsimp only at H)
 by_cases hz:ec=0
 rotate_left
 ·rw [if_neg hz] at H
  simp only [Option.some.injEq,Prod.mk.injEq] at H
  obtain ⟨rfl,rfl⟩:=H
  have hz0:(ec != 0)=true:=bne_iff_ne.mpr hz
  clear hz
  go_enter Try.func10,Try.ntmps10
  go_wp2_with (first|((with_reducible refine gate_ (.box 23 _) rfl ?_);refine box_event rfl rfl (cs:=_) (t:=23) (by first|(go_simp;done)|(go_simp;rfl)) ?_;rintro g2 hg w1 hbk hb;skip;clear hg;have hh_:=zm hbk;clear hbk;have hbk:=hh_;clear hh_;have hh_:=zm hb;clear hb;have hb:=hh_;clear hh_)|((with_reducible refine gate_dst (N:=4) rfl ?_);(with_reducible refine gate_ (.alloc 29) rfl ?_);refine box_event rfl rfl (pg_new rfl) ?_;rintro g4 hg w1 hbk hb;have hge4:Aside0 (w.heap.size≤g4):=⟨by rw [hg];exact below_size (by repeat (first|exact Below.refl _ _|with_reducible apply zlN|with_reducible apply zlA|refine below_step ?_ (Aside0.out (by assumption))))⟩;clear hg;have hh_:=zm hbk;clear hbk;have hbk:=hh_;clear hh_;have hh_:=zm hb;clear hb;have hb:=hh_;clear hh_)|((with_reducible refine gate_ (.load 23 _) rfl ?_);refine Kd.event_run rfl (by apply pg_h23;exact rfl;exact rfl;exact (zbB (Aside0.out (by assumption)) (by repeat (first|exact Below.refl _ _|with_reducible apply zlN|with_reducible apply zlA|refine below_step ?_ (Aside0.out (by assumption)))))) ?_)|(go_at_call 12;refine (page_Check.calls k _ _ _ _ _ _ F0.out).mono ?_;rintro e wc ⟨rfl,hb⟩;have hh_:=zm hb;clear hb;have hb:=hh_;clear hh_)|((with_reducible refine gate_ (.build 29 #[]) rfl ?_);refine Kd.event_run rfl (pg_build rfl) ?_)|((with_reducible refine gate_ (.store 29 (.tmp 4) _) rfl ?_);refine pg_put (g:=g4) (q:=pz) rfl rfl (pg_store rfl rfl rfl (zbB (Aside0.out (by assumption)) (by repeat (first|exact Below.refl _ _|with_reducible apply zlN|with_reducible apply zlA|refine below_step ?_ (Aside0.out (by assumption))))) pz_len pz_len) (zbB (Aside0.out (by assumption)) (by repeat (first|exact Below.refl _ _|with_reducible apply zlN|with_reducible apply zlA|refine below_step ?_ (Aside0.out (by assumption))))) ?_;rintro w2 hq hfar hbel;have hb2:Aside0 (Below w.heap.size w w2):=⟨hbel _ _ (by repeat (first|exact Below.refl _ _|with_reducible apply zlN|with_reducible apply zlA|refine below_step ?_ (Aside0.out (by assumption)))) hge4.out⟩;clear hfar hbel;have hh_:=zm hq;clear hq;have hq:=hh_;clear hh_))
  refine bodyPost_ret (results_ct rfl _ _ g4 29 (pc pz) (0,0) _ rfl hq.out Try.underlying29 rfl (pg_size pz_len)) rfl ?_
  exact ⟨rfl,hb2.out⟩
 subst hz
 rw [if_pos rfl] at H
 by_cases hl:l1.length≤256
 rotate_left
 ·rw [if_neg hl] at H
  simp only [Option.some.injEq,Prod.mk.injEq] at H
  obtain ⟨rfl,rfl⟩:=H
  have hl0:decide (256 < (l1.length:Int))=true:=decide_eq_true (by omega)
  clear hl
  go_enter Try.func10,Try.ntmps10
  go_wp2_with (first|((with_reducible refine gate_ (.box 23 _) rfl ?_);refine box_event rfl rfl (cs:=_) (t:=23) (by first|(go_simp;done)|(go_simp;rfl)) ?_;rintro g2 hg w1 hbk hb;skip;clear hg;have hh_:=zm hbk;clear hbk;have hbk:=hh_;clear hh_;have hh_:=zm hb;clear hb;have hb:=hh_;clear hh_)|((with_reducible refine gate_dst (N:=4) rfl ?_);(with_reducible refine gate_ (.alloc 29) rfl ?_);refine box_event rfl rfl (pg_new rfl) ?_;rintro g4 hg w1 hbk hb;have hge4:Aside0 (w.heap.size≤g4):=⟨by rw [hg];exact below_size (by repeat (first|exact Below.refl _ _|with_reducible apply zlN|with_reducible apply zlA|refine below_step ?_ (Aside0.out (by assumption))))⟩;clear hg;have hh_:=zm hbk;clear hbk;have hbk:=hh_;clear hh_;have hh_:=zm hb;clear hb;have hb:=hh_;clear hh_)|((with_reducible refine gate_ (.load 23 _) rfl ?_);refine Kd.event_run rfl (by apply pg_h23;exact rfl;exact rfl;exact (zbB (Aside0.out (by assumption)) (by repeat (first|exact Below.refl _ _|with_reducible apply zlN|with_reducible apply zlA|refine below_step ?_ (Aside0.out (by assumption)))))) ?_)|(go_at_call 12;refine (page_Check.calls k _ _ _ _ _ _ F0.out).mono ?_;rintro e wc ⟨rfl,hb⟩;have hh_:=zm hb;clear hb;have hb:=hh_;clear hh_)|((with_reducible refine gate_ (.build 29 #[]) rfl ?_);refine Kd.event_run rfl (pg_build rfl) ?_)|((with_reducible refine gate_ (.store 29 (.tmp 4) _) rfl ?_);refine pg_put (g:=g4) (q:=pz) rfl rfl (pg_store rfl rfl rfl (zbB (Aside0.out (by assumption)) (by repeat (first|exact Below.refl _ _|with_reducible apply zlN|with_reducible apply zlA|refine below_step ?_ (Aside0.out (by assumption))))) pz_len pz_len) (zbB (Aside0.out (by assumption)) (by repeat (first|exact Below.refl _ _|with_reducible apply zlN|with_reducible apply zlA|refine below_step ?_ (Aside0.out (by assumption))))) ?_;rintro w2 hq hfar hbel;have hb2:Aside0 (Below w.heap.size w w2):=⟨hbel _ _ (by repeat (first|exact Below.refl _ _|with_reducible apply zlN|with_reducible apply zlA|refine below_step ?_ (Aside0.out (by assumption)))) hge4.out⟩;clear hfar hbel;have hh_:=zm hq;clear hq;have hq:=hh_;clear hh_))
  refine bodyPost_ret (results_ct rfl _ _ g4 29 (pc pz) (0,0) _ rfl hq.out Try.underlying29 rfl (pg_size pz_len)) rfl ?_
  exact ⟨rfl,hb2.out⟩
 rw [if_pos hl] at H
 have hl0:decide (256 < (l1.length:Int))=false:=decide_eq_false (by omega)
 have hg_:=Option.bind_eq_some_iff.mp H;clear H;obtain ⟨⟨hd,he⟩,F1,H⟩:=hg_;have hh_:=zm F1;clear F1;have F1:=hh_;clear hh_;(try dsimp only at H)
 have hh_:=zm H;clear H;have H:=hh_;clear hh_;have hh_:=zm hl;clear hl;have hl:=hh_;clear hh_
 go_enter Try.func10,Try.ntmps10
 go_wp2_with (first|((with_reducible refine gate_ (.box 23 _) rfl ?_);refine box_event rfl rfl (cs:=_) (t:=23) (by first|(go_simp;done)|(go_simp;rfl)) ?_;rintro g2 hg w1 hbk hb;skip;clear hg;have hh_:=zm hbk;clear hbk;have hbk:=hh_;clear hh_;have hh_:=zm hb;clear hb;have hb:=hh_;clear hh_)|((with_reducible refine gate_dst (N:=4) rfl ?_);(with_reducible refine gate_ (.alloc 29) rfl ?_);refine box_event rfl rfl (pg_new rfl) ?_;rintro g4 hg w1 hbk hb;have hge4:Aside0 (w.heap.size≤g4):=⟨by rw [hg];exact below_size (by repeat (first|exact Below.refl _ _|with_reducible apply zlN|with_reducible apply zlA|refine below_step ?_ (Aside0.out (by assumption))))⟩;clear hg;have hh_:=zm hbk;clear hbk;have hbk:=hh_;clear hh_;have hh_:=zm hb;clear hb;have hb:=hh_;clear hh_)|((with_reducible refine gate_ (.load 23 _) rfl ?_);refine Kd.event_run rfl (by apply pg_h23;exact rfl;exact rfl;exact (zbB (Aside0.out (by assumption)) (by repeat (first|exact Below.refl _ _|with_reducible apply zlN|with_reducible apply zlA|refine below_step ?_ (Aside0.out (by assumption)))))) ?_)|(go_at_call 12;refine (page_Check.calls k _ _ _ _ _ _ F0.out).mono ?_;rintro e wc ⟨rfl,hb⟩;have hh_:=zm hb;clear hb;have hb:=hh_;clear hh_))
 refine Cw.dstart (by as_aux_lemma=>kernel_rfl) rfl (fun wd hb=>?_)
 have hh_:=zm hb;clear hb;have hb:=hh_;clear hh_
 refine zpu 1 ?_
 refine Cw.dtk (i:=2) (v:=?_) (a':=?_) (by simp only [List.getElem?_toArray,List.getElem?_cons_succ,List.getElem?_cons_zero];rfl) rfl (by as_aux_lemma=>kernel_rfl) (by rfl) (by exact fun _ _ _ h=>h) ?_ (by repeat (first|exact Below.refl _ _|with_reducible apply zlN|with_reducible apply zlA|refine below_step ?_ (Aside0.out (by assumption)))) ?_ ?_
 rotate_left
 ·intro w' hs_
  have hs:=zm hs_
  clear hs_
  apply Eq.trans
  ·apply pg_c3
   ·rfl
   ·rfl
   ·exact (zbB (Aside0.out (by assumption)) (by repeat (first|exact Below.refl _ _|with_reducible apply zlN|with_reducible apply zlA|refine below_step ?_ (Aside0.out (by assumption)))))
   ·rfl
  ·rfl
 rotate_left
 ·simp only [Act.put,List.setIfInBounds_toArray,List.set_cons_zero,List.set_cons_succ,i64_w,i32_w]
  rfl
 refine zpu 3 ?_
 refine zpu 4 ?_
 refine Cw.dtk (i:=5) (v:=?_) (a':=?_) (by simp only [List.getElem?_toArray,List.getElem?_cons_succ,List.getElem?_cons_zero];rfl) rfl (by as_aux_lemma=>kernel_rfl) (by rfl) (by exact fun _ _ _ h=>h) ?_ (by repeat (first|exact Below.refl _ _|with_reducible apply zlN|with_reducible apply zlA|refine below_step ?_ (Aside0.out (by assumption)))) ?_ ?_
 rotate_left
 ·intro w' hs_
  have hs:=zm hs_
  clear hs_
  apply Eq.trans
  ·apply pg_c3
   ·rfl
   ·rfl
   ·exact (zbB (Aside0.out (by assumption)) (by repeat (first|exact Below.refl _ _|with_reducible apply zlN|with_reducible apply zlA|refine below_step ?_ (Aside0.out (by assumption)))))
   ·rfl
  ·rfl
 rotate_left
 ·simp only [Act.put,List.setIfInBounds_toArray,List.set_cons_zero,List.set_cons_succ,i64_w,i32_w]
  rfl
 refine zpu 6 ?_
 refine zpu 7 ?_
 refine Cw.dtk (i:=8) (v:=?_) (a':=?_) (by simp only [List.getElem?_toArray,List.getElem?_cons_succ,List.getElem?_cons_zero];rfl) rfl (by as_aux_lemma=>kernel_rfl) (by rfl) (by exact fun _ _ _ h=>h) ?_ (by repeat (first|exact Below.refl _ _|with_reducible apply zlN|with_reducible apply zlA|refine below_step ?_ (Aside0.out (by assumption)))) ?_ ?_
 rotate_left
 ·intro w' hs_
  have hs:=zm hs_
  clear hs_
  apply Eq.trans
  ·apply pg_c2
   ·rfl
   ·rfl
   ·exact (zbB (Aside0.out (by assumption)) (by repeat (first|exact Below.refl _ _|with_reducible apply zlN|with_reducible apply zlA|refine below_step ?_ (Aside0.out (by assumption)))))
   ·rfl
  ·rfl
 rotate_left
 ·simp only [Act.put,List.setIfInBounds_toArray,List.set_cons_zero,List.set_cons_succ,i64_w,i32_w]
  rfl
 refine zpu 9 ?_
 refine zpu 10 ?_
 refine Cw.dtk (i:=11) (v:=?_) (a':=?_) (by simp only [List.getElem?_toArray,List.getElem?_cons_succ,List.getElem?_cons_zero];rfl) rfl (by as_aux_lemma=>kernel_rfl) (by rfl) (by exact fun _ _ _ h=>h) ?_ (by repeat (first|exact Below.refl _ _|with_reducible apply zlN|with_reducible apply zlA|refine below_step ?_ (Aside0.out (by assumption)))) ?_ ?_
 rotate_left
 ·intro w' hs_
  have hs:=zm hs_
  clear hs_
  apply Eq.trans
  ·apply pg_c2
   ·rfl
   ·rfl
   ·exact (zbB (Aside0.out (by assumption)) (by repeat (first|exact Below.refl _ _|with_reducible apply zlN|with_reducible apply zlA|refine below_step ?_ (Aside0.out (by assumption)))))
   ·rfl
  ·rfl
 rotate_left
 ·simp only [Act.put,List.setIfInBounds_toArray,List.set_cons_zero,List.set_cons_succ,i64_w,i32_w]
  rfl
 refine zpu 12 ?_
 refine zboth 0 13 22 35 (fun v W=>Aside0 (Kd.R (Kd.int .i64) 3 W wd.heap.size (fun _=>True) v [8,8,32,64,64])) (fun v W=>∃ g,v=.slice (some ⟨g,0,none⟩) 5 5∧Aside0 (W.heap[g]?=some (.cells #[.int .u64 (IntKind.u64.wrap a0_0),.int .u64 0,.int .u64 (IntKind.u64.wrap a0_1),.int .u64 (IntKind.u64.wrap a0_2),.int .u64 (IntKind.u64.wrap a0_3)] 58 (0,0)))) (by repeat (first|exact Below.refl _ _|with_reducible apply zlN|with_reducible apply zlA|refine below_step ?_ (Aside0.out (by assumption)))) ?_ ?_ ?_
 ·intro a' W K hS _ hk
  have hS:=zm (hS:Below wd.heap.size wd W)
  refine zgo Try.func30 #[] ?_
  refine (page_widths.calls [8,8,32,64,64] _ rfl).mono ?_
  rintro e wJ ⟨vJ,rfl,hoJ,hb⟩
  have hh_:=zm hoJ;clear hoJ;have hoJ:=hh_;clear hh_;have hh_:=zm hb;clear hb;have hb:=hh_;clear hh_
  refine ⟨_,rfl,hk _ _ (by repeat (first|exact Below.refl _ _|with_reducible apply zlN|with_reducible apply zlA|refine below_step ?_ (Aside0.out (by assumption)))) ⟨Kd.R_lower hoJ.out (below_size (by repeat (first|exact Below.refl _ _|with_reducible apply zlN|with_reducible apply zlA|refine below_step ?_ (Aside0.out (by assumption)))))⟩ ?_⟩
  rintro u ⟨g,rfl,hbk⟩
  exact ⟨g,rfl,⟨(zbB (Aside0.out (by assumption)) (by repeat (first|exact Below.refl _ _|with_reducible apply zlN|with_reducible apply zlA|refine below_step ?_ (Aside0.out (by assumption)))))⟩⟩
 ·intro a' W K hS ha hk
  have hS:=zm (hS:Below wd.heap.size wd W)
  have hk2:∀ W2,W2=W.alloc (.cells #[.int .u64 (IntKind.u64.wrap a0_0),.int .u64 0,.int .u64 (IntKind.u64.wrap a0_1),.int .u64 (IntKind.u64.wrap a0_2),.int .u64 (IntKind.u64.wrap a0_3)] 58 (0,0)) → K (a'.put (some 35) (.slice (some ⟨W.heap.size,0,none⟩) 5 5)) W2:=by
   intro W2 hW2
   have hb:=zm (show Below W.heap.size W W2 from by rw [hW2];exact zlA (Below.refl _ _) _)
   refine hk _ _ (by repeat (first|exact Below.refl _ _|with_reducible apply zlN|with_reducible apply zlA|refine below_step ?_ (Aside0.out (by assumption)))) ⟨W.heap.size,rfl,⟨by rw [hW2];exact blk_new W _⟩⟩ ?_
   intro u hu
   exact ⟨Kd.R_below hu.out (by repeat (first|exact Below.refl _ _|with_reducible apply zlN|with_reducible apply zlA|refine below_step ?_ (Aside0.out (by assumption))))⟩
  rcases ha with rfl|⟨u,rfl⟩
  ·exact value_ (by rfl) rfl (pg_lit5 rfl rfl rfl rfl rfl rfl) (hk2 _ rfl)
  ·exact value_ (by rfl) rfl (pg_lit5 rfl rfl rfl rfl rfl rfl) (hk2 _ rfl)
 rintro vw u W' hS hoJ ⟨gl,rfl,hbl⟩
 have hS:=zm (hS:Below wd.heap.size wd W')
 refine norm_ (a':=?_) ?_ ?_
 rotate_left
 ·simp only [Act.put,List.setIfInBounds_toArray,List.set_cons_zero,List.set_cons_succ,i64_w,i32_w]
  rfl
 obtain ⟨AJ,cJ,rfl⟩:=Kd.R_slice hoJ.out
 have hcJ:=zm (Kd.R_reads' hoJ.out).2.1
 have hrJ:=zm (Kd.R_reads' hoJ.out).2.2
 refine Cw.done1 (i:=14) (N:=some 36) (by simp only [List.getElem?_toArray,List.getElem?_cons_succ,List.getElem?_cons_zero];rfl) rfl (by as_aux_lemma=>kernel_rfl) (fun K hK=>?_)
 refine goes_ Try.func29 (by as_aux_lemma=>kernel_rfl) rfl _ (by rfl) rfl rfl (by go_simp;rfl) ?_
 refine (seal_Pack.calls k AJ cJ [8,8,32,64,64] _ 5 [IntKind.u64.wrap a0_0,0,IntKind.u64.wrap a0_1,IntKind.u64.wrap a0_2,IntKind.u64.wrap a0_3] hd he _ (Kd.C_below (Aside0.out (by assumption)) (by repeat (first|exact Below.refl _ _|with_reducible apply zlN|with_reducible apply zlA|refine below_step ?_ (Aside0.out (by assumption))))) hcJ.out (Cw.C_ints (zbB (Aside0.out (by assumption)) (by repeat (first|exact Below.refl _ _|with_reducible apply zlN|with_reducible apply zlA|refine below_step ?_ (Aside0.out (by assumption))))) rfl (by simp)) (by simp) F1.out).mono ?_
 rintro e wa ⟨v,rfl,ho,hb⟩
 obtain ⟨Ah,ch,rfl⟩:=Kd.R_slice ho
 have hrh:=zm (Kd.R_reads' ho).2.2
 clear ho
 have hh_:=zm hb;clear hb;have hb:=hh_;clear hh_
 refine ⟨_,rfl,?_⟩
 refine hK.out _ _ (by repeat (first|exact Below.refl _ _|with_reducible apply zlN|with_reducible apply zlA|refine below_step ?_ (Aside0.out (by assumption)))) (fun _=>?_)
 clear hK K
 refine znm (some 36) ?_
 refine zpu 15 ?_
 refine zpu 16 ?_
 refine zpu 17 ?_
 refine zpu 18 ?_
 refine zpu 19 ?_
 refine zdo ?_
 replace H:=H.out
 by_cases hz:he=0
 rotate_left
 ·rw [if_neg hz] at H
  simp only [Option.some.injEq,Prod.mk.injEq] at H
  obtain ⟨rfl,rfl⟩:=H
  have hz0:(he != 0)=true:=bne_iff_ne.mpr hz
  clear hz
  go_wp2_with (first|((with_reducible refine gate_ (.build 29 #[]) rfl ?_);refine Kd.event_run rfl (pg_build rfl) ?_)|((with_reducible refine gate_ (.store 29 (.tmp 4) _) rfl ?_);refine pg_put (g:=g4) (q:=pz) rfl rfl (pg_store rfl rfl rfl (zbB (Aside0.out (by assumption)) (by repeat (first|exact Below.refl _ _|with_reducible apply zlN|with_reducible apply zlA|refine below_step ?_ (Aside0.out (by assumption))))) pz_len pz_len) (zbB (Aside0.out (by assumption)) (by repeat (first|exact Below.refl _ _|with_reducible apply zlN|with_reducible apply zlA|refine below_step ?_ (Aside0.out (by assumption))))) ?_;rintro w2 hq hfar hbel;have hb2:Aside0 (Below w.heap.size w w2):=⟨hbel _ _ (by repeat (first|exact Below.refl _ _|with_reducible apply zlN|with_reducible apply zlA|refine below_step ?_ (Aside0.out (by assumption)))) hge4.out⟩;clear hfar hbel;have hh_:=zm hq;clear hq;have hq:=hh_;clear hh_))
  refine bodyPost_ret (results_ct rfl _ _ g4 29 (pc pz) (0,0) _ rfl hq.out Try.underlying29 rfl (pg_size pz_len)) rfl ?_
  exact ⟨rfl,hb2.out⟩
 subst hz
 rw [if_pos rfl] at H
 have hg_:=Option.bind_eq_some_iff.mp H;clear H;obtain ⟨b,F2,H⟩:=hg_;have hh_:=zm F2;clear F2;have F2:=hh_;clear hh_;(try dsimp only at H);have hg_:=Option.bind_eq_some_iff.mp H;clear H;obtain ⟨⟨sb,se⟩,F3,H⟩:=hg_;have hh_:=zm F3;clear F3;have F3:=hh_;clear hh_;(try dsimp only at H)
 have hh_:=zm H;clear H;have H:=hh_;clear hh_
 have hpl:=zm (pg_of_len l1 hd)
 go_wp2_with (first|((with_reducible refine gate_dst (N:=9) rfl ?_);(with_reducible refine gate_ (.alloc 29) rfl ?_);refine box_event rfl rfl (pg_new rfl) ?_;rintro g9 hg w1 hbk hb;have hge9:Aside0 (wa.heap.size≤g9):=⟨Nat.le_of_eq hg.symm⟩;clear hg;have hh_:=zm hbk;clear hbk;have hbk:=hh_;clear hh_;have hh_:=zm hb;clear hb;have hb:=hh_;clear hh_)|((with_reducible refine gate_builtin (b:=.copy) (xs:=#[.tmp 44,.tmp 45]) rfl ?_);refine pg_putv (g:=g9) rfl (pg_copy (p:=pz) (ys:=l1) rfl rfl rfl (Kd.C_below (Aside0.out (by assumption)) (by repeat (first|exact Below.refl _ _|with_reducible apply zlN|with_reducible apply zlA|refine below_step ?_ (Aside0.out (by assumption))))) (zbB (Aside0.out (by assumption)) (by repeat (first|exact Below.refl _ _|with_reducible apply zlN|with_reducible apply zlA|refine below_step ?_ (Aside0.out (by assumption))))) (by rw [pz_len];omega)) (zbB (Aside0.out (by assumption)) (by repeat (first|exact Below.refl _ _|with_reducible apply zlN|with_reducible apply zlA|refine below_step ?_ (Aside0.out (by assumption))))) ?_;rintro w2 hq hfar hbel;have hb2:Aside0 (Below wa.heap.size wa w2):=⟨hbel _ _ (by repeat (first|exact Below.refl _ _|with_reducible apply zlN|with_reducible apply zlA|refine below_step ?_ (Aside0.out (by assumption)))) hge9.out⟩;clear hfar hbel;have hh_:=zm hq;clear hq;have hq:=hh_;clear hh_)|((with_reducible refine gate_builtin (b:=.copy) (xs:=#[.tmp 48,.tmp 49]) rfl ?_);refine pg_putv (g:=g9) rfl (pg_copy (p:=(splice pz 0 (l1.take 256))) (ys:=hd) rfl rfl rfl (Kd.C_below (Aside0.out (by assumption)) (by repeat (first|exact Below.refl _ _|with_reducible apply zlN|with_reducible apply zlA|refine below_step ?_ (Aside0.out (by assumption))))) (zbB (Aside0.out (by assumption)) (by repeat (first|exact Below.refl _ _|with_reducible apply zlN|with_reducible apply zlA|refine below_step ?_ (Aside0.out (by assumption))))) (by rw [splice_len,pz_len];omega;rw [pz_len,List.length_take];omega)) (zbB (Aside0.out (by assumption)) (by repeat (first|exact Below.refl _ _|with_reducible apply zlN|with_reducible apply zlA|refine below_step ?_ (Aside0.out (by assumption))))) ?_;rintro w2 hq hfar hbel;have hb2:Aside0 (Below wa.heap.size wa w2):=⟨hbel _ _ (by repeat (first|exact Below.refl _ _|with_reducible apply zlN|with_reducible apply zlA|refine below_step ?_ (Aside0.out (by assumption)))) hge9.out⟩;clear hfar hbel;have hh_:=zm hq;clear hq;have hq:=hh_;clear hh_))
 have hq9:Aside0 (w2.heap[g9]?=some (.cells (pc (pg_of l1 hd)) 29 (0,0))):=hq
 clear hq
 refine Cw.dstart (by as_aux_lemma=>kernel_rfl) rfl (fun wd hb=>?_)
 have hh_:=zm hb;clear hb;have hb:=hh_;clear hh_
 refine zpu 0 ?_
 refine zpu 1 ?_
 refine zpu 2 ?_
 refine zpu 3 ?_
 refine Cw.done1 (i:=4) (N:=some 56) (by simp only [List.getElem?_toArray,List.getElem?_cons_succ,List.getElem?_cons_zero];rfl) rfl (by as_aux_lemma=>kernel_rfl) (fun K hK=>?_)
 refine Cw.dnew (fun g=>.slice (some ⟨g,0,none⟩) 2 2) (by rfl) rfl (by apply pg_lit2 <;> rfl) ?_
 rintro gz hg w1 hbk hb
 clear hg
 have hh_:=zm hbk;clear hbk;have hbk:=hh_;clear hh_;have hh_:=zm hb;clear hb;have hb:=hh_;clear hh_
 refine hK.out _ _ (by repeat (first|exact Below.refl _ _|with_reducible apply zlN|with_reducible apply zlA|refine below_step ?_ (Aside0.out (by assumption)))) (fun _=>?_)
 clear hK K
 refine znm (some 56) ?_
 refine Cw.done1 (i:=5) (N:=some 57) (by simp only [List.getElem?_toArray,List.getElem?_cons_succ,List.getElem?_cons_zero];rfl) rfl (by as_aux_lemma=>kernel_rfl) (fun K hK=>?_)
 refine goes_ Try.func32 (by as_aux_lemma=>kernel_rfl) rfl _ (by rfl) rfl rfl (by go_simp;rfl) ?_
 refine (slices_Concat_byte_byte.calls k (some ⟨gz,0,none⟩) 2 [((pg_of l1 hd).drop 0).take 256,((pg_of l1 hd).drop 256).take 28] b _ (pg_two (n0:=256) (n1:=28) (by rw [List.length_take,List.length_drop,hpl.out];rfl) (by rw [List.length_take,List.length_drop,hpl.out];rfl) (zbB (Aside0.out (by assumption)) (by repeat (first|exact Below.refl _ _|with_reducible apply zlN|with_reducible apply zlA|refine below_step ?_ (Aside0.out (by assumption))))) (pg_C (zbB (Aside0.out (by assumption)) (by repeat (first|exact Below.refl _ _|with_reducible apply zlN|with_reducible apply zlA|refine below_step ?_ (Aside0.out (by assumption))))) (by rw [hpl.out];decide) hpl.out) (by decide) (pg_C (zbB (Aside0.out (by assumption)) (by repeat (first|exact Below.refl _ _|with_reducible apply zlN|with_reducible apply zlA|refine below_step ?_ (Aside0.out (by assumption))))) (by rw [hpl.out];decide) hpl.out) (by decide)) (by simp) F2.out).mono ?_
 rintro e w1 ⟨vb,rfl,ho,hb⟩
 obtain ⟨Ab,cbb,rfl⟩:=Kd.R_slice ho
 have hh_:=zm ho;clear ho;have ho:=hh_;clear hh_;have hh_:=zm hb;clear hb;have hb:=hh_;clear hh_
 refine ⟨_,rfl,?_⟩
 refine hK.out _ _ (by repeat (first|exact Below.refl _ _|with_reducible apply zlN|with_reducible apply zlA|refine below_step ?_ (Aside0.out (by assumption)))) (fun _=>?_)
 clear hK K
 refine znm (some 57) ?_
 refine Cw.done1 (i:=6) (N:=some 58) (by simp only [List.getElem?_toArray,List.getElem?_cons_succ,List.getElem?_cons_zero];rfl) rfl (by as_aux_lemma=>kernel_rfl) (fun K hK=>?_)
 refine goes_ Try.func31 (by as_aux_lemma=>kernel_rfl) rfl _ (by rfl) rfl rfl (by go_simp;rfl) ?_
 refine (seal_Seal.calls k (fun _=>True) Ab cbb b sb se _ (Kd.R_V ho.out) F3.out).mono ?_
 rintro e w1 ⟨vs,rfl,hos,hb⟩
 obtain ⟨As,cs,rfl⟩:=Kd.R_slice hos
 have hrs:=zm (Kd.R_reads' hos).2.2
 have hcs:=zm (Kd.R_reads' hos).2.1
 clear hos ho
 have hh_:=zm hb;clear hb;have hb:=hh_;clear hh_
 refine ⟨_,rfl,?_⟩
 refine hK.out _ _ (by repeat (first|exact Below.refl _ _|with_reducible apply zlN|with_reducible apply zlA|refine below_step ?_ (Aside0.out (by assumption)))) (fun _=>?_)
 clear hK K
 refine znm (some 58) ?_
 refine zpu 7 ?_
 refine zpu 8 ?_
 refine zpu 9 ?_
 refine zpu 10 ?_
 refine zpu 11 ?_
 refine zdo ?_
 replace H:=H.out
 by_cases hz:se=0
 rotate_left
 ·rw [if_neg hz] at H
  simp only [Option.some.injEq,Prod.mk.injEq] at H
  obtain ⟨rfl,rfl⟩:=H
  have hz0:(se != 0)=true:=bne_iff_ne.mpr hz
  clear hz
  go_wp2_with (first|((with_reducible refine gate_ (.build 29 #[]) rfl ?_);refine Kd.event_run rfl (pg_build rfl) ?_)|((with_reducible refine gate_ (.store 29 (.tmp 4) _) rfl ?_);refine pg_put (g:=g4) (q:=pz) rfl rfl (pg_store rfl rfl rfl (zbB (Aside0.out (by assumption)) (by repeat (first|exact Below.refl _ _|with_reducible apply zlN|with_reducible apply zlA|refine below_step ?_ (Aside0.out (by assumption))))) pz_len pz_len) (zbB (Aside0.out (by assumption)) (by repeat (first|exact Below.refl _ _|with_reducible apply zlN|with_reducible apply zlA|refine below_step ?_ (Aside0.out (by assumption))))) ?_;rintro w2 hq hfar hbel;have hb2:Aside0 (Below w.heap.size w w2):=⟨hbel _ _ (by repeat (first|exact Below.refl _ _|with_reducible apply zlN|with_reducible apply zlA|refine below_step ?_ (Aside0.out (by assumption)))) hge4.out⟩;clear hfar hbel;have hh_:=zm hq;clear hq;have hq:=hh_;clear hh_))
  refine bodyPost_ret (results_ct rfl _ _ g4 29 (pc pz) (0,0) _ rfl hq.out Try.underlying29 rfl (pg_size pz_len)) rfl ?_
  exact ⟨rfl,hb2.out⟩
 subst hz
 rw [if_pos rfl] at H
 have hg_:=Cw.gt_ H;clear H;obtain ⟨h4,H⟩:=hg_;have hg_:=Cw.gt_ H;clear H;obtain ⟨hmx,H⟩:=hg_
 simp only [Option.some.injEq,Prod.mk.injEq] at H
 obtain ⟨rfl,rfl⟩:=H
 have hlo:=zm (lo4 h4 hmx)
 have hh_:=zm h4;clear h4;have h4:=hh_;clear hh_;have hh_:=zm hmx;clear hmx;have hmx:=hh_;clear hh_
 go_wp2_with fail
 refine Cw.dstartD [7] (by as_aux_lemma=>kernel_rfl) rfl (fun we hb=>?_)
 have hh_:=zm hb;clear hb;have hb:=hh_;clear hh_
 refine zpu 0 ?_
 refine zpu 1 ?_
 refine zpu 2 ?_
 refine zpu 3 ?_
 refine zpu 4 ?_
 refine zpu 5 ?_
 refine Cw.dpu (i:=6) (v:=?_) (a':=?_) (by simp only [List.getElem?_toArray,List.getElem?_cons_succ,List.getElem?_cons_zero];rfl) rfl (by as_aux_lemma=>kernel_rfl) (by rfl) (by exact fun _ _ _ h=>h) ?_ ?_ ?_
 rotate_left
 ·intro w'
  apply Eq.trans
  ·apply pg_tail (m:=sb.length - 4)
   ·rfl
   ·rfl
   ·rfl
   ·exact hlo.out
   ·omega
   ·exact hcs.out
  ·rfl
 rotate_left
 ·simp only [Act.put,List.setIfInBounds_toArray,List.set_cons_zero,List.set_cons_succ,i64_w,i32_w]
  rfl
 refine Cw.lastD (i:=7) (N:=some 72) (by simp only [List.getElem?_toArray,List.getElem?_cons_succ,List.getElem?_cons_zero];rfl) rfl (by as_aux_lemma=>kernel_rfl) (by decide) (fun K hK=>?_)
 refine pg_putd (g:=g9) (by rfl) rfl (pg_copy (p:=pg_of l1 hd) (ys:=sb.drop (sb.length - 4)) rfl rfl rfl (pg_Ctail rfl (Kd.C_below (Aside0.out (by assumption)) (by repeat (first|exact Below.refl _ _|with_reducible apply zlN|with_reducible apply zlA|refine below_step ?_ (Aside0.out (by assumption))))) (by omega) hcs.out) (zbB (Aside0.out (by assumption)) (by repeat (first|exact Below.refl _ _|with_reducible apply zlN|with_reducible apply zlA|refine below_step ?_ (Aside0.out (by assumption))))) (by rw [hpl.out,List.length_drop];have:=h4.out;omega)) (zbB (Aside0.out (by assumption)) (by repeat (first|exact Below.refl _ _|with_reducible apply zlN|with_reducible apply zlA|refine below_step ?_ (Aside0.out (by assumption))))) ?_
 rintro w2 hq hfar hbel
 have hb2:Aside0 (Below wa.heap.size wa w2):=⟨hbel _ _ (by repeat (first|exact Below.refl _ _|with_reducible apply zlN|with_reducible apply zlA|refine below_step ?_ (Aside0.out (by assumption)))) hge9.out⟩
 clear hfar hbel
 have hh_:=zm hq;clear hq;have hq:=hh_;clear hh_
 refine hK.out _ _ ?_
 clear hK K
 refine znm (some 72) ?_
 refine zdo ?_
 go_wp2_with (first|((with_reducible refine gate_ (.load 29 _) rfl ?_);refine Kd.event_run rfl (pg_load rfl rfl hq.out (p4_len l1 hd sb h4.out)) ?_)|((with_reducible refine gate_ (.store 29 _ _) rfl ?_);refine pg_put (g:=g4) (q:=splice (pg_of l1 hd) 284 ((sb.drop (sb.length - 4)).take 4)) rfl rfl (pg_store rfl rfl rfl (zbB (Aside0.out (by assumption)) (by repeat (first|exact Below.refl _ _|with_reducible apply zlN|with_reducible apply zlA|refine below_step ?_ (Aside0.out (by assumption))))) pz_len (p4_len l1 hd sb h4.out)) (zbB (Aside0.out (by assumption)) (by repeat (first|exact Below.refl _ _|with_reducible apply zlN|with_reducible apply zlA|refine below_step ?_ (Aside0.out (by assumption))))) ?_;rintro w3 hq3 hfar hbel;have hb3:Aside0 (Below w.heap.size w w3):=⟨hbel _ _ (by repeat (first|exact Below.refl _ _|with_reducible apply zlN|with_reducible apply zlA|refine below_step ?_ (Aside0.out (by assumption)))) hge4.out⟩;clear hfar hbel;have hh_:=zm hq3;clear hq3;have hq3:=hh_;clear hh_))
 all_goals
  refine bodyPost_ret (results_ct rfl _ _ g4 29 (pc (splice (pg_of l1 hd) 284 ((sb.drop (sb.length - 4)).take 4))) (0,0) _ rfl hq3.out Try.underlying29 rfl (pg_size (p4_len l1 hd sb h4.out))) rfl ?_
  exact ⟨rfl,hb3.out⟩
end Go.Proofs.Ytdohpjjggjehfaa.Print
end
section
namespace Go.Proofs.Ytdohpjjggjehfaa.Print
open Go.RowKit Go.Proofs.YtdohpjjggjehfaaW.PrintWords Go.Proofs.YtdohpjjggjehfaaW.PrintLast Go.Proofs.YtdohpjjggjehfaaW.PrintMore
attribute [local go_sem] max2_int min2_int max_two min_two max_three min_three max_four min_four   -- for this text's walks alone
attribute [local go_sem ↓] Go.Proofs.Ytdohpjjggjehfaa.Sem.isSome_setCell
attribute [local go_sem] Go.Instr.field Go.asAgg
set_option linter.unusedVariables false
set_option linter.unusedSimpArgs false
def bytes_Equal.f (l0:List Int) (l1:List Int):Option (Bool):=some ((strOfNums l0).toList == (strOfNums l1).toList)
set_option maxHeartbeats 8000000 in
set_option maxRecDepth 100000 in
theorem bytes_Equal.calls (A0:Option Addr) (c0:Nat) (l0:List Int) (A1:Option Addr) (c1:Nat) (l1:List Int) (r:Bool) (w:World) (hr0:Kd.C (Kd.int .u8) w A0 l0.length l0) (hc0:l0.length≤c0) (hr1:Kd.C (Kd.int .u8) w A1 l1.length l1) (hc1:l1.length≤c1) (h:bytes_Equal.f l0 l1=some r) :
  Calls Try.prog 16 #[.slice A0 l0.length c0,.slice A1 l1.length c1] w fun e w'=>e=.returned (.bool r)∧Drawn0 w w':=by
 have HR0:=zm hr0
 have HC0:=zm hc0
 clear hr0 hc0
 have HR1:=zm hr1
 have HC1:=zm hc1
 clear hr1 hc1
 have H:(some ((strOfNums l0).toList == (strOfNums l1).toList))=some r:=h
 clear h
 obtain rfl:=Option.some.inj H
 have hcv3:=Kd.C_string (P:=Try.prog) (A:=A0) (c:=c0) Try.underlying24 Try.underlying5 Try.underlying9 HR0.out
 have hcv4:=Kd.C_string (P:=Try.prog) (A:=A1) (c:=c1) Try.underlying24 Try.underlying5 Try.underlying9 HR1.out
 go_enter Try.func16,Try.ntmps16
 go_wp2
 go_ret
 exact ⟨by first|rfl|(simp;done)|(simp [*];done),by repeat (first|exact Drawn0.refl _|apply Drawn0.step)⟩
def slices_Equal_byte_byte.l0:Nat → List Int → List Int → Int → Int → Option (Bool)
 | 0,_,_,_,_=>none
 | k + 1,x0,x1,x12,x13=>if x13 < x12 then (if 0≤x13 then (if x13 < (x0.length:Int) then (if x13 < (x1.length:Int) then (if (rd x0 x13)=(rd x1 x13) then (slices_Equal_byte_byte.l0 k x0 x1 x12 (wrap64 (x13 + 1))) else (some false)) else (none)) else (none)) else (none)) else (some true)
def slices_Equal_byte_byte.f (k:Nat) (l0:List Int) (l1:List Int):Option (Bool):=if (l0.length:Int)=(l1.length:Int) then (slices_Equal_byte_byte.l0 k l0 l1 (l0.length:Int) 0) else (some false)
set_option maxHeartbeats 8000000 in
set_option maxRecDepth 100000 in
theorem slices_Equal_byte_byte.calls (k:Nat) (A0:Option Addr) (c0:Nat) (l0:List Int) (A1:Option Addr) (c1:Nat) (l1:List Int) (r:Bool) (w:World) (hr0:Kd.C (Kd.int .u8) w A0 l0.length l0) (hc0:l0.length≤c0) (hr1:Kd.C (Kd.int .u8) w A1 l1.length l1) (hc1:l1.length≤c1) (h:slices_Equal_byte_byte.f k l0 l1=some r) :
  Calls Try.prog 57 #[.slice A0 l0.length c0,.slice A1 l1.length c1] w fun e w'=>e=.returned (.bool r)∧Drawn0 w w':=by
 have HR0:=zm hr0
 have HC0:=zm hc0
 clear hr0 hc0
 have HR1:=zm hr1
 have HC1:=zm hc1
 clear hr1 hc1
 have H:(if (l0.length:Int)=(l1.length:Int) then (slices_Equal_byte_byte.l0 k l0 l1 (l0.length:Int) 0) else (some false))=some r:=h
 clear h
 by_cases c3:(l0.length:Int)=(l1.length:Int)
 ·rw [if_pos c3] at H
  have c3b0:((l0.length:Int) == (l1.length:Int))=true:=beq_iff_eq.mpr c3
  have c3b1:((l0.length:Int) != (l1.length:Int))=false:=bne_eq_false_iff_eq.mpr c3
  have c3b2:(l0.length == l1.length)=true:=by first|simpa using c3|(simp at c3 ⊢;omega)
  clear c3
  have H':=zm H
  clear H
  go_enter Try.func57,Try.ntmps57
  go_wp2
  repeat (go_quiet (fail);try go_wp2)
  go_loopg [13] k (fun kq v13 w'=>∃ (x13_1:Int),v13=.int .i64 x13_1∧Aside0 (slices_Equal_byte_byte.l0 kq l0 l1 (l0.length:Int) x13_1=some r)∧Aside0 (kq≤k)∧Drawn0 w w')
  case atStart=>exact ⟨(0),zs_,H',⟨Nat.le_refl _⟩,by repeat (first|exact Drawn0.refl _|apply Drawn0.step)⟩
  case round =>
   clear H'
   try clear c1
   try clear p2
   try clear c3
   try clear c3b0
   try clear c3b1
   try clear c3b2
   obtain ⟨x13_1,rfl,HA,HK1,⟨m1,rfl⟩⟩:=hrel
   cases gk with
   | zero=>exact absurd HA.out (by simp [slices_Equal_byte_byte.l0])
   | succ k1 =>
    have H:=HA.out
    clear HA
    simp only [slices_Equal_byte_byte.l0] at H
    by_cases c4:x13_1 < (l0.length:Int)
    ·rw [if_pos c4] at H
     have c4b0:decide (x13_1 < (l0.length:Int))=true:=decide_eq_true c4
     clear c4
     by_cases c5:0≤x13_1
     ·rw [if_pos c5] at H
      have c5b0:decide (0≤x13_1)=true:=decide_eq_true c5
      clear c5
      by_cases c6:x13_1 < (l0.length:Int)
      ·rw [if_pos c6] at H
       have c6b0:decide (x13_1 < (l0.length:Int))=true:=decide_eq_true c6
       clear c6
       by_cases c7:x13_1 < (l1.length:Int)
       ·rw [if_pos c7] at H
        have c7b0:decide (x13_1 < (l1.length:Int))=true:=decide_eq_true c7
        clear c7
        by_cases c8:(rd l0 x13_1)=(rd l1 x13_1)
        ·rw [if_pos c8] at H
         have c8b0:((rd l0 x13_1) == (rd l1 x13_1))=true:=beq_iff_eq.mpr c8
         have c8b1:((rd l0 x13_1) != (rd l1 x13_1))=false:=bne_eq_false_iff_eq.mpr c8
         clear c8
         have H':=zm H
         clear H
         have p147:0≤(x13_1:Int):=za_
         have q147:x13_1 < (l0.length:Int):=za_
         obtain ⟨ad147,e147,hx147_0⟩:=Kd.at_int HR0.out x13_1 p147 q147
         cases e147
         replace p147:=eq_true p147
         replace q147:=eq_true q147
         have p148:0≤(x13_1:Int):=za_
         have q148:x13_1 < (l1.length:Int):=za_
         obtain ⟨ad148,e148,hx148_0⟩:=Kd.at_int HR1.out x13_1 p148 q148
         cases e148
         replace p148:=eq_true p148
         replace q148:=eq_true q148
         go_wp2
         repeat (go_quiet (fail);try go_wp2)
         go_roundg k1
         case measure=>have:=HK1.out;omega
         case rel=>exact ⟨(wrap64 (x13_1 + 1)),zs_,H',⟨by have:=HK1.out;omega⟩,by repeat (first|exact Drawn0.refl _|apply Drawn0.step)⟩
        ·rw [if_neg c8] at H
         have c8b0:((rd l0 x13_1) == (rd l1 x13_1))=false:=beq_eq_false_iff_ne.mpr c8
         have c8b1:((rd l0 x13_1) != (rd l1 x13_1))=true:=bne_iff_ne.mpr c8
         obtain rfl:=Option.some.inj H
         have p147:0≤(x13_1:Int):=za_
         have q147:x13_1 < (l0.length:Int):=za_
         obtain ⟨ad147,e147,hx147_0⟩:=Kd.at_int HR0.out x13_1 p147 q147
         cases e147
         replace p147:=eq_true p147
         replace q147:=eq_true q147
         have p148:0≤(x13_1:Int):=za_
         have q148:x13_1 < (l1.length:Int):=za_
         obtain ⟨ad148,e148,hx148_0⟩:=Kd.at_int HR1.out x13_1 p148 q148
         cases e148
         replace p148:=eq_true p148
         replace q148:=eq_true q148
         go_wp2
         repeat (go_quiet (fail);try go_wp2)
         go_ret
         exact ⟨by first|rfl|(simp;done)|(simp [*];done),by repeat (first|exact Drawn0.refl _|apply Drawn0.step)⟩
       ·rw [if_neg c7] at H
        exact absurd H (by simp)
      ·rw [if_neg c6] at H
       exact absurd H (by simp)
     ·rw [if_neg c5] at H
      exact absurd H (by simp)
    ·rw [if_neg c4] at H
     have c4b0:decide (x13_1 < (l0.length:Int))=false:=decide_eq_false c4
     clear c4
     obtain rfl:=Option.some.inj H
     go_wp2
     repeat (go_quiet (fail);try go_wp2)
     go_ret
     exact ⟨by first|rfl|(simp;done)|(simp [*];done),by repeat (first|exact Drawn0.refl _|apply Drawn0.step)⟩
 ·rw [if_neg c3] at H
  have c3b0:((l0.length:Int) == (l1.length:Int))=false:=beq_eq_false_iff_ne.mpr c3
  have c3b1:((l0.length:Int) != (l1.length:Int))=true:=bne_iff_ne.mpr c3
  have c3b2:(l0.length == l1.length)=false:=by first|simpa using c3|(simp at c3 ⊢;omega)
  obtain rfl:=Option.some.inj H
  go_enter Try.func57,Try.ntmps57
  go_wp2
  repeat (go_quiet (fail);try go_wp2)
  go_ret
  exact ⟨by first|rfl|(simp;done)|(simp [*];done),by repeat (first|exact Drawn0.refl _|apply Drawn0.step)⟩
end Go.Proofs.Ytdohpjjggjehfaa.Print
end
section
namespace Go.Proofs.Ytdohpjjggjehfaa.Print
open Go.RowKit Go.Proofs.YtdohpjjggjehfaaW.PrintWords Go.Proofs.YtdohpjjggjehfaaW.PrintLast Go.Proofs.YtdohpjjggjehfaaW.PrintMore
attribute [local go_sem] max2_int min2_int max_two min_two max_three min_three max_four min_four   -- for this text's walks alone
attribute [local go_sem ↓] Go.Proofs.Ytdohpjjggjehfaa.Sem.isSome_setCell
attribute [local go_sem] Go.Instr.field Go.asAgg
set_option linter.unusedVariables false
set_option linter.unusedSimpArgs false
def seal_State.j0:Nat → List Int → Int → Bool → Option (Int)
 | 0,_,_,_=>none
 | k + 1,x0,x3,x7=>if x7=true then (some 10) else (if x3 < 0 then (some 11) else (if x3 > 1048576 then (some 11) else (if 0≤x3 then (if x3≤(x0.length:Int) then ((seal_sum.f k (x0.take (x3:Int).toNat)).bind fun t152=>((slices_Equal_byte_byte.f k (x0.drop (x3:Int).toNat) t152).bind fun t155=>(if t155=true then (some 0) else (some 11)))) else (none)) else (none))))
def seal_State.f (k:Nat) (l0:List Int):Option (Int):=if (l0.length:Int) > 0 then ((seal_Zeros.f k l0).bind fun t149=>(seal_State.j0 k l0 (wrap64 ((l0.length:Int) - 4)) (t149 == 0))) else (seal_State.j0 k l0 (wrap64 ((l0.length:Int) - 4)) false)
def seal_State.T4:Bool × List (List Nat × List Nat):=(true,[([],[]),([0],[0]),([1],[1]),([2],[2]),([3,2],[2,3]),([2,4],[2,4]),([5,2],[5]),([6],[6]),([6],[6]),([7,8,6],[6,7,8]),([6],[6]),([6],[6]),([10,11,6],[6,10,11]),([12,6,6],[6,12]),([9,13,13,6],[6,9,13]),([14,6],[6,14]),([6,15],[6,15]),([16,14],[16])])
def seal_State.B4:List Nat:=[0,1,3,7,15,31,63,127,127,511,127,127,3199,7295,16383,32767,65535,131071]
theorem seal_State.tab4:rtab .any (opsOf Try.f36 4)=seal_State.T4:=by kernel_rfl
theorem seal_State.bits4:waitsOk seal_State.T4.2 seal_State.B4=true:=by kernel_rfl
set_option maxHeartbeats 8000000 in
set_option maxRecDepth 100000 in
theorem seal_State.calls (k:Nat) (A0:Option Addr) (c0:Nat) (l0:List Int) (r:Int) (w:World) (hr0:Kd.C (Kd.int .u8) w A0 l0.length l0) (hc0:l0.length≤c0) (h:seal_State.f k l0=some r) :
  Calls Try.prog 36 #[.slice A0 l0.length c0] w fun e w'=>e=.returned (.int .i64 r)∧Below w.heap.size w w':=by
 have HR0:=zm hr0
 have HC0:=zm hc0
 clear hr0 hc0
 have HB:=zm (Below.refl w.heap.size w)
 have H:(if (l0.length:Int) > 0 then ((seal_Zeros.f k l0).bind fun t149=>(seal_State.j0 k l0 (wrap64 ((l0.length:Int) - 4)) (t149 == 0))) else (seal_State.j0 k l0 (wrap64 ((l0.length:Int) - 4)) false))=some r:=h
 clear h
 have HC2:=zm H
 clear H
 go_enter Try.func36,Try.ntmps36
 go_upto_region 2 with (fail)
 go_cut [7] (fun v7 wc=>∃ (kq:Nat) (x7_1:Bool),v7=.bool x7_1∧Aside0 (seal_State.j0 kq l0 (wrap64 ((l0.length:Int) - 4)) x7_1=some r)∧Aside0 (kq≤k)∧Aside0 (Below w.heap.size w wc))
 case first =>
  have H:=HC2.out
  clear HC2
  by_cases c3:(l0.length:Int) > 0
  ·rw [if_pos c3] at H
   have c3b0:decide (0 < (l0.length:Int))=true:=decide_eq_true c3
   have c3b1:decide (0 < l0.length)=true:=decide_eq_true (by omega)
   clear c3
   (first|rw [c3b0]|(simp only [i64_w,i32_w];rw [c3b0])|skip)
   replace H:=Option.bind_eq_some_iff.mp H
   obtain ⟨t149,A40,H⟩:=H
   replace H:(seal_State.j0 k l0 (wrap64 ((l0.length:Int) - 4)) (t149 == 0))=some r:=H
   have A4:=zm A40
   clear A40
   have H':=zm H
   clear H
   go_wp2_with (first|(go_at_call 56;(with_reducible refine (seal_Zeros.calls k _ _ l0 t149 _ ?side1 ?side2 A4.out).mono ?_);(case side1=>exact zC HR0);(case side2=>exact HC0.out);rintro e w' ⟨rfl,⟨nd,rfl⟩⟩))
   go_meet
   case rel=>exact ⟨_,((t149 == 0)),zs_,H',⟨by first|omega|exact Nat.le_refl _⟩,⟨zb_⟩⟩
  ·rw [if_neg c3] at H
   have c3b0:decide (0 < (l0.length:Int))=false:=decide_eq_false c3
   have c3b1:decide (0 < l0.length)=false:=decide_eq_false (by omega)
   clear c3
   (first|rw [c3b0]|(simp only [i64_w,i32_w];rw [c3b0])|skip)
   have H':=zm H
   clear H
   go_wp2
   go_meet
   case rel=>exact ⟨_,(false),zs_,H',⟨by first|omega|exact Nat.le_refl _⟩,⟨zb_⟩⟩
 case rest =>
  clear HC2
  try clear p2
  try clear c3
  try clear c3b0
  try clear c3b1
  obtain ⟨kq,x7_1,rfl,HA,HJ1,HB⟩:=hcut
  cases kq with
  | zero=>exact absurd HA.out (by simp [seal_State.j0])
  | succ kj1 =>
   have H:=HA.out
   clear HA
   simp only [seal_State.j0] at H
   by_cases c5:x7_1=true
   ·subst c5
    have H1:(some 10)=some r:=by rw [if_pos rfl] at H;exact H
    clear H
    have H:=H1
    clear H1
    obtain rfl:=Option.some.inj H
    go_wp2
    go_ret
    exact ⟨ze_,zb_⟩
   ·replace c5:=Bool.eq_false_iff.mpr c5
    subst c5
    have H1:(if (wrap64 ((l0.length:Int) - 4)) < 0 then (some 11) else (if (wrap64 ((l0.length:Int) - 4)) > 1048576 then (some 11) else (if 0≤(wrap64 ((l0.length:Int) - 4)) then (if (wrap64 ((l0.length:Int) - 4))≤(l0.length:Int) then ((seal_sum.f kj1 (l0.take ((wrap64 ((l0.length:Int) - 4)):Int).toNat)).bind fun t152=>((slices_Equal_byte_byte.f kj1 (l0.drop ((wrap64 ((l0.length:Int) - 4)):Int).toNat) t152).bind fun t155=>(if t155=true then (some 0) else (some 11)))) else (none)) else (none))))=some r:=by rw [if_neg (show ¬ (false=true) by decide)] at H;exact H
    clear H
    have H:=H1
    clear H1
    by_cases c6:(wrap64 ((l0.length:Int) - 4)) < 0
    ·rw [if_pos c6] at H
     have c6b0:decide ((wrap64 ((l0.length:Int) - 4)) < 0)=true:=decide_eq_true c6
     clear c6
     obtain rfl:=Option.some.inj H
     try go_wp2
     have n0_:=zm (zlD HB.out)
     clear HB
     have HB:=n0_
     clear n0_
     refine start_ (n:=18) (S:=fun w'=>True) (ds:=[]) (Array.replicate 18 false) (by kernel_rfl) rfl rfl trivial (fun hHeld=>?_);refine with_tabW seal_State.tab4 seal_State.bits4 (fun HT_ HW_=>?_)
     generalize wc.drew=w7 at HB hHeld ⊢
     refine zpu 0 ?_
     refine zpu 1 ?_
     refine zpu 2 ?_
     refine zpn 3 ?_
     refine zpn 4 ?_
     refine zpu 5 ?_
     refine zpu 6 ?_
     refine zpn 7 ?_
     refine zpn 8 ?_
     refine zpn 9 ?_
     refine zpn 10 ?_
     refine zpn 11 ?_
     refine zpn 12 ?_
     refine zpn 13 ?_
     refine zpn 14 ?_
     refine zpn 15 ?_
     refine zpu 16 ?_
     refine zpu 17 ?_
     refine zdo ?_
     try go_wp2
     go_ret
     exact ⟨ze_,zb_⟩
    ·rw [if_neg c6] at H
     have c6b0:decide ((wrap64 ((l0.length:Int) - 4)) < 0)=false:=decide_eq_false c6
     clear c6
     by_cases c8:(wrap64 ((l0.length:Int) - 4)) > 1048576
     ·rw [if_pos c8] at H
      have c8b0:decide (1048576 < (wrap64 ((l0.length:Int) - 4)))=true:=decide_eq_true c8
      clear c8
      obtain rfl:=Option.some.inj H
      try go_wp2
      have n0_:=zm (zlD HB.out)
      clear HB
      have HB:=n0_
      clear n0_
      refine start_ (n:=18) (S:=fun w'=>True) (ds:=[]) (Array.replicate 18 false) (by kernel_rfl) rfl rfl trivial (fun hHeld=>?_);refine with_tabW seal_State.tab4 seal_State.bits4 (fun HT_ HW_=>?_)
      generalize wc.drew=w9 at HB hHeld ⊢
      refine zpu 0 ?_
      refine zpu 1 ?_
      refine zpu 2 ?_
      refine zpu 3 ?_
      refine zpu 4 ?_
      refine zpu 5 ?_
      refine zpu 6 ?_
      refine zpn 7 ?_
      refine zpn 8 ?_
      refine zpn 9 ?_
      refine zpn 10 ?_
      refine zpn 11 ?_
      refine zpn 12 ?_
      refine zpn 13 ?_
      refine zpn 14 ?_
      refine zpn 15 ?_
      refine zpu 16 ?_
      refine zpu 17 ?_
      refine zdo ?_
      try go_wp2
      go_ret
      exact ⟨ze_,zb_⟩
     ·rw [if_neg c8] at H
      have c8b0:decide (1048576 < (wrap64 ((l0.length:Int) - 4)))=false:=decide_eq_false c8
      clear c8
      obtain ⟨ji10,hji10⟩:∃ j_:Int,(wrap64 ((l0.length:Int) - 4))=j_:=⟨_,rfl⟩
      replace H:(if 0≤(ji10) then (if (ji10)≤(l0.length:Int) then ((seal_sum.f kj1 (l0.take ((ji10):Int).toNat)).bind fun t152=>((slices_Equal_byte_byte.f kj1 (l0.drop ((ji10):Int).toNat) t152).bind fun t155=>(if t155=true then (some 0) else (some 11)))) else (none)) else (none))=some r:=by first|(rw [hji10] at H;exact H)|(simp only [hji10] at H ⊢;exact H)
      (try rw [hji10] at c6b0)
      (try rw [hji10] at c8b0)
      have hji10w:(IntKind.i64.wrap ((l0.length:Int) - 4))=ji10:=(i64_w _).trans hji10
      by_cases c11:0≤(ji10)
      ·rw [if_pos c11] at H
       have c11b0:=eq_true c11
       have c11b1:decide (0≤(ji10))=true:=decide_eq_true c11
       clear c11
       by_cases c12:(ji10)≤(l0.length:Int)
       ·rw [if_pos c12] at H
        have c12b0:=eq_true c12
        have c12b1:decide ((ji10)≤(l0.length:Int))=true:=decide_eq_true c12
        clear c12
        have c13b0:=eq_true (za_:0≤(ji10))
        have c14b0:=eq_true (za_:(ji10)≤(l0.length:Int))
        replace H:=Option.bind_eq_some_iff.mp H
        obtain ⟨t152,A150,H⟩:=H
        replace H:((slices_Equal_byte_byte.f kj1 (l0.drop ((ji10):Int).toNat) t152).bind fun t155=>(if t155=true then (some 0) else (some 11)))=some r:=H
        have A15:=zm A150
        clear A150
        replace H:=Option.bind_eq_some_iff.mp H
        obtain ⟨t155,A160,H⟩:=H
        replace H:(if t155=true then (some 0) else (some 11))=some r:=H
        have A16:=zm A160
        clear A160
        by_cases c17:t155=true
        ·subst c17
         have H1:(some 0)=some r:=by rw [if_pos rfl] at H;exact H
         clear H
         have H:=H1
         clear H1
         obtain rfl:=Option.some.inj H
         try go_wp2
         have n0_:=zm (zlD HB.out)
         clear HB
         have HB:=n0_
         clear n0_
         obtain ⟨i019,hi019,_,hsz19,_⟩:=info_parts info5
         obtain ⟨A19,hcut19,hA19,hC19⟩:=print_drop_of (P:=Try.prog) (Value.int .u8) 0 24 5 .i64 Try.underlying24 hi019 hsz19 A0 c0 l0 (ji10) (za_) (za_) HC0.out
         have HR150:=zm (Kd.C_of_reads (h1:=fun _=>rfl) (hA19 _ (Kd.reads_of_C HR0.out)))
         have HC150:=zm hC19
         clear hA19 hC19 hi019 hsz19
         obtain ⟨i020,hi020,_,hsz20,_⟩:=info_parts info5
         obtain ⟨hcut20,hA20,hC20⟩:=print_take_of (P:=Try.prog) (Value.int .u8) 0 24 5 .i64 Try.underlying24 hi020 hsz20 A0 c0 l0 (ji10) (za_) (za_) HC0.out
         have HR151:=zm (Kd.C_of_reads (h1:=fun _=>rfl) (hA20 _ (Kd.reads_of_C HR0.out)))
         have HC151:=zm hC20
         clear hA20 hC20 hi020 hsz20
         refine start_ (n:=18) (S:=fun w'=>True) (ds:=[]) (Array.replicate 18 false) (by kernel_rfl) rfl rfl trivial (fun hHeld=>?_);refine with_tabW seal_State.tab4 seal_State.bits4 (fun HT_ HW_=>?_)
         generalize wc.drew=w18 at HB HR150 HR151 hHeld ⊢
         refine zpu 0 ?_
         refine zpu 1 ?_
         refine zpu 2 ?_
         refine zpu 3 ?_
         refine zpu 4 ?_
         refine zpu 5 ?_
         refine zpu 6 ?_
         refine zpu 7 ?_
         refine zpu 8 ?_
         refine zpu 9 ?_
         refine zpu 10 ?_
         refine zpu 11 ?_
         refine zpu 12 ?_
         refine zon 13 (some 30) (fun K hK=>?_)
         refine goes_ Try.func52 (by kernel_rfl) rfl #[.slice A0 (l0.take ((ji10):Int).toNat).length c0] (by rfl) rfl rfl (by (try simp only [List.map_toArray,List.map_cons,List.map_nil]);first|done|(rw [show (l0.take ((ji10):Int).toNat).length=(ji10).toNat from (by rw [List.length_take];have h_:((ji10):Int)≤(l0.length:Int):=za_;omega)] <;> rfl)|(simp only [hji10];rfl)|rfl|(simp only [List.length_drop,List.length_take];rfl)) ?_
         with_reducible refine (seal_sum.calls kj1 _ _ (l0.take ((ji10):Int).toNat) t152 _ ?side1 ?side2 A15.out).mono ?_
         (case side1=>exact zC HR151)
         (case side2=>exact HC151.out)
         rintro e w21 ⟨v153,rfl,ho0,hb⟩
         refine ⟨_,rfl,?_⟩
         have n0_:=zm (Kd.R_lower ho0 (below_size (zb_)))
         have n1_:=zkH HB hb
         clear HB
         have HO154:=n0_
         have HB:=n1_
         clear n0_ n1_
         (try clear hb)
         (try clear hb2)
         (try clear hk)
         (try clear hi)
         (try clear ho0)
         obtain ⟨Ao22,co22,eo22⟩:=Kd.R_slice HO154.out
         (first|subst eo22|(injection eo22 with f1_ f2_ f3_;have f4_:=f1_.symm;have f5_:=f3_.symm;clear f1_ f2_ f3_;subst f4_;subst f5_))
         refine hK.out _ _ trivial (fun hHeld=>?_)
         clear hK K
         refine znm (some 30) ?_
         refine zon 14 (some 31) (fun K hK=>?_)
         refine goes_ Try.func57 (by kernel_rfl) rfl #[.slice A19 (l0.drop ((ji10):Int).toNat).length (c0 - (ji10).toNat),.slice Ao22 t152.length co22] (by rfl) rfl rfl (by (try simp only [List.map_toArray,List.map_cons,List.map_nil]);first|done|(rw [show (l0.drop ((ji10):Int).toNat).length=(l0.length - (ji10).toNat) from List.length_drop] <;> rfl)|(simp only [hji10];rfl)|rfl|(simp only [List.length_drop,List.length_take];rfl)) ?_
         with_reducible refine (slices_Equal_byte_byte.calls kj1 _ _ (l0.drop ((ji10):Int).toNat) _ _ t152 true _ ?side1 ?side2 ?side3 ?side4 A16.out).mono ?_
         (case side1=>exact zC HR150)
         (case side2=>exact HC150.out)
         (case side3=>repeat (first|exact (Kd.R_reads' HO154.out).2.2|(with_reducible refine Kd.C_alloc ?_ _)|(with_reducible refine Kd.C_drewN ?_ _)|(with_reducible refine Kd.C_drew ?_)))
         (case side4=>exact (Kd.R_reads' HO154.out).2.1)
         rintro e w' ⟨rfl,⟨nd,rfl⟩⟩
         refine ⟨_,rfl,?_⟩
         refine hK.out _ _ trivial (fun hHeld=>?_)
         clear hK K
         refine znm (some 31) ?_
         refine zpu 15 ?_
         refine zpu 16 ?_
         refine zpu 17 ?_
         refine zdo ?_
         try go_wp2
         go_ret
         exact ⟨by first|rfl|(simp [errW_none,errW_some] <;> rfl)|(simp only [← hji10];first|rfl|(simp [errW_none,errW_some] <;> rfl))|(simp [*,errW_none,errW_some] <;> rfl),zb_⟩
        ·replace c17:=Bool.eq_false_iff.mpr c17
         subst c17
         have H1:(some 11)=some r:=by rw [if_neg (show ¬ (false=true) by decide)] at H;exact H
         clear H
         have H:=H1
         clear H1
         obtain rfl:=Option.some.inj H
         try go_wp2
         have n0_:=zm (zlD HB.out)
         clear HB
         have HB:=n0_
         clear n0_
         obtain ⟨i024,hi024,_,hsz24,_⟩:=info_parts info5
         obtain ⟨A24,hcut24,hA24,hC24⟩:=print_drop_of (P:=Try.prog) (Value.int .u8) 0 24 5 .i64 Try.underlying24 hi024 hsz24 A0 c0 l0 (ji10) (za_) (za_) HC0.out
         have HR150:=zm (Kd.C_of_reads (h1:=fun _=>rfl) (hA24 _ (Kd.reads_of_C HR0.out)))
         have HC150:=zm hC24
         clear hA24 hC24 hi024 hsz24
         obtain ⟨i025,hi025,_,hsz25,_⟩:=info_parts info5
         obtain ⟨hcut25,hA25,hC25⟩:=print_take_of (P:=Try.prog) (Value.int .u8) 0 24 5 .i64 Try.underlying24 hi025 hsz25 A0 c0 l0 (ji10) (za_) (za_) HC0.out
         have HR151:=zm (Kd.C_of_reads (h1:=fun _=>rfl) (hA25 _ (Kd.reads_of_C HR0.out)))
         have HC151:=zm hC25
         clear hA25 hC25 hi025 hsz25
         refine start_ (n:=18) (S:=fun w'=>True) (ds:=[]) (Array.replicate 18 false) (by kernel_rfl) rfl rfl trivial (fun hHeld=>?_);refine with_tabW seal_State.tab4 seal_State.bits4 (fun HT_ HW_=>?_)
         generalize wc.drew=w23 at HB HR150 HR151 hHeld ⊢
         refine zpu 0 ?_
         refine zpu 1 ?_
         refine zpu 2 ?_
         refine zpu 3 ?_
         refine zpu 4 ?_
         refine zpu 5 ?_
         refine zpu 6 ?_
         refine zpu 7 ?_
         refine zpu 8 ?_
         refine zpu 9 ?_
         refine zpu 10 ?_
         refine zpu 11 ?_
         refine zpu 12 ?_
         refine zon 13 (some 30) (fun K hK=>?_)
         refine goes_ Try.func52 (by kernel_rfl) rfl #[.slice A0 (l0.take ((ji10):Int).toNat).length c0] (by rfl) rfl rfl (by (try simp only [List.map_toArray,List.map_cons,List.map_nil]);first|done|(rw [show (l0.take ((ji10):Int).toNat).length=(ji10).toNat from (by rw [List.length_take];have h_:((ji10):Int)≤(l0.length:Int):=za_;omega)] <;> rfl)|(simp only [hji10];rfl)|rfl|(simp only [List.length_drop,List.length_take];rfl)) ?_
         with_reducible refine (seal_sum.calls kj1 _ _ (l0.take ((ji10):Int).toNat) t152 _ ?side1 ?side2 A15.out).mono ?_
         (case side1=>exact zC HR151)
         (case side2=>exact HC151.out)
         rintro e w26 ⟨v153,rfl,ho0,hb⟩
         refine ⟨_,rfl,?_⟩
         have n0_:=zm (Kd.R_lower ho0 (below_size (zb_)))
         have n1_:=zkH HB hb
         clear HB
         have HO154:=n0_
         have HB:=n1_
         clear n0_ n1_
         (try clear hb)
         (try clear hb2)
         (try clear hk)
         (try clear hi)
         (try clear ho0)
         obtain ⟨Ao27,co27,eo27⟩:=Kd.R_slice HO154.out
         (first|subst eo27|(injection eo27 with f1_ f2_ f3_;have f4_:=f1_.symm;have f5_:=f3_.symm;clear f1_ f2_ f3_;subst f4_;subst f5_))
         refine hK.out _ _ trivial (fun hHeld=>?_)
         clear hK K
         refine znm (some 30) ?_
         refine zon 14 (some 31) (fun K hK=>?_)
         refine goes_ Try.func57 (by kernel_rfl) rfl #[.slice A24 (l0.drop ((ji10):Int).toNat).length (c0 - (ji10).toNat),.slice Ao27 t152.length co27] (by rfl) rfl rfl (by (try simp only [List.map_toArray,List.map_cons,List.map_nil]);first|done|(rw [show (l0.drop ((ji10):Int).toNat).length=(l0.length - (ji10).toNat) from List.length_drop] <;> rfl)|(simp only [hji10];rfl)|rfl|(simp only [List.length_drop,List.length_take];rfl)) ?_
         with_reducible refine (slices_Equal_byte_byte.calls kj1 _ _ (l0.drop ((ji10):Int).toNat) _ _ t152 false _ ?side1 ?side2 ?side3 ?side4 A16.out).mono ?_
         (case side1=>exact zC HR150)
         (case side2=>exact HC150.out)
         (case side3=>repeat (first|exact (Kd.R_reads' HO154.out).2.2|(with_reducible refine Kd.C_alloc ?_ _)|(with_reducible refine Kd.C_drewN ?_ _)|(with_reducible refine Kd.C_drew ?_)))
         (case side4=>exact (Kd.R_reads' HO154.out).2.1)
         rintro e w' ⟨rfl,⟨nd,rfl⟩⟩
         refine ⟨_,rfl,?_⟩
         refine hK.out _ _ trivial (fun hHeld=>?_)
         clear hK K
         refine znm (some 31) ?_
         refine zpu 15 ?_
         refine zpu 16 ?_
         refine zpu 17 ?_
         refine zdo ?_
         try go_wp2
         go_ret
         exact ⟨by first|rfl|(simp [errW_none,errW_some] <;> rfl)|(simp only [← hji10];first|rfl|(simp [errW_none,errW_some] <;> rfl))|(simp [*,errW_none,errW_some] <;> rfl),zb_⟩
       ·rw [if_neg c12] at H
        exact absurd H (by simp)
      ·rw [if_neg c11] at H
       exact absurd H (by simp)
end Go.Proofs.Ytdohpjjggjehfaa.Print
end
section
namespace Go.Proofs.Ytdohpjjggjehfaa.Print
open Go.RowKit Go.Proofs.YtdohpjjggjehfaaW.PrintWords Go.Proofs.YtdohpjjggjehfaaW.PrintLast Go.Proofs.YtdohpjjggjehfaaW.PrintMore
attribute [local go_sem] max2_int min2_int max_two min_two max_three min_three max_four min_four   -- for this text's walks alone
attribute [local go_sem ↓] Go.Proofs.Ytdohpjjggjehfaa.Sem.isSome_setCell
attribute [local go_sem] Go.Instr.field Go.asAgg
set_option linter.unusedVariables false
set_option linter.unusedSimpArgs false
def seal_Unpack_1.f (a0:Int) (l1:List Int):Option (Int):=if 0≤(wrap64 (Int.tdiv a0 8)) then (if (wrap64 (Int.tdiv a0 8)) < (l1.length:Int) then (if 0≤(wrap64 (7 - (Int.tmod a0 8))) then (some (IntKind.u64.wrap (Go.bits .and .u8 (shr .u8 (rd l1 (wrap64 (Int.tdiv a0 8))) (wrap64 (7 - (Int.tmod a0 8)))) 1))) else (none)) else (none)) else (none)
set_option maxHeartbeats 8000000 in
set_option maxRecDepth 100000 in
theorem seal_Unpack_1.calls (g1:Nat) (a0:Int) (A1:Option Addr) (c1:Nat) (l1:List Int) (r:Int) (w:World) (hb1:w.heap[g1]?=some (.cells #[.slice A1 l1.length c1] 24 (0,0))) (hr1:Kd.C (Kd.int .u8) w A1 l1.length l1) (hc1:l1.length≤c1) (h:seal_Unpack_1.f a0 l1=some r) :
  Calls Try.prog 59 #[.int .i64 a0,.pointer (some ⟨g1,0,none⟩)] w fun e w'=>e=.returned (.int .u64 r)∧Drawn0 w w':=by
 have hcz1_0:w.cell? ⟨g1,0,none⟩=some (.slice A1 l1.length c1):=(blk_cell hb1 0).trans rfl
 clear hb1
 have HR1:=zm hr1
 have HC1:=zm hc1
 clear hr1 hc1
 have H:(if 0≤(wrap64 (Int.tdiv a0 8)) then (if (wrap64 (Int.tdiv a0 8)) < (l1.length:Int) then (if 0≤(wrap64 (7 - (Int.tmod a0 8))) then (some (IntKind.u64.wrap (Go.bits .and .u8 (shr .u8 (rd l1 (wrap64 (Int.tdiv a0 8))) (wrap64 (7 - (Int.tmod a0 8)))) 1))) else (none)) else (none)) else (none))=some r:=h
 clear h
 obtain ⟨ji3,hji3⟩:∃ j_:Int,(wrap64 (Int.tdiv a0 8))=j_:=⟨_,rfl⟩
 replace H:(if 0≤(ji3) then (if (ji3) < (l1.length:Int) then (if 0≤(wrap64 (7 - (Int.tmod a0 8))) then (some (IntKind.u64.wrap (Go.bits .and .u8 (shr .u8 (rd l1 (ji3)) (wrap64 (7 - (Int.tmod a0 8)))) 1))) else (none)) else (none)) else (none))=some r:=by first|(rw [hji3] at H;exact H)|(simp only [hji3] at H ⊢;exact H)
 have hji3w:(IntKind.i64.wrap (Int.tdiv a0 8))=ji3:=(i64_w _).trans hji3
 by_cases c4:0≤(ji3)
 ·rw [if_pos c4] at H
  have c4b0:decide (0≤(ji3))=true:=decide_eq_true c4
  clear c4
  by_cases c5:(ji3) < (l1.length:Int)
  ·rw [if_pos c5] at H
   have c5b0:decide ((ji3) < (l1.length:Int))=true:=decide_eq_true c5
   clear c5
   obtain ⟨ji6,hji6⟩:∃ j_:Int,(wrap64 (7 - (Int.tmod a0 8)))=j_:=⟨_,rfl⟩
   replace H:(if 0≤(ji6) then (some (IntKind.u64.wrap (Go.bits .and .u8 (shr .u8 (rd l1 (ji3)) (ji6)) 1))) else (none))=some r:=by first|(rw [hji6] at H;exact H)|(simp only [hji6] at H ⊢;exact H)
   have hji6w:(IntKind.i64.wrap (7 - (Int.tmod a0 8)))=ji6:=(i64_w _).trans hji6
   by_cases c7:0≤(ji6)
   ·rw [if_pos c7] at H
    have c7b0:=eq_true c7
    have c7b1:decide (0≤(ji6))=true:=decide_eq_true c7
    clear c7
    obtain ⟨ji8,hji8⟩:∃ j_:Int,(shr .u8 (rd l1 (ji3)) (ji6))=j_:=⟨_,rfl⟩
    replace H:(some (IntKind.u64.wrap (Go.bits .and .u8 (ji8) 1)))=some r:=by first|(rw [hji8] at H;exact H)|(simp only [hji8] at H ⊢;exact H)
    have hji8_:((rd l1 (ji3)) / 2 ^ min (ji6).toNat 8)=ji8:=hji8
    have hji8z:(ji6)≤8 → ((rd l1 (ji3)) / 2 ^ (ji6).toNat)=ji8:=shr_small hji8
    obtain rfl:=Option.some.inj H
    have p156:0≤((ji3):Int):=za_
    have q156:(ji3) < (l1.length:Int):=za_
    obtain ⟨ad156,e156,hx156_0⟩:=Kd.at_int HR1.out (ji3) p156 q156
    cases e156
    replace p156:=eq_true p156
    replace q156:=eq_true q156
    go_enter Try.func59,Try.ntmps59
    go_wp2
    go_ret
    exact ⟨by first|rfl|(simp;done)|(simp only [← hji3,← hji6,← hji8] <;> (first|rfl|simp))|(simp [*];done),by repeat (first|exact Drawn0.refl _|apply Drawn0.step)⟩
   ·rw [if_neg c7] at H
    exact absurd H (by simp)
  ·rw [if_neg c5] at H
   exact absurd H (by simp)
 ·rw [if_neg c4] at H
  exact absurd H (by simp)
end Go.Proofs.Ytdohpjjggjehfaa.Print
end
section
namespace Go.Proofs.Ytdohpjjggjehfaa.Print
open Go.RowKit Go.Proofs.YtdohpjjggjehfaaW.PrintWords Go.Proofs.YtdohpjjggjehfaaW.PrintLast Go.Proofs.YtdohpjjggjehfaaW.PrintMore
attribute [local go_sem] max2_int min2_int max_two min_two max_three min_three max_four min_four   -- for this text's walks alone
attribute [local go_sem ↓] Go.Proofs.Ytdohpjjggjehfaa.Sem.isSome_setCell
attribute [local go_sem] Go.Instr.field Go.asAgg
set_option linter.unusedVariables false
set_option linter.unusedSimpArgs false
mutual
def seal_Unpack.l0:Nat → List Int → Int → List Int → Option (List Int × Int)
 | 0,_,_,_=>none
 | k + 1,x0,x9,x158000=>if x9 < (wrap64 (8 * (x158000.length:Int))) then ((seal_Unpack_1.f x9 x158000).bind fun t160=>(if t160=0 then (seal_Unpack.l0 k x0 (wrap64 (x9 + 1)) x158000) else (some (([]:List Int),1)))) else (seal_Unpack.l1 k ([]:List Int) 0 x0 (x0.length:Int) 0 x158000)
def seal_Unpack.l1:Nat → List Int → Int → List Int → Int → Int → List Int → Option (List Int × Int)
 | 0,_,_,_,_,_,_=>none
 | k + 1,x10,x11,x42,x43,x44,x158000=>if x44 < x43 then (if 0≤x44 then (if x44 < (x42.length:Int) then (seal_Unpack.l2 k x10 x11 0 x42 x43 x44 (rd x42 x44) 0 x158000) else (none)) else (none)) else (some (x10,0))
def seal_Unpack.l2:Nat → List Int → Int → Int → List Int → Int → Int → Int → Int → List Int → Option (List Int × Int)
 | 0,_,_,_,_,_,_,_,_,_=>none
 | k + 1,x10,x11,x14,x42,x43,x44,x48,x49,x158000=>if x49 < x48 then ((seal_Unpack_1.f x11 x158000).bind fun t162=>(seal_Unpack.l2 k x10 (wrap64 (x11 + 1)) (Go.bits .or .u64 (IntKind.u64.wrap (x14 * 2)) t162) x42 x43 x44 x48 (wrap64 (x49 + 1)) x158000)) else (if x10.length < 17592186044416 then (seal_Unpack.l1 k (x10 ++ [x14]) x11 x42 x43 (wrap64 (x44 + 1)) x158000) else (none))
end
def seal_Unpack.f (k:Nat) (l0:List Int) (l1:List Int):Option (List Int × Int):=(seal_total.f k l0).bind fun bt158=>(if bt158.2=0 then (if (l1.length:Int)=(wrap64 (Int.tdiv (wrap64 (bt158.1 + 7)) 8)) then (seal_Unpack.l0 k l0 bt158.1 l1) else (some (([]:List Int),3))) else (some (([]:List Int),bt158.2)))
set_option maxHeartbeats 8000000 in
set_option maxRecDepth 100000 in
theorem seal_Unpack.calls (k:Nat) (A0:Option Addr) (c0:Nat) (l0:List Int) (A1:Option Addr) (c1:Nat) (l1:List Int) (r1:List Int) (r2:Int) (w:World) (hr0:Kd.C (Kd.int .i64) w A0 l0.length l0) (hc0:l0.length≤c0) (hr1:Kd.C (Kd.int .u8) w A1 l1.length l1) (hc1:l1.length≤c1) (h:seal_Unpack.f k l0 l1=some (r1,r2)) :
  Calls Try.prog 37 #[.slice A0 l0.length c0,.slice A1 l1.length c1] w fun e w'=>∃ v0_:Value,e=.returned (.tuple #[v0_,.int .i64 r2])∧Kd.R (Kd.int .u64) 58 w' w.heap.size (fun _=>True) v0_ r1∧Below w.heap.size w w':=by
 have HR0:=zm hr0
 have HC0:=zm hc0
 clear hr0 hc0
 have HR1:=zm hr1
 have HC1:=zm hc1
 clear hr1 hc1
 have HB:=zm (Below.refl w.heap.size w)
 have H:((seal_total.f k l0).bind fun bt158=>(if bt158.2=0 then (if (l1.length:Int)=(wrap64 (Int.tdiv (wrap64 (bt158.1 + 7)) 8)) then (seal_Unpack.l0 k l0 bt158.1 l1) else (some (([]:List Int),3))) else (some (([]:List Int),bt158.2))))=some (r1,r2):=h
 clear h
 replace H:=Option.bind_eq_some_iff.mp H
 obtain ⟨⟨t158,t159⟩,A30,H⟩:=H
 replace H:(if t159=0 then (if (l1.length:Int)=(wrap64 (Int.tdiv (wrap64 (t158 + 7)) 8)) then (seal_Unpack.l0 k l0 t158 l1) else (some (([]:List Int),3))) else (some (([]:List Int),t159)))=some (r1,r2):=H
 have A3:=zm A30
 clear A30
 by_cases c4:t159=0
 ·rw [if_pos c4] at H
  have c4b0:(t159 == 0)=true:=beq_iff_eq.mpr c4
  have c4b1:(t159 != 0)=false:=bne_eq_false_iff_eq.mpr c4
  clear c4
  by_cases c5:(l1.length:Int)=(wrap64 (Int.tdiv (wrap64 (t158 + 7)) 8))
  ·rw [if_pos c5] at H
   have c5b0:((l1.length:Int) == (wrap64 (Int.tdiv (wrap64 (t158 + 7)) 8)))=true:=beq_iff_eq.mpr c5
   have c5b1:((l1.length:Int) != (wrap64 (Int.tdiv (wrap64 (t158 + 7)) 8)))=false:=bne_eq_false_iff_eq.mpr c5
   clear c5
   have H':=zm H
   clear H
   go_enter Try.func37,Try.ntmps37
   go_wp2_with (first|((with_reducible refine gate_dst (N:=3) rfl ?_);refine zbx 3 #[.slice A1 l1.length c1] 24 ?_;intro gb157 hg w6 hbox hb;have n0_:=zkH HB hb;have n1_:=zm (hbox);have n2_:=zkG HB hg;have n3_:=zkG HB hg;clear HB;have HB:=n0_;have BK157:=n1_;have GW157:=n2_;have GE157:=n3_;clear n0_ n1_ n2_ n3_;clear hb hbox hg)|((with_reducible refine gate_callee (f:=58) rfl ?_);refine goesL_ (some 17) rfl rfl Try.func58 (by kernel_rfl) rfl #[.slice A0 l0.length c0] rfl (by (try simp only [List.map_toArray,List.map_cons,List.map_nil]);first|done|rfl|(simp only [List.length_drop,List.length_take];rfl)) ?_;(with_reducible refine (seal_total.calls k _ _ l0 t158 t159 _ ?side1 ?side2 A3.out).mono ?_);(case side1=>exact zC HR0);(case side2=>exact HC0.out);rintro e w' ⟨rfl,⟨nd,rfl⟩⟩;refine ⟨_,rfl,?_⟩;obtain ⟨hcz7_0,hfz7_0⟩:=zc1 BK157.out))
   go_loopg [9] k (fun kq v9 w'=>∃ (x9_1:Int),v9=.int .i64 x9_1∧Aside0 (seal_Unpack.l0 kq l0 x9_1 l1=some (r1,r2))∧Aside0 (kq≤k)∧Aside0 (w'.heap[gb157]?=some (.cells #[(.slice A1 l1.length c1)] 24 (0,0)))∧Aside0 (Below w.heap.size w w'))
   case atStart=>exact ⟨(t158),zs_,H',⟨Nat.le_refl _⟩,⟨zx_⟩,⟨zb_⟩⟩
   case round =>
    clear H'
    try clear c1
    try clear p2
    try clear c3
    try clear c4
    try clear c4b0
    try clear c4b1
    try clear c5
    try clear c5b0
    try clear c5b1
    try clear p6
    try clear hcz7_0
    try clear hfz7_0
    obtain ⟨x9_1,rfl,HA,HK1,BK157,HB⟩:=hrel
    cases gk with
    | zero=>exact absurd HA.out (by simp [seal_Unpack.l0])
    | succ k1 =>
     have H:=HA.out
     clear HA
     simp only [seal_Unpack.l0] at H
     by_cases c8:x9_1 < (wrap64 (8 * (l1.length:Int)))
     ·rw [if_pos c8] at H
      have c8b0:decide (x9_1 < (wrap64 (8 * (l1.length:Int))))=true:=decide_eq_true c8
      clear c8
      replace H:=Option.bind_eq_some_iff.mp H
      obtain ⟨t160,A90,H⟩:=H
      replace H:(if t160=0 then (seal_Unpack.l0 k1 l0 (wrap64 (x9_1 + 1)) l1) else (some (([]:List Int),1)))=some (r1,r2):=H
      have A9:=zm A90
      clear A90
      by_cases c10:t160=0
      ·rw [if_pos c10] at H
       have c10b0:(t160 == 0)=true:=beq_iff_eq.mpr c10
       have c10b1:(t160 != 0)=false:=bne_eq_false_iff_eq.mpr c10
       clear c10
       have H':=zm H
       clear H
       obtain ⟨hcz11_0,hfz11_0⟩:=zc1 BK157.out
       go_wp2_with (first|(go_at_call 59;(with_reducible refine (seal_Unpack_1.calls gb157 x9_1 _ _ l1 t160 _ zx_ ?side1 ?side2 A9.out).mono ?_);(case side1=>exact zC HR1);(case side2=>exact HC1.out);rintro e w' ⟨rfl,⟨nd,rfl⟩⟩))
       go_roundg k1
       case measure=>have:=HK1.out;omega
       case rel=>exact ⟨(wrap64 (x9_1 + 1)),zs_,H',⟨by have:=HK1.out;omega⟩,⟨zx_⟩,⟨zb_⟩⟩
      ·rw [if_neg c10] at H
       have c10b0:(t160 == 0)=false:=beq_eq_false_iff_ne.mpr c10
       have c10b1:(t160 != 0)=true:=bne_iff_ne.mpr c10
       simp only [Option.some.injEq,Prod.mk.injEq] at H
       obtain ⟨rfl,rfl⟩:=H
       obtain ⟨hcz12_0,hfz12_0⟩:=zc1 BK157.out
       go_wp2_with (first|(go_at_call 59;(with_reducible refine (seal_Unpack_1.calls gb157 x9_1 _ _ l1 t160 _ zx_ ?side1 ?side2 A9.out).mono ?_);(case side1=>exact zC HR1);(case side2=>exact HC1.out);rintro e w' ⟨rfl,⟨nd,rfl⟩⟩))
       go_ret2
       exact ⟨_,ze_,zr_,zb_⟩
     ·rw [if_neg c8] at H
      have c8b0:decide (x9_1 < (wrap64 (8 * (l1.length:Int))))=false:=decide_eq_false c8
      clear c8
      have H':=zm H
      clear H
      obtain ⟨hcz13_0,hfz13_0⟩:=zc1 BK157.out
      go_wp2
      go_loopg [10,11,44] k1 (fun kq v10 v11 v44 w'=>∃ (x10_2:List Int) (x11_2:Int) (x44_2:Int),v11=.int .i64 x11_2∧v44=.int .i64 x44_2∧Aside0 (seal_Unpack.l1 kq x10_2 x11_2 l0 (l0.length:Int) x44_2 l1=some (r1,r2))∧Aside0 (kq≤k1)∧Aside0 (Kd.R (Kd.int .u64) 58 w' w.heap.size (fun _=>True) v10 x10_2)∧Aside0 (w'.heap[gb157]?=some (.cells #[(.slice A1 l1.length c1)] 24 (0,0)))∧Aside0 (Below w.heap.size w w'))
      case atStart=>exact ⟨(([]:List Int)),(0),(0),zs_,zs_,H',⟨Nat.le_refl _⟩,⟨zr_⟩,⟨zx_⟩,⟨zb_⟩⟩
      case round =>
       clear H'
       try clear c1
       try clear p2
       try clear c3
       try clear c4
       try clear c4b0
       try clear c4b1
       try clear c5
       try clear c5b0
       try clear c5b1
       try clear p6
       try clear c8
       try clear c8b0
       try clear c10
       try clear c10b0
       try clear c10b1
       try clear hcz11_0
       try clear hcz12_0
       try clear hcz13_0
       try clear hcz7_0
       try clear hfz11_0
       try clear hfz12_0
       try clear hfz13_0
       try clear hfz7_0
       try clear p2
       try clear p6
       obtain ⟨x10_2,x11_2,x44_2,rfl,rfl,HA,HK2,HO_10,BK157,HB⟩:=hrel
       cases gk with
       | zero=>exact absurd HA.out (by simp [seal_Unpack.l1])
       | succ k2 =>
        have H:=HA.out
        clear HA
        simp only [seal_Unpack.l1] at H
        by_cases c14:x44_2 < (l0.length:Int)
        ·rw [if_pos c14] at H
         have c14b0:decide (x44_2 < (l0.length:Int))=true:=decide_eq_true c14
         clear c14
         by_cases c15:0≤x44_2
         ·rw [if_pos c15] at H
          have c15b0:decide (0≤x44_2)=true:=decide_eq_true c15
          clear c15
          by_cases c16:x44_2 < (l0.length:Int)
          ·rw [if_pos c16] at H
           have c16b0:decide (x44_2 < (l0.length:Int))=true:=decide_eq_true c16
           clear c16
           have H':=zm H
           clear H
           have p161:0≤(x44_2:Int):=za_
           have q161:x44_2 < (l0.length:Int):=za_
           obtain ⟨ad161,e161,hx161_0⟩:=Kd.at_int HR0.out x44_2 p161 q161
           cases e161
           replace hx161_0:=zhx HB hx161_0
           replace p161:=eq_true p161
           replace q161:=eq_true q161
           go_wp2
           go_loopg [11,14,49] k2 (fun kq v11 v14 v49 w'=>∃ (x11_3:Int) (x14_3:Int) (x49_3:Int),v11=.int .i64 x11_3∧v14=.int .u64 x14_3∧v49=.int .i64 x49_3∧Aside0 (seal_Unpack.l2 kq x10_2 x11_3 x14_3 l0 (l0.length:Int) x44_2 (rd l0 x44_2) x49_3 l1=some (r1,r2))∧Aside0 (kq≤k2)∧Aside0 (Kd.R (Kd.int .u64) 58 w' w.heap.size (fun _=>True) u10 x10_2)∧Aside0 (w'.heap[gb157]?=some (.cells #[(.slice A1 l1.length c1)] 24 (0,0)))∧Aside0 (Below w.heap.size w w'))
           case atStart=>exact ⟨(x11_2),(0),(0),zs_,zs_,zs_,H',⟨Nat.le_refl _⟩,⟨by (with_reducible repeat (first|apply zrA|apply zrN|apply zrD));exact HO_10.out⟩,⟨zx_⟩,⟨zb_⟩⟩
           case round =>
            clear H'
            try clear c1
            try clear p1
            try clear q1
            try clear hx1
            try clear p2
            try clear c3
            try clear c4
            try clear c4b0
            try clear c4b1
            try clear c5
            try clear c5b0
            try clear c5b1
            try clear p6
            try clear c8
            try clear c8b0
            try clear c10
            try clear c10b0
            try clear c10b1
            try clear c14
            try clear c14b0
            try clear c15
            try clear c15b0
            try clear c16
            try clear c16b0
            try clear p16
            try clear q16
            try clear hx16
            try clear hcz11_0
            try clear hcz12_0
            try clear hcz13_0
            try clear hcz7_0
            try clear hfz11_0
            try clear hfz12_0
            try clear hfz13_0
            try clear hfz7_0
            try clear hx161_0
            try clear p161
            try clear p2
            try clear p6
            try clear q161
            obtain ⟨x11_3,x14_3,x49_3,rfl,rfl,rfl,HA,HK3,HO_10,BK157,HB⟩:=hrel
            cases gk with
            | zero=>exact absurd HA.out (by simp [seal_Unpack.l2])
            | succ k3 =>
             have H:=HA.out
             clear HA
             simp only [seal_Unpack.l2] at H
             by_cases c17:x49_3 < (rd l0 x44_2)
             ·rw [if_pos c17] at H
              have c17b0:decide (x49_3 < (rd l0 x44_2))=true:=decide_eq_true c17
              clear c17
              replace H:=Option.bind_eq_some_iff.mp H
              obtain ⟨t162,A180,H⟩:=H
              replace H:(seal_Unpack.l2 k3 x10_2 (wrap64 (x11_3 + 1)) (Go.bits .or .u64 (IntKind.u64.wrap (x14_3 * 2)) t162) l0 (l0.length:Int) x44_2 (rd l0 x44_2) (wrap64 (x49_3 + 1)) l1)=some (r1,r2):=H
              have A18:=zm A180
              clear A180
              have H':=zm H
              clear H
              go_wp2_with (first|(go_at_call 59;(with_reducible refine (seal_Unpack_1.calls gb157 x11_3 _ _ l1 t162 _ zx_ ?side1 ?side2 A18.out).mono ?_);(case side1=>exact zC HR1);(case side2=>exact HC1.out);rintro e w' ⟨rfl,⟨nd,rfl⟩⟩))
              go_roundg k3
              case measure=>have:=HK1.out;have:=HK2.out;have:=HK3.out;omega
              case rel=>exact ⟨(wrap64 (x11_3 + 1)),(Go.bits .or .u64 (IntKind.u64.wrap (x14_3 * 2)) t162),(wrap64 (x49_3 + 1)),zs_,zs_,zs_,H',⟨by have:=HK1.out;have:=HK2.out;have:=HK3.out;omega⟩,⟨by (with_reducible repeat (first|apply zrA|apply zrN|apply zrD));exact HO_10.out⟩,⟨zx_⟩,⟨zb_⟩⟩
             ·rw [if_neg c17] at H
              have c17b0:decide (x49_3 < (rd l0 x44_2))=false:=decide_eq_false c17
              clear c17
              by_cases c19:x10_2.length < 17592186044416
              ·rw [if_pos c19] at H
               have LMc19:=zm c19
               clear c19
               obtain ⟨y163,hy163⟩:∃ y_:List Int,y_=(x10_2 ++ [x14_3]):=⟨_,rfl⟩
               replace H:(seal_Unpack.l1 k3 y163 x11_3 l0 (l0.length:Int) (wrap64 (x44_2 + 1)) l1)=some (r1,r2):=by first|(rw [hy163];with_reducible exact H)|(have H2_:=(Option.bind_some _ _).symm.trans H;rw [hy163];with_reducible exact H2_)|(have H2_:=(Option.bind_some _ _).symm.trans H;with_reducible exact H2_)|with_reducible exact H|(rw [hy163];exact H)|exact H
               have Ny163:=zm hy163
               clear hy163
               have H':=zm H
               clear H
               go_wp2_with (first|((with_reducible refine gate_builtin (b:=.append) (xs:=#[.tmp 60,.tmp 62]) rfl ?_);at_builtin;refine Kd.R_append (Kd.int .u64) (w0:=w) w.heap.size rfl (.tmp 60) (.tmp 62) 64 58 (.int .u64 0) 8 rfl Try.underlying64 info58 rfl (by decide) (by omega) u10 x10_2 x14_3 [.int .u64 x14_3] (fun _=>True) (fun _=>False) rfl rfl ?aP (fun _ hk=>hk.elim) ?aF ?aO ?aB ?aS ?aL ?_;(case aP=>exact rfl);(case aB=>exact (zb_));(case aF=>exact (fun _ _=>trivial));(case aO=>exact (by (with_reducible repeat (first|apply zrA|apply zrN|apply zrD));exact HO_10.out));(case aS=>exact (below_size (zb_)));(case aL=>have:=LMc19.out;omega);intro v164 w20 ho hb hg hat;rw [← Ny163.out] at ho;have n0_:=zm (blk_grown (g:=gb157) (o:=.cells #[.slice A1 l1.length c1] 24 (0,0)) zx_ hg (Kd.R_ne HO_10.out BK157.out (by decide)));have n1_:=zm (hb);have n2_:=zm (ho);clear BK157 HB HO_10;have BK157:=n0_;have HB:=n1_;have HO165:=n2_;clear n0_ n1_ n2_;clear ho hb hg hat))
               go_roundg k3
               case measure=>have:=HK1.out;have:=HK2.out;have:=HK3.out;omega
               case rel=>exact ⟨(y163),(x11_3),(wrap64 (x44_2 + 1)),zs_,zs_,H',⟨by have:=HK1.out;have:=HK2.out;have:=HK3.out;omega⟩,⟨by (with_reducible repeat (first|apply zrA|apply zrN|apply zrD));exact HO165.out⟩,⟨zx_⟩,⟨zb_⟩⟩
              ·rw [if_neg c19] at H
               exact absurd H (by simp)
          ·rw [if_neg c16] at H
           exact absurd H (by simp)
         ·rw [if_neg c15] at H
          exact absurd H (by simp)
        ·rw [if_neg c14] at H
         have c14b0:decide (x44_2 < (l0.length:Int))=false:=decide_eq_false c14
         clear c14
         simp only [Option.some.injEq,Prod.mk.injEq] at H
         obtain ⟨rfl,rfl⟩:=H
         go_wp2
         go_ret2
         exact ⟨_,ze_,by (with_reducible repeat (first|apply zrA|apply zrN|apply zrD));exact HO_10.out,zb_⟩
  ·rw [if_neg c5] at H
   have c5b0:((l1.length:Int) == (wrap64 (Int.tdiv (wrap64 (t158 + 7)) 8)))=false:=beq_eq_false_iff_ne.mpr c5
   have c5b1:((l1.length:Int) != (wrap64 (Int.tdiv (wrap64 (t158 + 7)) 8)))=true:=bne_iff_ne.mpr c5
   simp only [Option.some.injEq,Prod.mk.injEq] at H
   obtain ⟨rfl,rfl⟩:=H
   go_enter Try.func37,Try.ntmps37
   go_wp2_with (first|((with_reducible refine gate_dst (N:=3) rfl ?_);refine zbx 3 #[.slice A1 l1.length c1] 24 ?_;intro gb157 hg w21 hbox hb;have n0_:=zkH HB hb;have n1_:=zm (hbox);have n2_:=zkG HB hg;have n3_:=zkG HB hg;clear HB;have HB:=n0_;have BK157:=n1_;have GW157:=n2_;have GE157:=n3_;clear n0_ n1_ n2_ n3_;clear hb hbox hg)|((with_reducible refine gate_callee (f:=58) rfl ?_);refine goesL_ (some 17) rfl rfl Try.func58 (by kernel_rfl) rfl #[.slice A0 l0.length c0] rfl (by (try simp only [List.map_toArray,List.map_cons,List.map_nil]);first|done|rfl|(simp only [List.length_drop,List.length_take];rfl)) ?_;(with_reducible refine (seal_total.calls k _ _ l0 t158 t159 _ ?side1 ?side2 A3.out).mono ?_);(case side1=>exact zC HR0);(case side2=>exact HC0.out);rintro e w' ⟨rfl,⟨nd,rfl⟩⟩;refine ⟨_,rfl,?_⟩;obtain ⟨hcz22_0,hfz22_0⟩:=zc1 BK157.out))
   go_ret2
   exact ⟨_,ze_,zr_,zb_⟩
 ·rw [if_neg c4] at H
  have c4b0:(t159 == 0)=false:=beq_eq_false_iff_ne.mpr c4
  have c4b1:(t159 != 0)=true:=bne_iff_ne.mpr c4
  simp only [Option.some.injEq,Prod.mk.injEq] at H
  obtain ⟨rfl,rfl⟩:=H
  go_enter Try.func37,Try.ntmps37
  go_wp2_with (first|((with_reducible refine gate_dst (N:=3) rfl ?_);refine zbx 3 #[.slice A1 l1.length c1] 24 ?_;intro gb157 hg w23 hbox hb;have n0_:=zkH HB hb;have n1_:=zm (hbox);have n2_:=zkG HB hg;have n3_:=zkG HB hg;clear HB;have HB:=n0_;have BK157:=n1_;have GW157:=n2_;have GE157:=n3_;clear n0_ n1_ n2_ n3_;clear hb hbox hg)|((with_reducible refine gate_callee (f:=58) rfl ?_);refine goesL_ (some 17) rfl rfl Try.func58 (by kernel_rfl) rfl #[.slice A0 l0.length c0] rfl (by (try simp only [List.map_toArray,List.map_cons,List.map_nil]);first|done|rfl|(simp only [List.length_drop,List.length_take];rfl)) ?_;(with_reducible refine (seal_total.calls k _ _ l0 t158 t159 _ ?side1 ?side2 A3.out).mono ?_);(case side1=>exact zC HR0);(case side2=>exact HC0.out);rintro e w' ⟨rfl,⟨nd,rfl⟩⟩;refine ⟨_,rfl,?_⟩))
  go_ret2
  exact ⟨_,ze_,zr_,zb_⟩
end Go.Proofs.Ytdohpjjggjehfaa.Print
end
section
namespace Go.Proofs.Ytdohpjjggjehfaa.Print
open Go.RowKit Go.Proofs.YtdohpjjggjehfaaW.PrintWords Go.Proofs.YtdohpjjggjehfaaW.PrintLast Go.Proofs.YtdohpjjggjehfaaW.PrintMore
attribute [local go_sem] max2_int min2_int max_two min_two max_three min_three max_four min_four   -- for this text's walks alone
attribute [local go_sem ↓] Go.Proofs.Ytdohpjjggjehfaa.Sem.isSome_setCell
attribute [local go_sem] Go.Instr.field Go.asAgg
set_option linter.unusedVariables false
set_option linter.unusedSimpArgs false
def slices_Clone_byte_byte.f (l0:List Int):Option (List Int):=(some (([]:List Int):List Int)).bind fun y166=>(if y166.length + l0.length < 140737488355328 then (some (y166 ++ l0)) else (none))
set_option maxHeartbeats 8000000 in
set_option maxRecDepth 100000 in
theorem slices_Clone_byte_byte.calls_some (a0:Addr) (c0:Nat) (l0:List Int) (r:List Int) (w:World) (hr0:Kd.C (Kd.int .u8) w (some a0) l0.length l0) (hc0:l0.length≤c0) (h:slices_Clone_byte_byte.f l0=some r) :
  Calls Try.prog 40 #[.slice (some a0) l0.length c0] w fun e w'=>∃ v0_:Value,e=.returned (v0_)∧Kd.R (Kd.int .u8) 5 w' w.heap.size (fun _=>True) v0_ r∧Below w.heap.size w w':=by
 have HR0:=zm hr0
 have HC0:=zm hc0
 clear hr0 hc0
 have HB:=zm (Below.refl w.heap.size w)
 have H:((some (([]:List Int):List Int)).bind fun y166=>(if y166.length + l0.length < 140737488355328 then (some (y166 ++ l0)) else (none)))=some r:=h
 clear h
 obtain ⟨y166,hy166⟩:∃ y_:List Int,y_=(([]:List Int)):=⟨_,rfl⟩
 replace H:(if y166.length + l0.length < 140737488355328 then (some (y166 ++ l0)) else (none))=some r:=by first|(rw [hy166];with_reducible exact H)|(have H2_:=(Option.bind_some _ _).symm.trans H;rw [hy166];with_reducible exact H2_)|(have H2_:=(Option.bind_some _ _).symm.trans H;with_reducible exact H2_)|with_reducible exact H|(rw [hy166];exact H)|exact H
 have Ny166:=zm hy166
 clear hy166
 by_cases c2:y166.length + l0.length < 140737488355328
 ·rw [if_pos c2] at H
  have LMc2:=zm c2
  clear c2
  obtain ⟨y169,hy169⟩:∃ y_:List Int,y_=(y166 ++ l0):=⟨_,rfl⟩
  replace H:(some y169)=some r:=by first|(rw [hy169];with_reducible exact H)|(have H2_:=(Option.bind_some _ _).symm.trans H;rw [hy169];with_reducible exact H2_)|(have H2_:=(Option.bind_some _ _).symm.trans H;with_reducible exact H2_)|with_reducible exact H|(rw [hy169];exact H)|exact H
  have Ny169:=zm hy169
  clear hy169
  obtain rfl:=Option.some.inj H
  have hq_:=Lib.run_eql_slice_nil (P:=Try.prog) w 24 5 (some a0) l0.length c0 0 0 Try.underlying24
  go_enter Try.func40,Try.ntmps40
  go_wp2_with (first|((with_reducible refine gate_dst (N:=5) rfl ?_);refine Kd.R_lit (Kd.int .u8) _ 5 ?hg (N:=5) ?hd (xs:=([]:List Int)) (inner:=[]) (ok:=fun _=>True) (okp:=fun _=>True) ?hr ?hp (fun _ hk=>hk) trivial (Below.refl _ _) (Nat.le_refl _) (by simp) ?_;(case hd=>rfl);(case hg=>rfl);(case hr=>first|(go_simp;done)|(go_simp;rfl));(case hp=>exact (Reps.none _ _));intro v167 w3 ho4 hb hg_ hnew_;clear hg_ hnew_;(first|rw [← Ny166.out] at ho4|(simp only [Int.reduceToNat] at ho4;rw [← Ny166.out] at ho4));have n0_:=zm (Kd.R_lower ho4 (below_size (zb_)));have n1_:=zkH HB hb;clear HB;have HO168:=n0_;have HB:=n1_;clear n0_ n1_;clear hb ho4)|((with_reducible refine gate_builtin (b:=.append) (xs:=#[.tmp 5,.tmp 6]) rfl ?_);at_builtin;refine Kd.R_append_rows (Kd.int .u8) (w0:=w) w.heap.size rfl (.tmp 5) (.tmp 6) 24 5 (.int .u8 0) 1 rfl Try.underlying24 info5 rfl (by decide) (by omega) v167 y166 l0 _ _ _ (fun _=>True) (fun _=>False) rfl rfl ?aO ?aR (fun _ _ h=>h) (fun _ h=>h.elim) ?aF ?aB ?aS ?aL ?_;(case aR=>exact zC HR0);(case aB=>exact (zb_));(case aF=>exact (fun _ _=>trivial));(case aO=>exact (by (with_reducible repeat (first|apply zrA|apply zrN|apply zrD));exact HO168.out));(case aS=>exact (below_size (zb_)));(case aL=>have:=LMc2.out;omega);intro v170 w5 ho hb hg hat;rw [← Ny169.out] at ho;have n0_:=zm (hb);have n1_:=zm (ho);clear HB HO168;have HB:=n0_;have HO171:=n1_;clear n0_ n1_;clear ho hb hg hat))
  go_ret
  exact ⟨_,ze_,by (with_reducible repeat (first|apply zrA|apply zrN|apply zrD));exact HO171.out,zb_⟩
 ·rw [if_neg c2] at H
  exact absurd H (by simp)
theorem slices_Clone_byte_byte.calls (A0:Option Addr) (c0:Nat) (l0:List Int) (r:List Int) (w:World) (hr0:Kd.C (Kd.int .u8) w A0 l0.length l0) (hc0:l0.length≤c0) (h:slices_Clone_byte_byte.f l0=some r) :
  Calls Try.prog 40 #[.slice A0 l0.length c0] w fun e w'=>∃ v0_:Value,e=.returned (v0_)∧Kd.R (Kd.int .u8) 5 w' w.heap.size (fun _=>True) v0_ r∧Below w.heap.size w w':=by
 rcases A0 with _|a0
 ·have hl:l0=[]:=by
   rcases l0 with _|⟨x,l⟩
   ·rfl
   ·obtain ⟨ad,he,_⟩:=hr0.2.2 (by simp)
    cases he
  subst hl
  have hrr:r=[]:=by
   have h2:slices_Clone_byte_byte.f []=some []:=by first|decide|rfl|(simp [slices_Clone_byte_byte.f];done)
   rw [h2] at h
   exact (Option.some.inj h).symm
  subst hrr
  have HB:=zm (Below.refl w.heap.size w)
  clear h hr0 hc0
  have hq_:=Lib.run_eql_slice_nil (P:=Try.prog) w 24 5 none 0 c0 0 0 Try.underlying24
  go_enter Try.func40,Try.ntmps40
  go_wp2
  go_ret
  exact ⟨_,rfl,Kd.R_nil _ _ _ _ _,HB.out⟩
 ·exact slices_Clone_byte_byte.calls_some a0 c0 l0 r w hr0 hc0 h
def page_Decode_1.f (a0:Int):Option (Bool):=some (a0 != 0)
set_option maxHeartbeats 8000000 in
set_option maxRecDepth 100000 in
theorem page_Decode_1.calls (a0:Int) (r:Bool) (w:World) (h:page_Decode_1.f a0=some r) :
  Calls Try.prog 39 #[.int .u8 a0] w fun e w'=>e=.returned (.bool r)∧Drawn0 w w':=by
 have H:(some (a0 != 0))=some r:=h
 clear h
 obtain rfl:=Option.some.inj H
 go_enter Try.func39,Try.ntmps39
 go_wp2
 go_ret
 exact ⟨by first|rfl|(simp;done)|(simp [*];done),by repeat (first|exact Drawn0.refl _|apply Drawn0.step)⟩
def slices_IndexFunc_byte_byte_39.l0:Nat → List Int → Int → Int → Option (Int)
 | 0,_,_,_=>none
 | k + 1,x0,x7,x8=>if x8 < x7 then (if 0≤x8 then (if x8 < (x0.length:Int) then ((page_Decode_1.f (rd x0 x8)).bind fun t173=>(if t173=true then (some x8) else (slices_IndexFunc_byte_byte_39.l0 k x0 x7 (wrap64 (x8 + 1))))) else (none)) else (none)) else (some (-1))
def slices_IndexFunc_byte_byte_39.f (k:Nat) (l0:List Int) :Option (Int):=slices_IndexFunc_byte_byte_39.l0 k l0 (l0.length:Int) 0
set_option maxHeartbeats 8000000 in
set_option maxRecDepth 100000 in
theorem slices_IndexFunc_byte_byte_39.calls (k:Nat) (A0:Option Addr) (c0:Nat) (l0:List Int)  (r:Int) (w:World) (hr0:Kd.C (Kd.int .u8) w A0 l0.length l0) (hc0:l0.length≤c0) (h:slices_IndexFunc_byte_byte_39.f k l0=some r) :
  Calls Try.prog 60 #[.slice A0 l0.length c0,.func (.func 39) #[] #[]] w fun e w'=>e=.returned (.int .i64 r)∧Below w.heap.size w w':=by
 have HR0:=zm hr0
 have HC0:=zm hc0
 clear hr0 hc0
 have HB:=zm (Below.refl w.heap.size w)
 have H:(slices_IndexFunc_byte_byte_39.l0 k l0 (l0.length:Int) 0)=some r:=h
 clear h
 have H':=zm H
 clear H
 go_enter Try.func60,Try.ntmps60
 go_wp2
 go_loopg [8] k (fun kq v8 w'=>∃ (x8_1:Int),v8=.int .i64 x8_1∧Aside0 (slices_IndexFunc_byte_byte_39.l0 kq l0 (l0.length:Int) x8_1=some r)∧Aside0 (kq≤k)∧Aside0 (Below w.heap.size w w'))
 case atStart=>exact ⟨(0),zs_,H',⟨Nat.le_refl _⟩,⟨zb_⟩⟩
 case round =>
  clear H'
  try clear p2
  obtain ⟨x8_1,rfl,HA,HK1,HB⟩:=hrel
  cases gk with
  | zero=>exact absurd HA.out (by simp [slices_IndexFunc_byte_byte_39.l0])
  | succ k1 =>
   have H:=HA.out
   clear HA
   simp only [slices_IndexFunc_byte_byte_39.l0] at H
   by_cases c3:x8_1 < (l0.length:Int)
   ·rw [if_pos c3] at H
    have c3b0:decide (x8_1 < (l0.length:Int))=true:=decide_eq_true c3
    clear c3
    by_cases c4:0≤x8_1
    ·rw [if_pos c4] at H
     have c4b0:decide (0≤x8_1)=true:=decide_eq_true c4
     clear c4
     by_cases c5:x8_1 < (l0.length:Int)
     ·rw [if_pos c5] at H
      have c5b0:decide (x8_1 < (l0.length:Int))=true:=decide_eq_true c5
      clear c5
      replace H:=Option.bind_eq_some_iff.mp H
      obtain ⟨t173,A60,H⟩:=H
      replace H:(if t173=true then (some x8_1) else (slices_IndexFunc_byte_byte_39.l0 k1 l0 (l0.length:Int) (wrap64 (x8_1 + 1))))=some r:=H
      have A6:=zm A60
      clear A60
      by_cases c7:t173=true
      ·subst c7
       have H1:(some x8_1)=some r:=by rw [if_pos rfl] at H;exact H
       clear H
       have H:=H1
       clear H1
       obtain rfl:=Option.some.inj H
       have p172:0≤(x8_1:Int):=za_
       have q172:x8_1 < (l0.length:Int):=za_
       obtain ⟨ad172,e172,hx172_0⟩:=Kd.at_int HR0.out x8_1 p172 q172
       cases e172
       replace hx172_0:=zhx HB hx172_0
       replace p172:=eq_true p172
       replace q172:=eq_true q172
       go_wp2_with (first|(go_at_call 39;(with_reducible refine (page_Decode_1.calls  (rd l0 x8_1) true _ A6.out).mono ?_);rintro e w' ⟨rfl,⟨nd,rfl⟩⟩))
       go_ret
       exact ⟨ze_,zb_⟩
      ·replace c7:=Bool.eq_false_iff.mpr c7
       subst c7
       have H1:(slices_IndexFunc_byte_byte_39.l0 k1 l0 (l0.length:Int) (wrap64 (x8_1 + 1)))=some r:=by rw [if_neg (show ¬ (false=true) by decide)] at H;exact H
       clear H
       have H:=H1
       clear H1
       have H':=zm H
       clear H
       have p172:0≤(x8_1:Int):=za_
       have q172:x8_1 < (l0.length:Int):=za_
       obtain ⟨ad172,e172,hx172_0⟩:=Kd.at_int HR0.out x8_1 p172 q172
       cases e172
       replace hx172_0:=zhx HB hx172_0
       replace p172:=eq_true p172
       replace q172:=eq_true q172
       go_wp2_with (first|(go_at_call 39;(with_reducible refine (page_Decode_1.calls  (rd l0 x8_1) false _ A6.out).mono ?_);rintro e w' ⟨rfl,⟨nd,rfl⟩⟩))
       go_roundg k1
       case measure=>have:=HK1.out;omega
       case rel=>exact ⟨(wrap64 (x8_1 + 1)),zs_,H',⟨by have:=HK1.out;omega⟩,⟨zb_⟩⟩
     ·rw [if_neg c5] at H
      exact absurd H (by simp)
    ·rw [if_neg c4] at H
     exact absurd H (by simp)
   ·rw [if_neg c3] at H
    have c3b0:decide (x8_1 < (l0.length:Int))=false:=decide_eq_false c3
    clear c3
    obtain rfl:=Option.some.inj H
    go_wp2
    go_ret
    exact ⟨ze_,zb_⟩
def slices_ContainsFunc_byte_byte_39.f (k:Nat) (l0:List Int) :Option (Bool):=(slices_IndexFunc_byte_byte_39.f k l0).bind fun t174=>(some (decide (t174 ≥ 0)))
set_option maxHeartbeats 8000000 in
set_option maxRecDepth 100000 in
theorem slices_ContainsFunc_byte_byte_39.calls (k:Nat) (A0:Option Addr) (c0:Nat) (l0:List Int)  (r:Bool) (w:World) (hr0:Kd.C (Kd.int .u8) w A0 l0.length l0) (hc0:l0.length≤c0) (h:slices_ContainsFunc_byte_byte_39.f k l0=some r) :
  Calls Try.prog 38 #[.slice A0 l0.length c0,.func (.func 39) #[] #[]] w fun e w'=>e=.returned (.bool r)∧Below w.heap.size w w':=by
 have HR0:=zm hr0
 have HC0:=zm hc0
 clear hr0 hc0
 have HB:=zm (Below.refl w.heap.size w)
 have H:((slices_IndexFunc_byte_byte_39.f k l0).bind fun t174=>(some (decide (t174 ≥ 0))))=some r:=h
 clear h
 replace H:=Option.bind_eq_some_iff.mp H
 obtain ⟨t174,A30,H⟩:=H
 replace H:(some (decide (t174 ≥ 0)))=some r:=H
 have A3:=zm A30
 clear A30
 obtain rfl:=Option.some.inj H
 go_enter Try.func38,Try.ntmps38
 go_wp2_with (first|((with_reducible refine gate_callee (f:=60) rfl ?_);refine goesL_ (some 7) rfl rfl Try.func60 (by kernel_rfl) rfl #[.slice A0 l0.length c0,.func (.func 39) #[] #[]] rfl (by (try simp only [List.map_toArray,List.map_cons,List.map_nil]);first|done|rfl|(simp only [List.length_drop,List.length_take];rfl)) ?_;(with_reducible refine (slices_IndexFunc_byte_byte_39.calls k _ _ l0  t174 _ ?side1 ?side2 A3.out).mono ?_);(case side1=>repeat (first|exact HR0.out|(with_reducible refine Kd.C_alloc ?_ _)|(with_reducible refine Kd.C_drewN ?_ _)|(with_reducible refine Kd.C_drew ?_)));(case side2=>exact HC0.out);rintro e w4 ⟨rfl,hb⟩;refine ⟨_,rfl,?_⟩;have n0_:=zkH HB hb;clear HB;have HB:=n0_;clear n0_;(try clear hb);(try clear hb2);(try clear hk);(try clear hi)))
 go_ret
 exact ⟨ze_,zb_⟩
end Go.Proofs.Ytdohpjjggjehfaa.Print
end
section
namespace Go.Proofs.Ytdohpjjggjehfaa.Print
open Go.RowKit Go.Proofs.YtdohpjjggjehfaaW.PrintWords Go.Proofs.YtdohpjjggjehfaaW.PrintLast Go.Proofs.YtdohpjjggjehfaaW.PrintMore
attribute [local go_sem] max2_int min2_int max_two min_two max_three min_three max_four min_four   -- for this text's walks alone
attribute [local go_sem ↓] Go.Proofs.Ytdohpjjggjehfaa.Sem.isSome_setCell
attribute [local go_sem] Go.Instr.field Go.asAgg
set_option linter.unusedVariables false
set_option linter.unusedSimpArgs false
-- CX
-- PG
def page_Decode.f (k:Nat) (p:List Int):Option (Int × Int × Int × Int × List Int × Int) :=
 if p.length=288 then
 (slices_Concat_byte_byte.f k [(p.drop 0).take 256,(p.drop 256).take 32]).bind fun b =>
 (seal_State.f k b).bind fun e=>if e=0 then
 (seal_Unpack.f k [8,8,32,64,64] ((p.drop 256).take 22)).bind fun l=>if l.2=0 then if l.1.length=5 then
 if rd l.1 1=0 then if rd l.1 3 > 1152921504606846976 then some (0,0,0,0,[],30) else if rd l.1 4 > 1152921504606846976 then some (0,0,0,0,[],30) else
 (slices_ContainsFunc_byte_byte_39.f k ((p.drop 278).take 6)).bind fun t=>if t=true then some (0,0,0,0,[],30) else
 (page_Check.f k (wrap64 (rd l.1 0)) (wrap64 (rd l.1 2)) (wrap64 (rd l.1 3)) (wrap64 (rd l.1 4))).bind fun c=>if c=0 then
 (slices_Clone_byte_byte.f ((p.drop 0).take 256)).bind fun d=>some (wrap64 (rd l.1 0),wrap64 (rd l.1 2),wrap64 (rd l.1 3),wrap64 (rd l.1 4),d,0)
 else some (0,0,0,0,[],c)
 else some (0,0,0,0,[],30)
 else none else none
 else some (0,0,0,0,[],e)
 else none
theorem pg_contains (k:Nat) (A0:Option Addr) (c0 n0:Nat) (l0:List Int) (r:Bool) (w:World) (e0:l0.length=n0) (hr0:Kd.C (Kd.int .u8) w A0 n0 l0) (hc0:n0≤c0) (h:slices_ContainsFunc_byte_byte_39.f k l0=some r) :
  Calls Try.prog 38 #[.slice A0 n0 c0,.func (.func 39) #[] #[]] w fun e w'=>e=.returned (.bool r)∧Below w.heap.size w w':=by
 subst e0
 exact slices_ContainsFunc_byte_byte_39.calls k A0 c0 l0 r w hr0 hc0 h
theorem pg_clone (A0:Option Addr) (c0 n0:Nat) (l0:List Int) (r:List Int) (w:World) (e0:l0.length=n0) (hr0:Kd.C (Kd.int .u8) w A0 n0 l0) (hc0:n0≤c0) (h:slices_Clone_byte_byte.f l0=some r) :
  Calls Try.prog 40 #[.slice A0 n0 c0] w fun e w'=>∃ A c,e=.returned (.slice A r.length c)∧Kd.R (Kd.int .u8) 5 w' w.heap.size (fun _=>True) (.slice A r.length c) r∧Below w.heap.size w w':=by
 subst e0
 refine (slices_Clone_byte_byte.calls A0 c0 l0 r w hr0 hc0 h).mono ?_
 rintro e w' ⟨v,rfl,ho,hb⟩
 obtain ⟨A,c,rfl⟩:=Kd.R_slice ho
 exact ⟨A,c,rfl,ho,hb⟩
theorem pg_unpack (k:Nat) (A0:Option Addr) (c0:Nat) (l0:List Int) (A1:Option Addr) (c1 n1:Nat) (l1:List Int) (r1:List Int) (r2:Int) (w:World) (e1:l1.length=n1) (hr0:Kd.C (Kd.int .i64) w A0 l0.length l0) (hc0:l0.length≤c0) (hr1:Kd.C (Kd.int .u8) w A1 n1 l1) (hc1:n1≤c1) (h:seal_Unpack.f k l0 l1=some (r1,r2)) :
  Calls Try.prog 37 #[.slice A0 l0.length c0,.slice A1 n1 c1] w fun e w'=>∃ (A:Option Addr) (c:Nat),e=.returned (.tuple #[.slice A r1.length c,.int .i64 r2])∧r1.length≤c∧Kd.C (Kd.int .u64) w' A r1.length r1∧Below w.heap.size w w':=by
 subst e1
 refine (seal_Unpack.calls k A0 c0 l0 A1 c1 l1 r1 r2 w hr0 hc0 hr1 hc1 h).mono ?_
 rintro e w' ⟨v,rfl,ho,hb⟩
 obtain ⟨A,c,rfl,hl,hC⟩:=Kd.R_reads ho
 exact ⟨A,c,rfl,hl,hC,hb⟩
set_option maxHeartbeats 4000000 in
set_option maxRecDepth 100000 in
theorem page_Decode.calls (k:Nat) (p:List Int) (r1:Int) (r2:Int) (r3:Int) (r4:Int) (r5:List Int) (r6:Int) (w:World) (h:page_Decode.f k p=some (r1,r2,r3,r4,r5,r6)) :
  Calls Try.prog 14 #[.agg (pc p)] w fun e w'=>∃ v1_:Value,e=.returned (.tuple #[.agg #[.int .i64 r1,.int .i64 r2,.int .i64 r3,.int .i64 r4],v1_,.int .i64 r6])∧Kd.R (Kd.int .u8) 5 w' w.heap.size (fun _=>True) v1_ r5∧Below w.heap.size w w':=by
 have hu29:=Try.underlying29
 have hu23:=Try.underlying23
 have H:page_Decode.f k p=some (r1,r2,r3,r4,r5,r6):=h
 clear h
 unfold page_Decode.f at H
 have hg_:=Cw.gt_ H;clear H;obtain ⟨hp,H⟩:=hg_
 have hg_:=Option.bind_eq_some_iff.mp H;clear H;obtain ⟨b,F0,H⟩:=hg_;have hh_:=zm F0;clear F0;have F0:=hh_;clear hh_;(try dsimp only at H);have hg_:=Option.bind_eq_some_iff.mp H;clear H;obtain ⟨ec,F1,H⟩:=hg_;have hh_:=zm F1;clear F1;have F1:=hh_;clear hh_;(try dsimp only at H)
 have hh_:=zm hp;clear hp;have hp:=hh_;clear hh_;have hh_:=zm H;clear H;have H:=hh_;clear hh_
 go_enter Try.func14,Try.ntmps14
 go_wp2_with (first|((with_reducible refine gate_ (.box 29 _) rfl ?_);refine box_event rfl rfl (pg_box rfl rfl) ?_;rintro g1 hg w1 hbk hb;skip;clear hg;have hh_:=zm hbk;clear hbk;have hbk:=hh_;clear hh_;have hh_:=zm hb;clear hb;have hb:=hh_;clear hh_)|((with_reducible refine gate_ (.alloc 23) rfl ?_);refine box_event rfl rfl (pg_new23 rfl) ?_;rintro g2 hg w1 hbk hb;have hge2:Aside0 (w.heap.size≤g2):=⟨by rw [hg];exact below_size (by repeat (first|exact Below.refl _ _|with_reducible apply zlN|with_reducible apply zlA|refine below_step ?_ (Aside0.out (by assumption))))⟩;clear hg;have hh_:=zm hbk;clear hbk;have hbk:=hh_;clear hh_;have hh_:=zm hb;clear hb;have hb:=hh_;clear hh_))
 refine Cw.dstart (by as_aux_lemma=>kernel_rfl) rfl (fun wd hb=>?_)
 have hh_:=zm hb;clear hb;have hb:=hh_;clear hh_
 refine zpu 0 ?_
 refine zpu 1 ?_
 refine zpu 2 ?_
 refine zpu 3 ?_
 refine Cw.done1 (i:=4) (N:=some 14) (by simp only [List.getElem?_toArray,List.getElem?_cons_succ,List.getElem?_cons_zero];rfl) rfl (by as_aux_lemma=>kernel_rfl) (fun K hK=>?_)
 refine Cw.dnew (fun g=>.slice (some ⟨g,0,none⟩) 2 2) (by rfl) rfl (by apply pg_lit2 <;> rfl) ?_
 rintro gz hg w1 hbk hb
 clear hg
 have hh_:=zm hbk;clear hbk;have hbk:=hh_;clear hh_;have hh_:=zm hb;clear hb;have hb:=hh_;clear hh_
 refine hK.out _ _ (by repeat (first|exact Below.refl _ _|with_reducible apply zlN|with_reducible apply zlA|refine below_step ?_ (Aside0.out (by assumption)))) (fun _=>?_)
 clear hK K
 refine znm (some 14) ?_
 refine Cw.done1 (i:=5) (N:=some 15) (by simp only [List.getElem?_toArray,List.getElem?_cons_succ,List.getElem?_cons_zero];rfl) rfl (by as_aux_lemma=>kernel_rfl) (fun K hK=>?_)
 refine goes_ Try.func32 (by as_aux_lemma=>kernel_rfl) rfl _ (by rfl) rfl rfl (by go_simp;rfl) ?_
 refine (slices_Concat_byte_byte.calls k (some ⟨gz,0,none⟩) 2 [(p.drop 0).take 256,(p.drop 256).take 32] b _ (pg_two (n0:=256) (n1:=32) (by rw [List.length_take,List.length_drop,hp.out];rfl) (by rw [List.length_take,List.length_drop,hp.out];rfl) (zbB (Aside0.out (by assumption)) (by repeat (first|exact Below.refl _ _|with_reducible apply zlN|with_reducible apply zlA|refine below_step ?_ (Aside0.out (by assumption))))) (pg_C (zbB (Aside0.out (by assumption)) (by repeat (first|exact Below.refl _ _|with_reducible apply zlN|with_reducible apply zlA|refine below_step ?_ (Aside0.out (by assumption))))) (by rw [hp.out];decide) hp.out) (by decide) (pg_C (zbB (Aside0.out (by assumption)) (by repeat (first|exact Below.refl _ _|with_reducible apply zlN|with_reducible apply zlA|refine below_step ?_ (Aside0.out (by assumption))))) (by rw [hp.out];decide) hp.out) (by decide)) (by simp) F0.out).mono ?_
 rintro e w1 ⟨vb,rfl,ho,hb⟩
 obtain ⟨Ab,cbb,rfl⟩:=Kd.R_slice ho
 have hrb:=zm (Kd.R_reads' ho).2.2
 have hcb:=zm (Kd.R_reads' ho).2.1
 clear ho
 have hh_:=zm hb;clear hb;have hb:=hh_;clear hh_
 refine ⟨_,rfl,?_⟩
 refine hK.out _ _ (by repeat (first|exact Below.refl _ _|with_reducible apply zlN|with_reducible apply zlA|refine below_step ?_ (Aside0.out (by assumption)))) (fun _=>?_)
 clear hK K
 refine znm (some 15) ?_
 refine Cw.done1 (i:=6) (N:=some 16) (by simp only [List.getElem?_toArray,List.getElem?_cons_succ,List.getElem?_cons_zero];rfl) rfl (by as_aux_lemma=>kernel_rfl) (fun K hK=>?_)
 refine goes_ Try.func36 (by as_aux_lemma=>kernel_rfl) rfl _ (by rfl) rfl rfl (by go_simp;rfl) ?_
 refine (seal_State.calls k Ab cbb b ec _ (Kd.C_below (Aside0.out (by assumption)) (by repeat (first|exact Below.refl _ _|with_reducible apply zlN|with_reducible apply zlA|refine below_step ?_ (Aside0.out (by assumption))))) hcb.out F1.out).mono ?_
 rintro e w1 ⟨rfl,hb⟩
 have hh_:=zm hb;clear hb;have hb:=hh_;clear hh_
 refine ⟨_,rfl,?_⟩
 refine hK.out _ _ (by repeat (first|exact Below.refl _ _|with_reducible apply zlN|with_reducible apply zlA|refine below_step ?_ (Aside0.out (by assumption)))) (fun _=>?_)
 clear hK K
 refine znm (some 16) ?_
 refine zpu 7 ?_
 refine zdo ?_
 replace H:=H.out
 by_cases hz:ec=0
 rotate_left
 ·rw [if_neg hz] at H
  simp only [Option.some.injEq,Prod.mk.injEq] at H
  obtain ⟨rfl,rfl,rfl,rfl,rfl,rfl⟩:=H
  have hz0:(ec != 0)=true:=bne_iff_ne.mpr hz
  clear hz
  go_wp2_with (first|((with_reducible refine gate_ (.store 23 (.tmp 2) _) rfl ?_);refine Cw.put_event (g:=g2) (ys:=[.int .i64 0,.int .i64 0,.int .i64 0,.int .i64 0]) rfl rfl rfl (by apply pg_st23;exact rfl;exact rfl;exact rfl;exact (zbB (Aside0.out (by assumption)) (by repeat (first|exact Below.refl _ _|with_reducible apply zlN|with_reducible apply zlA|refine below_step ?_ (Aside0.out (by assumption)))))) ?_;rintro w2 hw2;have hb2:Aside0 (Below w.heap.size w w2):=⟨by rw [hw2];exact Cw.setL_below hge2.out _ _ _ (by repeat (first|exact Below.refl _ _|with_reducible apply zlN|with_reducible apply zlA|refine below_step ?_ (Aside0.out (by assumption))))⟩;have hzz:Aside0 (w2.heap[g2]?=some (.cells #[.int .i64 0,.int .i64 0,.int .i64 0,.int .i64 0] 23 (0,0))):=⟨by rw [hw2];exact Cw.setL_full [.int .i64 0,.int .i64 0,.int .i64 0,.int .i64 0] (show _=some (Obj.cells #[.int .i64 0,.int .i64 0,.int .i64 0,.int .i64 0] 23 (0,0)) from (zbB (Aside0.out (by assumption)) (by repeat (first|exact Below.refl _ _|with_reducible apply zlN|with_reducible apply zlA|refine below_step ?_ (Aside0.out (by assumption)))))) rfl⟩;clear hw2))
  refine bodyPost_ret (results_ctt rfl _ _ g2 23 #[.int .i64 0,.int .i64 0,.int .i64 0,.int .i64 0] (0,0) _ rfl hzz.out Try.underlying23 rfl (by kernel_rfl)) rfl ?_
  exact ⟨_,rfl,Kd.R_nil _ _ _ _ _,hb2.out⟩
 subst hz
 rw [if_pos rfl] at H
 have hg_:=Option.bind_eq_some_iff.mp H;clear H;obtain ⟨⟨l1,le⟩,F2,H⟩:=hg_;have hh_:=zm F2;clear F2;have F2:=hh_;clear hh_;(try dsimp only at H);have hg_:=Cw.gt_ H;clear H;obtain ⟨rfl,H⟩:=hg_;have hg_:=Cw.gt_ H;clear H;obtain ⟨hl5,H⟩:=hg_
 have hh_:=zm H;clear H;have H:=hh_;clear hh_;have hh_:=zm hl5;clear hl5;have hl5:=hh_;clear hh_
 go_wp2_with fail
 refine Cw.dstart (by as_aux_lemma=>kernel_rfl) rfl (fun wd hb=>?_)
 have hh_:=zm hb;clear hb;have hb:=hh_;clear hh_
 refine zpu 1 ?_
 refine zpu 2 ?_
 refine Cw.done1 (i:=0) (N:=some 22) (by simp only [List.getElem?_toArray,List.getElem?_cons_succ,List.getElem?_cons_zero];rfl) rfl (by as_aux_lemma=>kernel_rfl) (fun K hK=>?_)
 refine goes_ Try.func30 (by as_aux_lemma=>kernel_rfl) rfl _ (by rfl) rfl rfl (by go_simp;rfl) ?_
 refine (page_widths.calls [8,8,32,64,64] _ rfl).mono ?_
 rintro e w1 ⟨vJ,rfl,hoJ,hb⟩
 obtain ⟨AJ,cJ,rfl⟩:=Kd.R_slice hoJ
 have hcJ:=zm (Kd.R_reads' hoJ).2.1
 have hrJ:=zm (Kd.R_reads' hoJ).2.2
 clear hoJ
 have hh_:=zm hb;clear hb;have hb:=hh_;clear hh_
 refine ⟨_,rfl,?_⟩
 refine hK.out _ _ (by repeat (first|exact Below.refl _ _|with_reducible apply zlN|with_reducible apply zlA|refine below_step ?_ (Aside0.out (by assumption)))) (fun _=>?_)
 clear hK K
 refine znm (some 22) ?_
 refine Cw.done1 (i:=3) (N:=some 25) (by simp only [List.getElem?_toArray,List.getElem?_cons_succ,List.getElem?_cons_zero];rfl) rfl (by as_aux_lemma=>kernel_rfl) (fun K hK=>?_)
 refine goes_ Try.func37 (by as_aux_lemma=>kernel_rfl) rfl _ (by rfl) rfl rfl (by go_simp;rfl) ?_
 refine (pg_unpack k AJ cJ [8,8,32,64,64] (some ⟨g1,256,none⟩) 32 22 ((p.drop 256).take 22) l1 0 _ (by rw [List.length_take,List.length_drop,hp.out];rfl) (Kd.C_below (Aside0.out (by assumption)) (by repeat (first|exact Below.refl _ _|with_reducible apply zlN|with_reducible apply zlA|refine below_step ?_ (Aside0.out (by assumption))))) hcJ.out (pg_C (zbB (Aside0.out (by assumption)) (by repeat (first|exact Below.refl _ _|with_reducible apply zlN|with_reducible apply zlA|refine below_step ?_ (Aside0.out (by assumption))))) (by rw [hp.out];decide) hp.out) (by decide) F2.out).mono ?_
 rintro e w1 ⟨A1,c1,rfl,hc1,hr1,hb⟩
 obtain ⟨ad1,rfl,_⟩:=hr1.2.2 (by rw [hl5.out];omega)
 rw [hl5.out] at hr1 hc1 ⊢
 have hh_:=zm hc1;clear hc1;have hc1:=hh_;clear hh_;have hh_:=zm hr1;clear hr1;have hr1:=hh_;clear hh_;have hh_:=zm hb;clear hb;have hb:=hh_;clear hh_
 refine ⟨_,rfl,?_⟩
 refine hK.out _ _ (by repeat (first|exact Below.refl _ _|with_reducible apply zlN|with_reducible apply zlA|refine below_step ?_ (Aside0.out (by assumption)))) (fun _=>?_)
 clear hK K
 refine znm (some 25) ?_
 refine zpu 4 ?_
 refine zpu 5 ?_
 refine zpu 6 ?_
 refine zpu 7 ?_
 refine zpu 8 ?_
 refine zdo ?_
 replace H:=H.out
 have q5:=hl5.out
 by_cases q1:rd l1 1=0
 rotate_left
 ·rw [if_neg q1] at H
  simp only [Option.some.injEq,Prod.mk.injEq] at H
  obtain ⟨rfl,rfl,rfl,rfl,rfl,rfl⟩:=H
  have q1b:(rd l1 1 != 0)=true:=bne_iff_ne.mpr q1
  clear q1
  go_wp2_with (first|((with_reducible refine gate_ (.load 58 _) rfl ?_);refine Kd.event_run rfl (by apply pg_u64;exact rfl;exact rfl;exact (Kd.C_below (Aside0.out (by assumption)) (by repeat (first|exact Below.refl _ _|with_reducible apply zlN|with_reducible apply zlA|refine below_step ?_ (Aside0.out (by assumption)))));omega;omega) ?_)|((with_reducible refine Cw.guarded rfl ?gw ?_);(case gw=>first|rfl|(go_simp;done));dsimp only)|((with_reducible refine gate_ (.store 23 (.tmp 2) _) rfl ?_);refine Cw.put_event (g:=g2) (ys:=[.int .i64 0,.int .i64 0,.int .i64 0,.int .i64 0]) rfl rfl rfl (by apply pg_st23;exact rfl;exact rfl;exact rfl;exact (zbB (Aside0.out (by assumption)) (by repeat (first|exact Below.refl _ _|with_reducible apply zlN|with_reducible apply zlA|refine below_step ?_ (Aside0.out (by assumption)))))) ?_;rintro w2 hw2;have hb2:Aside0 (Below w.heap.size w w2):=⟨by rw [hw2];exact Cw.setL_below hge2.out _ _ _ (by repeat (first|exact Below.refl _ _|with_reducible apply zlN|with_reducible apply zlA|refine below_step ?_ (Aside0.out (by assumption))))⟩;have hzz:Aside0 (w2.heap[g2]?=some (.cells #[.int .i64 0,.int .i64 0,.int .i64 0,.int .i64 0] 23 (0,0))):=⟨by rw [hw2];exact Cw.setL_full [.int .i64 0,.int .i64 0,.int .i64 0,.int .i64 0] (show _=some (Obj.cells #[.int .i64 0,.int .i64 0,.int .i64 0,.int .i64 0] 23 (0,0)) from (zbB (Aside0.out (by assumption)) (by repeat (first|exact Below.refl _ _|with_reducible apply zlN|with_reducible apply zlA|refine below_step ?_ (Aside0.out (by assumption)))))) rfl⟩;clear hw2))
  refine bodyPost_ret (results_ctt rfl _ _ g2 23 #[.int .i64 0,.int .i64 0,.int .i64 0,.int .i64 0] (0,0) _ rfl hzz.out Try.underlying23 rfl (by kernel_rfl)) rfl ?_
  exact ⟨_,rfl,Kd.R_nil _ _ _ _ _,hb2.out⟩
 rw [if_pos q1] at H
 have q1b:(rd l1 1 != 0)=false:=by rw [q1];rfl
 clear q1
 by_cases q3:rd l1 3 > 1152921504606846976
 ·rw [if_pos q3] at H
  simp only [Option.some.injEq,Prod.mk.injEq] at H
  obtain ⟨rfl,rfl,rfl,rfl,rfl,rfl⟩:=H
  have q3b:decide (1152921504606846976 < rd l1 3)=true:=decide_eq_true q3
  clear q3
  go_wp2_with (first|((with_reducible refine gate_ (.load 58 _) rfl ?_);refine Kd.event_run rfl (by apply pg_u64;exact rfl;exact rfl;exact (Kd.C_below (Aside0.out (by assumption)) (by repeat (first|exact Below.refl _ _|with_reducible apply zlN|with_reducible apply zlA|refine below_step ?_ (Aside0.out (by assumption)))));omega;omega) ?_)|((with_reducible refine Cw.guarded rfl ?gw ?_);(case gw=>first|rfl|(go_simp;done));dsimp only)|((with_reducible refine gate_ (.store 23 (.tmp 2) _) rfl ?_);refine Cw.put_event (g:=g2) (ys:=[.int .i64 0,.int .i64 0,.int .i64 0,.int .i64 0]) rfl rfl rfl (by apply pg_st23;exact rfl;exact rfl;exact rfl;exact (zbB (Aside0.out (by assumption)) (by repeat (first|exact Below.refl _ _|with_reducible apply zlN|with_reducible apply zlA|refine below_step ?_ (Aside0.out (by assumption)))))) ?_;rintro w2 hw2;have hb2:Aside0 (Below w.heap.size w w2):=⟨by rw [hw2];exact Cw.setL_below hge2.out _ _ _ (by repeat (first|exact Below.refl _ _|with_reducible apply zlN|with_reducible apply zlA|refine below_step ?_ (Aside0.out (by assumption))))⟩;have hzz:Aside0 (w2.heap[g2]?=some (.cells #[.int .i64 0,.int .i64 0,.int .i64 0,.int .i64 0] 23 (0,0))):=⟨by rw [hw2];exact Cw.setL_full [.int .i64 0,.int .i64 0,.int .i64 0,.int .i64 0] (show _=some (Obj.cells #[.int .i64 0,.int .i64 0,.int .i64 0,.int .i64 0] 23 (0,0)) from (zbB (Aside0.out (by assumption)) (by repeat (first|exact Below.refl _ _|with_reducible apply zlN|with_reducible apply zlA|refine below_step ?_ (Aside0.out (by assumption)))))) rfl⟩;clear hw2))
  refine bodyPost_ret (results_ctt rfl _ _ g2 23 #[.int .i64 0,.int .i64 0,.int .i64 0,.int .i64 0] (0,0) _ rfl hzz.out Try.underlying23 rfl (by kernel_rfl)) rfl ?_
  exact ⟨_,rfl,Kd.R_nil _ _ _ _ _,hb2.out⟩
 rw [if_neg q3] at H
 have q3b:decide (1152921504606846976 < rd l1 3)=false:=decide_eq_false q3
 clear q3
 by_cases q4:rd l1 4 > 1152921504606846976
 ·rw [if_pos q4] at H
  simp only [Option.some.injEq,Prod.mk.injEq] at H
  obtain ⟨rfl,rfl,rfl,rfl,rfl,rfl⟩:=H
  have q4b:decide (1152921504606846976 < rd l1 4)=true:=decide_eq_true q4
  clear q4
  go_wp2_with (first|((with_reducible refine gate_ (.load 58 _) rfl ?_);refine Kd.event_run rfl (by apply pg_u64;exact rfl;exact rfl;exact (Kd.C_below (Aside0.out (by assumption)) (by repeat (first|exact Below.refl _ _|with_reducible apply zlN|with_reducible apply zlA|refine below_step ?_ (Aside0.out (by assumption)))));omega;omega) ?_)|((with_reducible refine Cw.guarded rfl ?gw ?_);(case gw=>first|rfl|(go_simp;done));dsimp only)|((with_reducible refine gate_ (.store 23 (.tmp 2) _) rfl ?_);refine Cw.put_event (g:=g2) (ys:=[.int .i64 0,.int .i64 0,.int .i64 0,.int .i64 0]) rfl rfl rfl (by apply pg_st23;exact rfl;exact rfl;exact rfl;exact (zbB (Aside0.out (by assumption)) (by repeat (first|exact Below.refl _ _|with_reducible apply zlN|with_reducible apply zlA|refine below_step ?_ (Aside0.out (by assumption)))))) ?_;rintro w2 hw2;have hb2:Aside0 (Below w.heap.size w w2):=⟨by rw [hw2];exact Cw.setL_below hge2.out _ _ _ (by repeat (first|exact Below.refl _ _|with_reducible apply zlN|with_reducible apply zlA|refine below_step ?_ (Aside0.out (by assumption))))⟩;have hzz:Aside0 (w2.heap[g2]?=some (.cells #[.int .i64 0,.int .i64 0,.int .i64 0,.int .i64 0] 23 (0,0))):=⟨by rw [hw2];exact Cw.setL_full [.int .i64 0,.int .i64 0,.int .i64 0,.int .i64 0] (show _=some (Obj.cells #[.int .i64 0,.int .i64 0,.int .i64 0,.int .i64 0] 23 (0,0)) from (zbB (Aside0.out (by assumption)) (by repeat (first|exact Below.refl _ _|with_reducible apply zlN|with_reducible apply zlA|refine below_step ?_ (Aside0.out (by assumption)))))) rfl⟩;clear hw2))
  refine bodyPost_ret (results_ctt rfl _ _ g2 23 #[.int .i64 0,.int .i64 0,.int .i64 0,.int .i64 0] (0,0) _ rfl hzz.out Try.underlying23 rfl (by kernel_rfl)) rfl ?_
  exact ⟨_,rfl,Kd.R_nil _ _ _ _ _,hb2.out⟩
 rw [if_neg q4] at H
 have q4b:decide (1152921504606846976 < rd l1 4)=false:=decide_eq_false q4
 clear q4
 have hg_:=Option.bind_eq_some_iff.mp H;clear H;obtain ⟨t,F3,H⟩:=hg_;have hh_:=zm F3;clear F3;have F3:=hh_;clear hh_;(try dsimp only at H)
 by_cases qt:t=true
 ·rw [if_pos qt] at H
  simp only [Option.some.injEq,Prod.mk.injEq] at H
  obtain ⟨rfl,rfl,rfl,rfl,rfl,rfl⟩:=H
  subst qt
  go_wp2_with (first|((with_reducible refine gate_ (.load 58 _) rfl ?_);refine Kd.event_run rfl (by apply pg_u64;exact rfl;exact rfl;exact (Kd.C_below (Aside0.out (by assumption)) (by repeat (first|exact Below.refl _ _|with_reducible apply zlN|with_reducible apply zlA|refine below_step ?_ (Aside0.out (by assumption)))));omega;omega) ?_)|((with_reducible refine Cw.guarded rfl ?gw ?_);(case gw=>first|rfl|(go_simp;done));dsimp only)|(go_at_call 38;refine (pg_contains k (some ⟨g1,278,none⟩) 10 6 ((p.drop 278).take 6) _ _ (by rw [List.length_take,List.length_drop,hp.out];rfl) (pg_C (zbB (Aside0.out (by assumption)) (by repeat (first|exact Below.refl _ _|with_reducible apply zlN|with_reducible apply zlA|refine below_step ?_ (Aside0.out (by assumption))))) (by rw [hp.out];decide) hp.out) (by decide) F3.out).mono ?_;rintro e w1 ⟨rfl,hb⟩;have hh_:=zm hb;clear hb;have hb:=hh_;clear hh_)|((with_reducible refine gate_ (.store 23 (.tmp 2) _) rfl ?_);refine Cw.put_event (g:=g2) (ys:=[.int .i64 0,.int .i64 0,.int .i64 0,.int .i64 0]) rfl rfl rfl (by apply pg_st23;exact rfl;exact rfl;exact rfl;exact (zbB (Aside0.out (by assumption)) (by repeat (first|exact Below.refl _ _|with_reducible apply zlN|with_reducible apply zlA|refine below_step ?_ (Aside0.out (by assumption)))))) ?_;rintro w2 hw2;have hb2:Aside0 (Below w.heap.size w w2):=⟨by rw [hw2];exact Cw.setL_below hge2.out _ _ _ (by repeat (first|exact Below.refl _ _|with_reducible apply zlN|with_reducible apply zlA|refine below_step ?_ (Aside0.out (by assumption))))⟩;have hzz:Aside0 (w2.heap[g2]?=some (.cells #[.int .i64 0,.int .i64 0,.int .i64 0,.int .i64 0] 23 (0,0))):=⟨by rw [hw2];exact Cw.setL_full [.int .i64 0,.int .i64 0,.int .i64 0,.int .i64 0] (show _=some (Obj.cells #[.int .i64 0,.int .i64 0,.int .i64 0,.int .i64 0] 23 (0,0)) from (zbB (Aside0.out (by assumption)) (by repeat (first|exact Below.refl _ _|with_reducible apply zlN|with_reducible apply zlA|refine below_step ?_ (Aside0.out (by assumption)))))) rfl⟩;clear hw2))
  refine bodyPost_ret (results_ctt rfl _ _ g2 23 #[.int .i64 0,.int .i64 0,.int .i64 0,.int .i64 0] (0,0) _ rfl hzz.out Try.underlying23 rfl (by kernel_rfl)) rfl ?_
  exact ⟨_,rfl,Kd.R_nil _ _ _ _ _,hb2.out⟩
 rw [if_neg qt] at H
 obtain rfl:t=false:=by simpa using qt
 clear qt
 have hg_:=Option.bind_eq_some_iff.mp H;clear H;obtain ⟨cc,F4,H⟩:=hg_;have hh_:=zm F4;clear F4;have F4:=hh_;clear hh_;(try dsimp only at H)
 have hh_:=zm H;clear H;have H:=hh_;clear hh_;have hh_:=zm q5;clear q5;have q5:=hh_;clear hh_
 go_wp2_with (first|((with_reducible refine gate_ (.load 58 _) rfl ?_);refine Kd.event_run rfl (by apply pg_u64;exact rfl;exact rfl;exact (Kd.C_below (Aside0.out (by assumption)) (by repeat (first|exact Below.refl _ _|with_reducible apply zlN|with_reducible apply zlA|refine below_step ?_ (Aside0.out (by assumption)))));(have:=hl5.out;omega);omega) ?_)|((with_reducible refine Cw.guarded rfl ?gw ?_);(case gw=>first|rfl|(go_simp;done));dsimp only)|(go_at_call 38;refine (pg_contains k (some ⟨g1,278,none⟩) 10 6 ((p.drop 278).take 6) _ _ (by rw [List.length_take,List.length_drop,hp.out];rfl) (pg_C (zbB (Aside0.out (by assumption)) (by repeat (first|exact Below.refl _ _|with_reducible apply zlN|with_reducible apply zlA|refine below_step ?_ (Aside0.out (by assumption))))) (by rw [hp.out];decide) hp.out) (by decide) F3.out).mono ?_;rintro e w1 ⟨rfl,hb⟩;have hh_:=zm hb;clear hb;have hb:=hh_;clear hh_))
 refine Cw.dstart (by as_aux_lemma=>kernel_rfl) rfl (fun wd hb=>?_)
 have hh_:=zm hb;clear hb;have hb:=hh_;clear hh_
 have q5:=hl5.out
 refine zpu 0 ?_
 refine zpu 1 ?_
 refine Cw.dtk (i:=2) (v:=?_) (a':=?_) (by simp only [List.getElem?_toArray,List.getElem?_cons_succ,List.getElem?_cons_zero];rfl) rfl (by as_aux_lemma=>kernel_rfl) (by rfl) (by exact fun _ _ _ h=>h) ?_ (by repeat (first|exact Below.refl _ _|with_reducible apply zlN|with_reducible apply zlA|refine below_step ?_ (Aside0.out (by assumption)))) ?_ ?_
 rotate_left
 ·intro w' hs_
  have hs:=zm hs_
  clear hs_
  apply Eq.trans
  ·apply pg_u64z
   ·rfl
   ·rfl
   ·exact (Kd.C_below (Aside0.out (by assumption)) (by repeat (first|exact Below.refl _ _|with_reducible apply zlN|with_reducible apply zlA|refine below_step ?_ (Aside0.out (by assumption)))))
   ·omega
  ·rfl
 rotate_left
 ·simp only [Act.put,List.setIfInBounds_toArray,List.set_cons_zero,List.set_cons_succ,i64_w,i32_w]
  rfl
 refine zpu 3 ?_
 refine zpu 4 ?_
 refine zpu 5 ?_
 refine Cw.dtk (i:=6) (v:=?_) (a':=?_) (by simp only [List.getElem?_toArray,List.getElem?_cons_succ,List.getElem?_cons_zero];rfl) rfl (by as_aux_lemma=>kernel_rfl) (by rfl) (by exact fun _ _ _ h=>h) ?_ (by repeat (first|exact Below.refl _ _|with_reducible apply zlN|with_reducible apply zlA|refine below_step ?_ (Aside0.out (by assumption)))) ?_ ?_
 rotate_left
 ·intro w' hs_
  have hs:=zm hs_
  clear hs_
  apply Eq.trans
  ·apply pg_u64
   ·rfl
   ·rfl
   ·exact (Kd.C_below (Aside0.out (by assumption)) (by repeat (first|exact Below.refl _ _|with_reducible apply zlN|with_reducible apply zlA|refine below_step ?_ (Aside0.out (by assumption)))))
   ·omega
   ·omega
  ·rfl
 rotate_left
 ·simp only [Act.put,List.setIfInBounds_toArray,List.set_cons_zero,List.set_cons_succ,i64_w,i32_w]
  rfl
 refine zpu 7 ?_
 refine zpu 8 ?_
 refine zpu 9 ?_
 refine Cw.dtk (i:=10) (v:=?_) (a':=?_) (by simp only [List.getElem?_toArray,List.getElem?_cons_succ,List.getElem?_cons_zero];rfl) rfl (by as_aux_lemma=>kernel_rfl) (by rfl) (by exact fun _ _ _ h=>h) ?_ (by repeat (first|exact Below.refl _ _|with_reducible apply zlN|with_reducible apply zlA|refine below_step ?_ (Aside0.out (by assumption)))) ?_ ?_
 rotate_left
 ·intro w' hs_
  have hs:=zm hs_
  clear hs_
  apply Eq.trans
  ·apply pg_u64
   ·rfl
   ·rfl
   ·exact (Kd.C_below (Aside0.out (by assumption)) (by repeat (first|exact Below.refl _ _|with_reducible apply zlN|with_reducible apply zlA|refine below_step ?_ (Aside0.out (by assumption)))))
   ·omega
   ·omega
  ·rfl
 rotate_left
 ·simp only [Act.put,List.setIfInBounds_toArray,List.set_cons_zero,List.set_cons_succ,i64_w,i32_w]
  rfl
 refine zpu 11 ?_
 refine zpu 12 ?_
 refine zpu 13 ?_
 refine Cw.dtk (i:=14) (v:=?_) (a':=?_) (by simp only [List.getElem?_toArray,List.getElem?_cons_succ,List.getElem?_cons_zero];rfl) rfl (by as_aux_lemma=>kernel_rfl) (by rfl) (by exact fun _ _ _ h=>h) ?_ (by repeat (first|exact Below.refl _ _|with_reducible apply zlN|with_reducible apply zlA|refine below_step ?_ (Aside0.out (by assumption)))) ?_ ?_
 rotate_left
 ·intro w' hs_
  have hs:=zm hs_
  clear hs_
  apply Eq.trans
  ·apply pg_u64
   ·rfl
   ·rfl
   ·exact (Kd.C_below (Aside0.out (by assumption)) (by repeat (first|exact Below.refl _ _|with_reducible apply zlN|with_reducible apply zlA|refine below_step ?_ (Aside0.out (by assumption)))))
   ·omega
   ·omega
  ·rfl
 rotate_left
 ·simp only [Act.put,List.setIfInBounds_toArray,List.set_cons_zero,List.set_cons_succ,i64_w,i32_w]
  rfl
 refine zpu 15 ?_
 refine zpu 16 ?_
 refine Cw.done1 (i:=17) (N:=some 8) (by simp only [List.getElem?_toArray,List.getElem?_cons_succ,List.getElem?_cons_zero];rfl) rfl (by as_aux_lemma=>kernel_rfl) (fun K hK=>?_)
 refine Cw.dnew (fun g=>.pointer (some ⟨g,0,none⟩)) (by rfl) rfl (by apply pg_new23;rfl) ?_
 rintro gx hg w1 hbk hb
 have hge:Aside0 (wd.heap.size≤gx):=⟨Nat.le_trans (below_size (by repeat (first|exact Below.refl _ _|with_reducible apply zlN|with_reducible apply zlA|refine below_step ?_ (Aside0.out (by assumption))))) (Nat.le_of_eq hg.symm)⟩
 clear hg
 have hh_:=zm hbk;clear hbk;have hbk:=hh_;clear hh_;have hh_:=zm hb;clear hb;have hb:=hh_;clear hh_
 refine hK.out _ _ (by repeat (first|exact Below.refl _ _|with_reducible apply zlN|with_reducible apply zlA|refine below_step ?_ (Aside0.out (by assumption)))) (fun _=>?_)
 clear hK K
 refine znm (some 8) ?_
 refine Cw.done1 (i:=18) (N:=none) (by simp only [List.getElem?_toArray,List.getElem?_cons_succ,List.getElem?_cons_zero];rfl) rfl (by as_aux_lemma=>kernel_rfl) (fun K hK=>?_)
 refine Cw.dput (g:=gx) (ys:=[.int .i64 (wrap64 (rd l1 0)),.int .i64 (wrap64 (rd l1 2)),.int .i64 (wrap64 (rd l1 3)),.int .i64 (wrap64 (rd l1 4))]) (by rfl) rfl ?_ ?_
 ·apply pg_st23
  ·rfl
  ·rfl
  ·rfl
  ·exact (zbB (Aside0.out (by assumption)) (by repeat (first|exact Below.refl _ _|with_reducible apply zlN|with_reducible apply zlA|refine below_step ?_ (Aside0.out (by assumption)))))
 rintro wx hwx
 have hb2:Aside0 (Below wd.heap.size wd wx):=⟨by rw [hwx];exact Cw.setL_below hge.out _ _ _ (by repeat (first|exact Below.refl _ _|with_reducible apply zlN|with_reducible apply zlA|refine below_step ?_ (Aside0.out (by assumption))))⟩
 have hbx:Aside0 (wx.heap[gx]?=some (.cells #[.int .i64 (wrap64 (rd l1 0)),.int .i64 (wrap64 (rd l1 2)),.int .i64 (wrap64 (rd l1 3)),.int .i64 (wrap64 (rd l1 4))] 23 (0,0))):=⟨by rw [hwx];exact Cw.setL_full [.int .i64 (wrap64 (rd l1 0)),.int .i64 (wrap64 (rd l1 2)),.int .i64 (wrap64 (rd l1 3)),.int .i64 (wrap64 (rd l1 4))] (show _=some (Obj.cells #[.int .i64 0,.int .i64 0,.int .i64 0,.int .i64 0] 23 (0,0)) from (zbB (Aside0.out (by assumption)) (by repeat (first|exact Below.refl _ _|with_reducible apply zlN|with_reducible apply zlA|refine below_step ?_ (Aside0.out (by assumption)))))) rfl⟩
 clear hwx
 refine hK.out _ _ hb2.out (fun _=>?_)
 clear hK K
 refine zdo ?_
 replace H:=H.out
 by_cases hz:cc=0
 rotate_left
 ·rw [if_neg hz] at H
  simp only [Option.some.injEq,Prod.mk.injEq] at H
  obtain ⟨rfl,rfl,rfl,rfl,rfl,rfl⟩:=H
  have hz0:(cc != 0)=true:=bne_iff_ne.mpr hz
  clear hz
  go_wp2_with (first|((with_reducible refine gate_ (.load 23 _) rfl ?_);refine Kd.event_run rfl (by apply pg_h23;exact rfl;exact rfl;exact (zbB (Aside0.out (by assumption)) (by repeat (first|exact Below.refl _ _|with_reducible apply zlN|with_reducible apply zlA|refine below_step ?_ (Aside0.out (by assumption)))))) ?_)|(go_at_call 12;refine (page_Check.calls k _ _ _ _ _ _ F4.out).mono ?_;rintro e wc ⟨rfl,hb⟩;have hh_:=zm hb;clear hb;have hb:=hh_;clear hh_)|((with_reducible refine gate_ (.store 23 (.tmp 2) _) rfl ?_);refine Cw.put_event (g:=g2) (ys:=[.int .i64 0,.int .i64 0,.int .i64 0,.int .i64 0]) rfl rfl rfl (by apply pg_st23;exact rfl;exact rfl;exact rfl;exact (zbB (Aside0.out (by assumption)) (by repeat (first|exact Below.refl _ _|with_reducible apply zlN|with_reducible apply zlA|refine below_step ?_ (Aside0.out (by assumption)))))) ?_;rintro w2 hw2;have hb2:Aside0 (Below w.heap.size w w2):=⟨by rw [hw2];exact Cw.setL_below hge2.out _ _ _ (by repeat (first|exact Below.refl _ _|with_reducible apply zlN|with_reducible apply zlA|refine below_step ?_ (Aside0.out (by assumption))))⟩;have hzz:Aside0 (w2.heap[g2]?=some (.cells #[.int .i64 0,.int .i64 0,.int .i64 0,.int .i64 0] 23 (0,0))):=⟨by rw [hw2];exact Cw.setL_full [.int .i64 0,.int .i64 0,.int .i64 0,.int .i64 0] (show _=some (Obj.cells #[.int .i64 0,.int .i64 0,.int .i64 0,.int .i64 0] 23 (0,0)) from (zbB (Aside0.out (by assumption)) (by repeat (first|exact Below.refl _ _|with_reducible apply zlN|with_reducible apply zlA|refine below_step ?_ (Aside0.out (by assumption)))))) rfl⟩;clear hw2))
  refine bodyPost_ret (results_ctt rfl _ _ g2 23 #[.int .i64 0,.int .i64 0,.int .i64 0,.int .i64 0] (0,0) _ rfl hzz.out Try.underlying23 rfl (by kernel_rfl)) rfl ?_
  exact ⟨_,rfl,Kd.R_nil _ _ _ _ _,hb2.out⟩
 subst hz
 rw [if_pos rfl] at H
 have hg_:=Option.bind_eq_some_iff.mp H;clear H;obtain ⟨dd,F5,H⟩:=hg_;have hh_:=zm F5;clear F5;have F5:=hh_;clear hh_;(try dsimp only at H)
 simp only [Option.some.injEq,Prod.mk.injEq] at H
 obtain ⟨rfl,rfl,rfl,rfl,rfl,rfl⟩:=H
 go_wp2_with (first|((with_reducible refine gate_ (.load 23 _) rfl ?_);refine Kd.event_run rfl (by apply pg_h23;exact rfl;exact rfl;exact (zbB (Aside0.out (by assumption)) (by repeat (first|exact Below.refl _ _|with_reducible apply zlN|with_reducible apply zlA|refine below_step ?_ (Aside0.out (by assumption)))))) ?_)|(go_at_call 12;refine (page_Check.calls k _ _ _ _ _ _ F4.out).mono ?_;rintro e wc ⟨rfl,hb⟩;have hh_:=zm hb;clear hb;have hb:=hh_;clear hh_))
 refine Cw.dstartD [4] (by as_aux_lemma=>kernel_rfl) rfl (fun we hb=>?_)
 have hh_:=zm hb;clear hb;have hb:=hh_;clear hh_
 refine Cw.dtkD (i:=0) (v:=?_) (a':=?_) (by simp only [List.getElem?_toArray,List.getElem?_cons_succ,List.getElem?_cons_zero];rfl) rfl (by as_aux_lemma=>kernel_rfl) (by rfl) (by exact fun _ _ _ h=>h) ?_ (by repeat (first|exact Below.refl _ _|with_reducible apply zlN|with_reducible apply zlA|refine below_step ?_ (Aside0.out (by assumption)))) ?_ ?_
 rotate_left
 ·intro w' hs_
  have hs:=zm hs_
  clear hs_
  apply Eq.trans
  ·apply pg_h23
   ·rfl
   ·rfl
   ·exact (zbB (Aside0.out (by assumption)) (by repeat (first|exact Below.refl _ _|with_reducible apply zlN|with_reducible apply zlA|refine below_step ?_ (Aside0.out (by assumption)))))
  ·rfl
 rotate_left
 ·simp only [Act.put,List.setIfInBounds_toArray,List.set_cons_zero,List.set_cons_succ,i64_w,i32_w]
  rfl
 refine zpu 1 ?_
 refine zpu 2 ?_
 refine Cw.done1D (i:=3) (N:=some 80) (by simp only [List.getElem?_toArray,List.getElem?_cons_succ,List.getElem?_cons_zero];rfl) rfl (by as_aux_lemma=>kernel_rfl) (by decide) (fun K hK=>?_)
 refine goes_ Try.func40 (by as_aux_lemma=>kernel_rfl) rfl _ (by rfl) rfl rfl (by go_simp;rfl) ?_
 refine (pg_clone (some ⟨g1,0,none⟩) 256 256 ((p.drop 0).take 256) dd _ (by rw [List.length_take,List.length_drop,hp.out];rfl) (pg_C (zbB (Aside0.out (by assumption)) (by repeat (first|exact Below.refl _ _|with_reducible apply zlN|with_reducible apply zlA|refine below_step ?_ (Aside0.out (by assumption))))) (by rw [hp.out];decide) hp.out) (by decide) F5.out).mono ?_
 rintro e w1 ⟨Ad,cd,rfl,hod,hb⟩
 have hh_:=zm hod;clear hod;have hod:=hh_;clear hh_;have hh_:=zm hb;clear hb;have hb:=hh_;clear hh_
 refine ⟨_,rfl,?_⟩
 refine hK.out _ _ (by repeat (first|exact Below.refl _ _|with_reducible apply zlN|with_reducible apply zlA|refine below_step ?_ (Aside0.out (by assumption)))) (fun _=>?_)
 clear hK K
 refine znm (some 80) ?_
 refine Cw.lastD (i:=4) (N:=none) (by simp only [List.getElem?_toArray,List.getElem?_cons_succ,List.getElem?_cons_zero];rfl) rfl (by as_aux_lemma=>kernel_rfl) (by decide) (fun K hK=>?_)
 refine Cw.dput (g:=g2) (ys:=[.int .i64 (wrap64 (rd l1 0)),.int .i64 (wrap64 (rd l1 2)),.int .i64 (wrap64 (rd l1 3)),.int .i64 (wrap64 (rd l1 4))]) (by rfl) rfl ?_ ?_
 ·apply pg_st23
  ·rfl
  ·rfl
  ·rfl
  ·exact (zbB (Aside0.out (by assumption)) (by repeat (first|exact Below.refl _ _|with_reducible apply zlN|with_reducible apply zlA|refine below_step ?_ (Aside0.out (by assumption)))))
 rintro w2 hw2
 have hb2:Aside0 (Below w.heap.size w w2):=⟨by rw [hw2];exact Cw.setL_below hge2.out _ _ _ (by repeat (first|exact Below.refl _ _|with_reducible apply zlN|with_reducible apply zlA|refine below_step ?_ (Aside0.out (by assumption))))⟩
 have hzz:Aside0 (w2.heap[g2]?=some (.cells #[.int .i64 (wrap64 (rd l1 0)),.int .i64 (wrap64 (rd l1 2)),.int .i64 (wrap64 (rd l1 3)),.int .i64 (wrap64 (rd l1 4))] 23 (0,0))):=⟨by rw [hw2];exact Cw.setL_full [.int .i64 (wrap64 (rd l1 0)),.int .i64 (wrap64 (rd l1 2)),.int .i64 (wrap64 (rd l1 3)),.int .i64 (wrap64 (rd l1 4))] (show _=some (Obj.cells #[.int .i64 0,.int .i64 0,.int .i64 0,.int .i64 0] 23 (0,0)) from (zbB (Aside0.out (by assumption)) (by repeat (first|exact Below.refl _ _|with_reducible apply zlN|with_reducible apply zlA|refine below_step ?_ (Aside0.out (by assumption)))))) rfl⟩
 have hR2:Aside0 (Kd.R (Kd.int .u8) 5 w2 w.heap.size (fun _=>True) (.slice Ad dd.length cd) dd):=⟨by rw [hw2];exact Cw.setL_R (Kd.R_lower hod.out (below_size (by repeat (first|exact Below.refl _ _|with_reducible apply zlN|with_reducible apply zlA|refine below_step ?_ (Aside0.out (by assumption)))))) (show _=some (Obj.cells #[.int .i64 0,.int .i64 0,.int .i64 0,.int .i64 0] 23 (0,0)) from (zbB (Aside0.out (by assumption)) (by repeat (first|exact Below.refl _ _|with_reducible apply zlN|with_reducible apply zlA|refine below_step ?_ (Aside0.out (by assumption)))))) (by intro q hq;simp [Kd.int,Kd.scalar] at hq;omega) 0 _⟩
 clear hw2
 refine hK.out _ _ ?_
 clear hK K
 refine zpu 5 ?_
 refine zpu 6 ?_
 refine zdo ?_
 go_wp2
 refine bodyPost_ret (results_ctt rfl _ _ g2 23 #[.int .i64 (wrap64 (rd l1 0)),.int .i64 (wrap64 (rd l1 2)),.int .i64 (wrap64 (rd l1 3)),.int .i64 (wrap64 (rd l1 4))] (0,0) _ rfl hzz.out Try.underlying23 rfl (by kernel_rfl)) rfl ?_
 exact ⟨_,rfl,hR2.out,hb2.out⟩
end Go.Proofs.Ytdohpjjggjehfaa.Print
end
section
namespace Go.Proofs.Ytdohpjjggjehfaa.Print
open Go.RowKit Go.Proofs.YtdohpjjggjehfaaW.PrintWords Go.Proofs.YtdohpjjggjehfaaW.PrintLast Go.Proofs.YtdohpjjggjehfaaW.PrintMore
attribute [local go_sem] max2_int min2_int max_two min_two max_three min_three max_four min_four   -- for this text's walks alone
attribute [local go_sem ↓] Go.Proofs.Ytdohpjjggjehfaa.Sem.isSome_setCell
attribute [local go_sem] Go.Instr.field Go.asAgg
set_option linter.unusedVariables false
set_option linter.unusedSimpArgs false
-- CX
-- PG
def er (i:Nat):List Int:=List.replicate i 255 ++ List.replicate (288 - i) 0
theorem er_len {i:Nat} (h:i≤288):(er i).length=288:=by unfold er;rw [List.length_append,List.length_replicate,List.length_replicate];omega
theorem er_set {i:Nat} (h:i < 288):(er i).set i 255=er (i + 1):=by
 unfold er
 obtain ⟨d,hd⟩:∃ d,288 - i=d + 1:=⟨288 - i - 1,by omega⟩
 have hd':288 - (i + 1)=d:=by omega
 rw [hd,hd',List.set_append_right _ _ (by simp),List.length_replicate,Nat.sub_self,List.replicate_succ,List.set_cons_zero,List.replicate_succ',List.append_assoc]
 rfl
theorem er_end:er 288=List.replicate 288 255:=by unfold er;rw [Nat.sub_self,List.replicate_zero,List.append_nil]
theorem er_zero:er 0=pz:=by unfold er pz;rw [List.replicate_zero,List.nil_append]
theorem er_meas {n i j:Nat} {x:Int} (hx:x=((j + 1:Nat):Int)) (h:i=j) (hj:j < n):n - (intOf (.int .i64 x)).toNat < n - (intOf (.int .i64 (i:Int))).toNat:=by
 subst hx h
 simp only [intOf,Int.toNat_natCast]
 omega
set_option maxHeartbeats 4000000 in
set_option maxRecDepth 100000 in
theorem page_Erased.calls (w:World):Calls Try.prog 24 #[] w fun e w'=>e=.returned (.agg (pc (List.replicate 288 255)))∧Below w.heap.size w w':=by
 have hu29:=Try.underlying29
 go_enter Try.func24,Try.ntmps24
 go_wp2_with (first|((with_reducible refine gate_dst (N:=0) rfl ?_);(with_reducible refine gate_ (.alloc 29) rfl ?_);refine box_event rfl rfl (pg_new rfl) ?_;rintro g0 hg w1 hbk hb;have hge0:Aside0 (w.heap.size≤g0):=⟨by rw [hg];exact below_size (by repeat (first|exact Below.refl _ _|with_reducible apply zlN|with_reducible apply zlA|refine below_step ?_ (Aside0.out (by assumption))))⟩;clear hg;have hh_:=zm hbk;clear hbk;have hbk:=hh_;clear hh_;have hh_:=zm hb;clear hb;have hb:=hh_;clear hh_)|((with_reducible refine gate_dst (N:=1) rfl ?_);(with_reducible refine gate_ (.alloc 29) rfl ?_);refine box_event rfl rfl (pg_new rfl) ?_;rintro g1 hg w1 hbk hb;have hge:Aside0 (w.heap.size≤g1):=⟨by rw [hg];exact below_size (by repeat (first|exact Below.refl _ _|with_reducible apply zlN|with_reducible apply zlA|refine below_step ?_ (Aside0.out (by assumption))))⟩;have hne:Aside0 (g0≠g1):=⟨by rw [hg];exact Nat.ne_of_lt (blk_lt (g:=g0) (o:=.cells (pc pz) 29 (0,0)) (zbB (Aside0.out (by assumption)) (by repeat (first|exact Below.refl _ _|with_reducible apply zlN|with_reducible apply zlA|refine below_step ?_ (Aside0.out (by assumption))))))⟩;clear hg;have hh_:=zm hbk;clear hbk;have hbk:=hh_;clear hh_;have hh_:=zm hb;clear hb;have hb:=hh_;clear hh_))
 have h0:Aside0 (w1.heap[g1]?=some (Obj.cells (pc (er 0)) 29 (0,0))):=⟨by rw [er_zero];exact (zbB (Aside0.out (by assumption)) (by repeat (first|exact Below.refl _ _|with_reducible apply zlN|with_reducible apply zlA|refine below_step ?_ (Aside0.out (by assumption)))))⟩
 go_loopw [4] (fun i wr=>∃ (j:Nat),i=.int .i64 (j:Int)∧Aside0 (j≤256)∧Aside0 (wr.heap[g1]?=some (.cells (pc (er j)) 29 (0,0)))∧Aside0 (wr.heap[g0]?=some (.cells (pc pz) 29 (0,0)))∧Aside0 (Below w.heap.size w wr)) (fun i _=>256 - (intOf i).toNat)
 case atStart=>exact ⟨0,by simp,⟨by omega⟩,h0,⟨(zbB (Aside0.out (by assumption)) (by repeat (first|exact Below.refl _ _|with_reducible apply zlN|with_reducible apply zlA|refine below_step ?_ (Aside0.out (by assumption)))))⟩,⟨(by repeat (first|exact Below.refl _ _|with_reducible apply zlN|with_reducible apply zlA|refine below_step ?_ (Aside0.out (by assumption))))⟩⟩
 case round =>
  obtain ⟨j,rfl,hj,hBK,hB0,hbr⟩:=hrel
  have hj:=hj.out
  clear h0 hbk hb
  by_cases hlt:j < 256
  ·have hjn:0≤(j:Int):=by omega
   have hj2:(j:Int) < 256:=by omega
   go_wp2_with (first|((with_reducible refine gate_ (.store 5 _ _) rfl ?_);refine pg_put (g:=g1) (q:=er (j + 1)) rfl rfl (by refine (pg_set (p:=er (j)) (i:=j) rfl ?_ rfl hBK.out (by rw [er_len (by omega)];omega)).trans ?_;exact rfl;rw [er_set (by omega)]) hBK.out ?_;rintro w2 hq hfar hbel;have hb2:Aside0 (Below w.heap.size w w2):=⟨hbel _ _ hbr.out hge.out⟩;have h02:Aside0 (w2.heap[g0]?=some (Obj.cells (pc pz) 29 (0,0))):=⟨by rw [hfar _ hne.out];exact hB0.out⟩;clear hfar hbel;have hh_:=zm hq;clear hq;have hq:=hh_;clear hh_))
   exact ⟨⟨j + 1,by simp,⟨by omega⟩,hq,h02,hb2⟩,er_meas (by omega) rfl (by omega)⟩
  ·obtain rfl:j=256:=by omega
   have hj2:decide (((256:Nat):Int) < 256)=false:=rfl
   go_wp2
   have h1:Aside0 (wr.heap[g1]?=some (Obj.cells (pc (er (256 + 0))) 29 (0,0))):=hBK
   clear hBK
   go_loopw [11] (fun i wr=>∃ (j:Nat),i=.int .i64 (j:Int)∧Aside0 (j≤32)∧Aside0 (wr.heap[g1]?=some (.cells (pc (er (256 + j))) 29 (0,0)))∧Aside0 (wr.heap[g0]?=some (.cells (pc pz) 29 (0,0)))∧Aside0 (Below w.heap.size w wr)) (fun i _=>32 - (intOf i).toNat)
   case atStart=>exact ⟨0,by simp,⟨by omega⟩,h1,hB0,hbr⟩
   case round =>
    clear hB0 hbr h1
    obtain ⟨j,rfl,hj,hBK,hB0,hbr⟩:=hrel
    have hj:=hj.out
    by_cases hlt:j < 32
    ·have hjn:0≤(j:Int):=by omega
     have hj2:(j:Int) < 32:=by omega
     go_wp2_with (first|((with_reducible refine gate_ (.store 5 _ _) rfl ?_);refine pg_put (g:=g1) (q:=er (256 + j + 1)) rfl rfl (by refine (pg_set (p:=er (256 + j)) (i:=256 + j) rfl ?_ rfl hBK.out (by rw [er_len (by omega)];omega)).trans ?_;exact rfl;rw [er_set (by omega)]) hBK.out ?_;rintro w2 hq hfar hbel;have hb2:Aside0 (Below w.heap.size w w2):=⟨hbel _ _ hbr.out hge.out⟩;have h02:Aside0 (w2.heap[g0]?=some (Obj.cells (pc pz) 29 (0,0))):=⟨by rw [hfar _ hne.out];exact hB0.out⟩;clear hfar hbel;have hh_:=zm hq;clear hq;have hq:=hh_;clear hh_))
     exact ⟨⟨j + 1,by simp,⟨by omega⟩,hq,h02,hb2⟩,er_meas (by omega) rfl (by omega)⟩
    ·obtain rfl:j=32:=by omega
     have hj2:decide (((32:Nat):Int) < 32)=false:=rfl
     go_wp2_with (first|((with_reducible refine gate_ (.load 29 _) rfl ?_);refine Kd.event_run rfl (pg_load rfl rfl hBK.out (er_len (by omega))) ?_)|((with_reducible refine gate_ (.store 29 _ _) rfl ?_);refine pg_put (g:=g0) (q:=er 288) rfl rfl (pg_store rfl rfl rfl hB0.out pz_len (er_len (by omega))) hB0.out ?_;rintro w2 hq hfar hbel;have hb2:Aside0 (Below w.heap.size w w2):=⟨hbel _ _ hbr.out hge0.out⟩;clear hfar hbel;have hh_:=zm hq;clear hq;have hq:=hh_;clear hh_))
     refine bodyPost_ret (results_cell_row rfl _ _ g0 29 (pc (er 288)) (0,0) _ rfl hq.out Try.underlying29 rfl (pg_size (er_len (by omega)))) rfl ?_
     exact ⟨by rw [er_end],hb2.out⟩
end Go.Proofs.Ytdohpjjggjehfaa.Print
end
section
namespace Go.Proofs.Ytdohpjjggjehfaa.Print
open Go.RowKit Go.Proofs.YtdohpjjggjehfaaW.PrintWords Go.Proofs.YtdohpjjggjehfaaW.PrintLast Go.Proofs.YtdohpjjggjehfaaW.PrintMore
attribute [local go_sem] max2_int min2_int max_two min_two max_three min_three max_four min_four   -- for this text's walks alone
attribute [local go_sem ↓] Go.Proofs.Ytdohpjjggjehfaa.Sem.isSome_setCell
attribute [local go_sem] Go.Instr.field Go.asAgg
set_option linter.unusedVariables false
set_option linter.unusedSimpArgs false
-- CX
-- PG
def page_State.f (k:Nat) (p:List Int):Option Int :=
 if p.length=288 then if p=(List.replicate 288 255) then some 10 else (page_Decode.f k p).bind fun r=>some r.2.2.2.2.2 else none
set_option maxHeartbeats 4000000 in
set_option maxRecDepth 100000 in
theorem page_State.calls (k:Nat) (p:List Int) (r:Int) (w:World) (h:page_State.f k p=some r) :
  Calls Try.prog 20 #[.agg (pc p)] w fun e w'=>e=.returned (.int .i64 r)∧Below w.heap.size w w':=by
 have hu29:=Try.underlying29
 have hu23:=Try.underlying23
 have H:page_State.f k p=some r:=h
 clear h
 unfold page_State.f at H
 have hg_:=Cw.gt_ H;clear H;obtain ⟨hp,H⟩:=hg_
 have hh_:=zm hp;clear hp;have hp:=hh_;clear hh_
 by_cases he:p=(List.replicate 288 255)
 ·rw [if_pos he] at H
  obtain rfl:=Option.some.inj H
  have heb:decide (p=(List.replicate 288 255))=true:=decide_eq_true he
  have hh_:=zm heb;clear heb;have heb:=hh_;clear hh_
  clear he H
  go_enter Try.func20,Try.ntmps20
  go_wp2_with (first|((with_reducible refine gate_ (.box 29 _) rfl ?_);refine box_event rfl rfl (pg_box rfl rfl) ?_;rintro g1 hg w1 hbk hb;skip;clear hg;have hh_:=zm hbk;clear hbk;have hbk:=hh_;clear hh_;have hh_:=zm hb;clear hb;have hb:=hh_;clear hh_))
  refine Cw.dstart (by as_aux_lemma=>kernel_rfl) rfl (fun wd hb=>?_)
  have hh_:=zm hb;clear hb;have hb:=hh_;clear hh_
  refine Cw.dtk (i:=0) (v:=?_) (a':=?_) (by simp only [List.getElem?_toArray,List.getElem?_cons_succ,List.getElem?_cons_zero];rfl) rfl (by as_aux_lemma=>kernel_rfl) (by rfl) (by exact fun _ _ _ h=>h) ?_ (by repeat (first|exact Below.refl _ _|with_reducible apply zlN|with_reducible apply zlA|refine below_step ?_ (Aside0.out (by assumption)))) ?_ ?_
  rotate_left
  ·intro w' hs_
   have hs:=zm hs_
   clear hs_
   apply Eq.trans
   ·apply pg_load
    ·rfl
    ·rfl
    ·exact (zbB (Aside0.out (by assumption)) (by repeat (first|exact Below.refl _ _|with_reducible apply zlN|with_reducible apply zlA|refine below_step ?_ (Aside0.out (by assumption)))))
    ·exact hp.out
   ·rfl
  rotate_left
  ·simp only [Act.put,List.setIfInBounds_toArray,List.set_cons_zero,List.set_cons_succ,i64_w,i32_w]
   rfl
  refine Cw.done1 (i:=1) (N:=some 7) (by simp only [List.getElem?_toArray,List.getElem?_cons_succ,List.getElem?_cons_zero];rfl) rfl (by as_aux_lemma=>kernel_rfl) (fun K hK=>?_)
  refine goes_ Try.func24 (by as_aux_lemma=>kernel_rfl) rfl _ (by rfl) rfl rfl (by go_simp;rfl) ?_
  refine (page_Erased.calls _).mono ?_
  rintro e w1 ⟨rfl,hb⟩
  have hh_:=zm hb;clear hb;have hb:=hh_;clear hh_
  refine ⟨_,rfl,?_⟩
  refine hK.out _ _ (by repeat (first|exact Below.refl _ _|with_reducible apply zlN|with_reducible apply zlA|refine below_step ?_ (Aside0.out (by assumption)))) (fun _=>?_)
  clear hK K
  refine znm (some 7) ?_
  refine Cw.dpu (i:=2) (v:=?_) (a':=?_) (by simp only [List.getElem?_toArray,List.getElem?_cons_succ,List.getElem?_cons_zero];rfl) rfl (by as_aux_lemma=>kernel_rfl) (by rfl) (by exact fun _ _ _ h=>h) ?_ ?_ ?_
  rotate_left
  ·intro w'
   apply Eq.trans
   ·apply pg_eqop (p:=p) (q:=(List.replicate 288 255))
    ·rfl
    ·rfl
    ·rfl
    ·exact hp.out
    ·exact List.length_replicate
   ·rfl
  rotate_left
  ·simp only [Act.put,List.setIfInBounds_toArray,List.set_cons_zero,List.set_cons_succ,i64_w,i32_w]
   rfl
  refine zdo ?_
  rw [heb.out]
  go_wp2
  go_ret
  exact ⟨rfl,(by repeat (first|exact Below.refl _ _|with_reducible apply zlN|with_reducible apply zlA|refine below_step ?_ (Aside0.out (by assumption))))⟩
 ·rw [if_neg he] at H
  have hg_:=Option.bind_eq_some_iff.mp H;clear H;obtain ⟨⟨d1,d2,d3,d4,d5,d6⟩,F0,H⟩:=hg_;have hh_:=zm F0;clear F0;have F0:=hh_;clear hh_;(try dsimp only at H)
  obtain rfl:=Option.some.inj H
  have heb:decide (p=(List.replicate 288 255))=false:=decide_eq_false he
  have hh_:=zm heb;clear heb;have heb:=hh_;clear hh_
  clear he H
  go_enter Try.func20,Try.ntmps20
  go_wp2_with (first|((with_reducible refine gate_ (.box 29 _) rfl ?_);refine box_event rfl rfl (pg_box rfl rfl) ?_;rintro g1 hg w1 hbk hb;skip;clear hg;have hh_:=zm hbk;clear hbk;have hbk:=hh_;clear hh_;have hh_:=zm hb;clear hb;have hb:=hh_;clear hh_))
  refine Cw.dstart (by as_aux_lemma=>kernel_rfl) rfl (fun wd hb=>?_)
  have hh_:=zm hb;clear hb;have hb:=hh_;clear hh_
  refine Cw.dtk (i:=0) (v:=?_) (a':=?_) (by simp only [List.getElem?_toArray,List.getElem?_cons_succ,List.getElem?_cons_zero];rfl) rfl (by as_aux_lemma=>kernel_rfl) (by rfl) (by exact fun _ _ _ h=>h) ?_ (by repeat (first|exact Below.refl _ _|with_reducible apply zlN|with_reducible apply zlA|refine below_step ?_ (Aside0.out (by assumption)))) ?_ ?_
  rotate_left
  ·intro w' hs_
   have hs:=zm hs_
   clear hs_
   apply Eq.trans
   ·apply pg_load
    ·rfl
    ·rfl
    ·exact (zbB (Aside0.out (by assumption)) (by repeat (first|exact Below.refl _ _|with_reducible apply zlN|with_reducible apply zlA|refine below_step ?_ (Aside0.out (by assumption)))))
    ·exact hp.out
   ·rfl
  rotate_left
  ·simp only [Act.put,List.setIfInBounds_toArray,List.set_cons_zero,List.set_cons_succ,i64_w,i32_w]
   rfl
  refine Cw.done1 (i:=1) (N:=some 7) (by simp only [List.getElem?_toArray,List.getElem?_cons_succ,List.getElem?_cons_zero];rfl) rfl (by as_aux_lemma=>kernel_rfl) (fun K hK=>?_)
  refine goes_ Try.func24 (by as_aux_lemma=>kernel_rfl) rfl _ (by rfl) rfl rfl (by go_simp;rfl) ?_
  refine (page_Erased.calls _).mono ?_
  rintro e w1 ⟨rfl,hb⟩
  have hh_:=zm hb;clear hb;have hb:=hh_;clear hh_
  refine ⟨_,rfl,?_⟩
  refine hK.out _ _ (by repeat (first|exact Below.refl _ _|with_reducible apply zlN|with_reducible apply zlA|refine below_step ?_ (Aside0.out (by assumption)))) (fun _=>?_)
  clear hK K
  refine znm (some 7) ?_
  refine Cw.dpu (i:=2) (v:=?_) (a':=?_) (by simp only [List.getElem?_toArray,List.getElem?_cons_succ,List.getElem?_cons_zero];rfl) rfl (by as_aux_lemma=>kernel_rfl) (by rfl) (by exact fun _ _ _ h=>h) ?_ ?_ ?_
  rotate_left
  ·intro w'
   apply Eq.trans
   ·apply pg_eqop (p:=p) (q:=(List.replicate 288 255))
    ·rfl
    ·rfl
    ·rfl
    ·exact hp.out
    ·exact List.length_replicate
   ·rfl
  rotate_left
  ·simp only [Act.put,List.setIfInBounds_toArray,List.set_cons_zero,List.set_cons_succ,i64_w,i32_w]
   rfl
  refine zdo ?_
  rw [heb.out]
  go_wp2_with (first|((with_reducible refine gate_ (.load 29 _) rfl ?_);refine Kd.event_run rfl (pg_load rfl rfl (zbB (Aside0.out (by assumption)) (by repeat (first|exact Below.refl _ _|with_reducible apply zlN|with_reducible apply zlA|refine below_step ?_ (Aside0.out (by assumption))))) hp.out) ?_)|(go_at_call 14;refine (page_Decode.calls k p d1 d2 d3 d4 d5 d6 _ F0.out).mono ?_;rintro e wc ⟨v1,rfl,ho,hb⟩;have hh_:=zm ho;clear ho;have ho:=hh_;clear hh_;have hh_:=zm hb;clear hb;have hb:=hh_;clear hh_)|((with_reducible refine gate_ (.alloc 23) rfl ?_);refine Cw.box_store rfl rfl rfl rfl rfl rfl (by first|(go_simp;done)|(go_simp;rfl)) (by first|(go_simp;done)|(go_simp;rfl)) ?_;rintro g hg w1 hbk hb;clear hg;have hh_:=zm hbk;clear hbk;have hbk:=hh_;clear hh_;have hh_:=zm hb;clear hb;have hb:=hh_;clear hh_))
  go_ret
  exact ⟨rfl,(by repeat (first|exact Below.refl _ _|with_reducible apply zlN|with_reducible apply zlA|refine below_step ?_ (Aside0.out (by assumption))))⟩
end Go.Proofs.Ytdohpjjggjehfaa.Print
end
section
namespace Go.Proofs.Ytdohpjjggjehfaa.Print
open Go.RowKit Go.Proofs.YtdohpjjggjehfaaW.PrintWords Go.Proofs.YtdohpjjggjehfaaW.PrintLast Go.Proofs.YtdohpjjggjehfaaW.PrintMore
attribute [local go_sem] max2_int min2_int max_two min_two max_three min_three max_four min_four   -- for this text's walks alone
attribute [local go_sem ↓] Go.Proofs.Ytdohpjjggjehfaa.Sem.isSome_setCell
attribute [local go_sem] Go.Instr.field Go.asAgg
set_option linter.unusedVariables false
set_option linter.unusedSimpArgs false
-- CX
-- PG
def slipwaylaw03_live.f (k:Nat):Option Bool :=
 (page_Encode.f k 2 5 9 9 [97]).bind fun p=>if p.1.length=288 then if p.2=0 then (bytes_Equal.f ((p.1.drop 256).take 14) [2,0,0,0,0,5,0,0,0,0,0,0,0,9]).bind fun t=>if t=true then if rd p.1 ((0:Nat):Int)=97 then (page_State.f k p.1).bind fun s=>if s=0 then (page_State.f k (List.replicate 288 255)).bind fun u=>if u=10 then some true else none
 else none else none else none else none else none
theorem pg_beq (A0:Option Addr) (c0 n0:Nat) (l0:List Int) (A1:Option Addr) (c1 n1:Nat) (l1:List Int) (r:Bool) (w:World) (e0:l0.length=n0) (e1:l1.length=n1) (hr0:Kd.C (Kd.int .u8) w A0 n0 l0) (hc0:n0≤c0) (hr1:Kd.C (Kd.int .u8) w A1 n1 l1) (hc1:n1≤c1) (h:bytes_Equal.f l0 l1=some r) :
  Calls Try.prog 16 #[.slice A0 n0 c0,.slice A1 n1 c1] w fun e w'=>e=.returned (.bool r)∧Below w.heap.size w w':=by
 subst e0 e1
 refine (bytes_Equal.calls A0 c0 l0 A1 c1 l1 r w hr0 hc0 hr1 hc1 h).mono ?_
 rintro e w' ⟨rfl,hd⟩
 exact ⟨rfl,by first|exact hd|exact Drawn0.below hd⟩
set_option maxHeartbeats 4000000 in
set_option maxRecDepth 100000 in
theorem slipwaylaw03_live.calls (k:Nat) (r:Bool) (w:World) (h:slipwaylaw03_live.f k=some r) :
  Calls Try.prog 9 #[] w fun e w'=>e=.returned (.bool r)∧Below w.heap.size w w':=by
 have hu29:=Try.underlying29
 have hu23:=Try.underlying23
 have H:slipwaylaw03_live.f k=some r:=h
 clear h
 unfold slipwaylaw03_live.f at H
 have hg_:=Option.bind_eq_some_iff.mp H;clear H;obtain ⟨⟨p,pe⟩,F0,H⟩:=hg_;have hh_:=zm F0;clear F0;have F0:=hh_;clear hh_;(try dsimp only at H);have hg_:=Cw.gt_ H;clear H;obtain ⟨hp,H⟩:=hg_;have hg_:=Cw.gt_ H;clear H;obtain ⟨rfl,H⟩:=hg_;have hg_:=Option.bind_eq_some_iff.mp H;clear H;obtain ⟨t,F1,H⟩:=hg_;have hh_:=zm F1;clear F1;have F1:=hh_;clear hh_;(try dsimp only at H);have hg_:=Cw.gt_ H;clear H;obtain ⟨rfl,H⟩:=hg_;have hg_:=Cw.gt_ H;clear H;obtain ⟨h97,H⟩:=hg_;have hg_:=Option.bind_eq_some_iff.mp H;clear H;obtain ⟨s,F2,H⟩:=hg_;have hh_:=zm F2;clear F2;have F2:=hh_;clear hh_;(try dsimp only at H);have hg_:=Cw.gt_ H;clear H;obtain ⟨rfl,H⟩:=hg_;have hg_:=Option.bind_eq_some_iff.mp H;clear H;obtain ⟨u,F3,H⟩:=hg_;have hh_:=zm F3;clear F3;have F3:=hh_;clear hh_;(try dsimp only at H);have hg_:=Cw.gt_ H;clear H;obtain ⟨rfl,H⟩:=hg_
 obtain rfl:=Option.some.inj H
 clear H
 have hh_:=zm hp;clear hp;have hp:=hh_;clear hh_;have hh_:=zm h97;clear h97;have h97:=hh_;clear hh_
 go_enter Try.func9,Try.ntmps9
 go_wp2_with (first|((with_reducible refine gate_ (.buildSlice 24 1 _) rfl ?_);refine pg_const rfl rfl rfl rfl rfl (fun _=>rfl) ?_;rintro gl hg w1 hcl hb;clear hg;have hh_:=zm hcl;clear hcl;have hcl:=hh_;clear hh_;have hh_:=zm hb;clear hb;have hb:=hh_;clear hh_)|(go_at_call 10;refine (page_Encode.calls k 2 5 9 9 (some ⟨gl,0,none⟩) 1 [97] p 0 _ hcl.out (by simp) F0.out).mono ?_;rintro e w1 ⟨rfl,hb⟩;have hh_:=zm hb;clear hb;have hb:=hh_;clear hh_)|((with_reducible refine gate_ (.alloc 29) rfl ?_);refine box_event rfl rfl (pg_new rfl) ?_;rintro g1 hg w1 hbk hb;have hge:Aside0 (w.heap.size≤g1):=⟨by rw [hg];exact below_size (by repeat (first|exact Below.refl _ _|with_reducible apply zlN|with_reducible apply zlA|refine below_step ?_ (Aside0.out (by assumption))))⟩;clear hg;have hh_:=zm hbk;clear hbk;have hbk:=hh_;clear hh_;have hh_:=zm hb;clear hb;have hb:=hh_;clear hh_)|((with_reducible refine gate_ (.store 29 _ _) rfl ?_);refine pg_put (g:=g1) (q:=p) rfl rfl (pg_store rfl rfl rfl (zbB (Aside0.out (by assumption)) (by repeat (first|exact Below.refl _ _|with_reducible apply zlN|with_reducible apply zlA|refine below_step ?_ (Aside0.out (by assumption))))) pz_len hp.out) (zbB (Aside0.out (by assumption)) (by repeat (first|exact Below.refl _ _|with_reducible apply zlN|with_reducible apply zlA|refine below_step ?_ (Aside0.out (by assumption))))) ?_;rintro w2 hq hfar hbel;have hb2:Aside0 (Below w.heap.size w w2):=⟨hbel _ _ (by repeat (first|exact Below.refl _ _|with_reducible apply zlN|with_reducible apply zlA|refine below_step ?_ (Aside0.out (by assumption)))) hge.out⟩;clear hfar hbel;have hh_:=zm hq;clear hq;have hq:=hh_;clear hh_)|((with_reducible refine gate_ (.buildSlice 24 14 _) rfl ?_);((with_reducible refine Cw.guarded rfl ?gw ?_);(case gw=>first|rfl|(go_simp;done));dsimp only);refine pg_made (fun g=>.slice (some ⟨g,0,none⟩) 14 14) rfl (cs:=#[.int .u8 2,.int .u8 0,.int .u8 0,.int .u8 0,.int .u8 0,.int .u8 5,.int .u8 0,.int .u8 0,.int .u8 0,.int .u8 0,.int .u8 0,.int .u8 0,.int .u8 0,.int .u8 9]) (t:=5) (by first|(go_simp;done)|(go_simp;rfl)) ?_;rintro gm hg w1 hbk hb;clear hg;have hh_:=zm hbk;clear hbk;have hbk:=hh_;clear hh_;have hh_:=zm hb;clear hb;have hb:=hh_;clear hh_)|((with_reducible refine gate_ (.load 5 _) rfl ?_);refine Kd.event_run rfl (v:=.int .u8 97) (by refine (pg_u8 (i:=0) rfl rfl (zbB (Aside0.out (by assumption)) (by repeat (first|exact Below.refl _ _|with_reducible apply zlN|with_reducible apply zlA|refine below_step ?_ (Aside0.out (by assumption))))) (by rw [hp.out];decide)).trans ?_;rw [h97.out]) ?_)|((with_reducible refine gate_ (.load 29 _) rfl ?_);refine Kd.event_run rfl (pg_load rfl rfl (zbB (Aside0.out (by assumption)) (by repeat (first|exact Below.refl _ _|with_reducible apply zlN|with_reducible apply zlA|refine below_step ?_ (Aside0.out (by assumption))))) hp.out) ?_)|(go_at_call 16;refine (pg_beq (some ⟨g1,256,none⟩) 32 14 ((p.drop 256).take 14) (some ⟨gm,0,none⟩) 14 14 [2,0,0,0,0,5,0,0,0,0,0,0,0,9] true _ (by rw [List.length_take,List.length_drop,hp.out];rfl) rfl (pg_C (zbB (Aside0.out (by assumption)) (by repeat (first|exact Below.refl _ _|with_reducible apply zlN|with_reducible apply zlA|refine below_step ?_ (Aside0.out (by assumption))))) (by rw [hp.out];decide) hp.out) (by decide) (Cw.C_ints (zbB (Aside0.out (by assumption)) (by repeat (first|exact Below.refl _ _|with_reducible apply zlN|with_reducible apply zlA|refine below_step ?_ (Aside0.out (by assumption))))) rfl (by simp)) (by decide) F1.out).mono ?_;rintro e w1 ⟨rfl,hb⟩;have hh_:=zm hb;clear hb;have hb:=hh_;clear hh_)|((with_reducible refine Cw.guarded rfl ?gw ?_);(case gw=>first|rfl|(go_simp;done));dsimp only))
 refine (page_State.calls k p 0 _ F2.out).mono ?_
 rintro e w1 ⟨rfl,hb⟩
 have hh_:=zm hb;clear hb;have hb:=hh_;clear hh_
 go_wp2_with (first|(go_at_call 24;refine (page_Erased.calls _).mono ?_;rintro e w1 ⟨rfl,hb⟩;have hh_:=zm hb;clear hb;have hb:=hh_;clear hh_)|((with_reducible refine Cw.guarded rfl ?gw ?_);(case gw=>first|rfl|(go_simp;done));dsimp only))
 refine (page_State.calls k (List.replicate 288 255) 10 _ F3.out).mono ?_
 rintro e w1 ⟨rfl,hb⟩
 have hh_:=zm hb;clear hb;have hb:=hh_;clear hh_
 go_wp2_with (first|((with_reducible refine Cw.guarded rfl ?gw ?_);(case gw=>first|rfl|(go_simp;done));dsimp only))
 go_ret
 exact ⟨rfl,(by repeat (first|exact Below.refl _ _|with_reducible apply zlN|with_reducible apply zlA|refine below_step ?_ (Aside0.out (by assumption))))⟩
end Go.Proofs.Ytdohpjjggjehfaa.Print
end
section
namespace Go.Proofs.Ytdohpjjggjehfaa.Print
open Go.RowKit Go.Proofs.YtdohpjjggjehfaaW.PrintWords Go.Proofs.YtdohpjjggjehfaaW.PrintLast Go.Proofs.YtdohpjjggjehfaaW.PrintMore
attribute [local go_sem] max2_int min2_int max_two min_two max_three min_three max_four min_four   -- for this text's walks alone
attribute [local go_sem ↓] Go.Proofs.Ytdohpjjggjehfaa.Sem.isSome_setCell
attribute [local go_sem] Go.Instr.field Go.asAgg
set_option linter.unusedVariables false
set_option linter.unusedSimpArgs false
def bytes_Clone.f (l0:List Int):Option (List Int):=(some (([]:List Int):List Int)).bind fun y216=>(if y216.length + l0.length < 140737488355328 then (some (y216 ++ l0)) else (none))
set_option maxHeartbeats 8000000 in
set_option maxRecDepth 100000 in
theorem bytes_Clone.calls_some (a0:Addr) (c0:Nat) (l0:List Int) (r:List Int) (w:World) (hr0:Kd.C (Kd.int .u8) w (some a0) l0.length l0) (hc0:l0.length≤c0) (h:bytes_Clone.f l0=some r) :
  Calls Try.prog 15 #[.slice (some a0) l0.length c0] w fun e w'=>∃ v0_:Value,e=.returned (v0_)∧Kd.R (Kd.int .u8) 5 w' w.heap.size (fun _=>True) v0_ r∧Below w.heap.size w w':=by
 have HR0:=zm hr0
 have HC0:=zm hc0
 clear hr0 hc0
 have HB:=zm (Below.refl w.heap.size w)
 have H:((some (([]:List Int):List Int)).bind fun y216=>(if y216.length + l0.length < 140737488355328 then (some (y216 ++ l0)) else (none)))=some r:=h
 clear h
 obtain ⟨y216,hy216⟩:∃ y_:List Int,y_=(([]:List Int)):=⟨_,rfl⟩
 replace H:(if y216.length + l0.length < 140737488355328 then (some (y216 ++ l0)) else (none))=some r:=by first|(rw [hy216];with_reducible exact H)|(have H2_:=(Option.bind_some _ _).symm.trans H;rw [hy216];with_reducible exact H2_)|(have H2_:=(Option.bind_some _ _).symm.trans H;with_reducible exact H2_)|with_reducible exact H|(rw [hy216];exact H)|exact H
 have Ny216:=zm hy216
 clear hy216
 by_cases c2:y216.length + l0.length < 140737488355328
 ·rw [if_pos c2] at H
  have LMc2:=zm c2
  clear c2
  obtain ⟨y219,hy219⟩:∃ y_:List Int,y_=(y216 ++ l0):=⟨_,rfl⟩
  replace H:(some y219)=some r:=by first|(rw [hy219];with_reducible exact H)|(have H2_:=(Option.bind_some _ _).symm.trans H;rw [hy219];with_reducible exact H2_)|(have H2_:=(Option.bind_some _ _).symm.trans H;with_reducible exact H2_)|with_reducible exact H|(rw [hy219];exact H)|exact H
  have Ny219:=zm hy219
  clear hy219
  obtain rfl:=Option.some.inj H
  have hq_:=Lib.run_eql_slice_nil (P:=Try.prog) w 24 5 (some a0) l0.length c0 0 0 Try.underlying24
  go_enter Try.func15,Try.ntmps15
  go_wp2_with (first|((with_reducible refine gate_dst (N:=5) rfl ?_);refine Kd.R_lit (Kd.int .u8) _ 5 ?hg (N:=5) ?hd (xs:=([]:List Int)) (inner:=[]) (ok:=fun _=>True) (okp:=fun _=>True) ?hr ?hp (fun _ hk=>hk) trivial (Below.refl _ _) (Nat.le_refl _) (by simp) ?_;(case hd=>rfl);(case hg=>rfl);(case hr=>first|(go_simp;done)|(go_simp;rfl));(case hp=>exact (Reps.none _ _));intro v217 w3 ho4 hb hg_ hnew_;clear hg_ hnew_;(first|rw [← Ny216.out] at ho4|(simp only [Int.reduceToNat] at ho4;rw [← Ny216.out] at ho4));have n0_:=zm (Kd.R_lower ho4 (below_size (zb_)));have n1_:=zkH HB hb;clear HB;have HO218:=n0_;have HB:=n1_;clear n0_ n1_;clear hb ho4)|((with_reducible refine gate_builtin (b:=.append) (xs:=#[.tmp 5,.tmp 6]) rfl ?_);at_builtin;refine Kd.R_append_rows (Kd.int .u8) (w0:=w) w.heap.size rfl (.tmp 5) (.tmp 6) 24 5 (.int .u8 0) 1 rfl Try.underlying24 info5 rfl (by decide) (by omega) v217 y216 l0 _ _ _ (fun _=>True) (fun _=>False) rfl rfl ?aO ?aR (fun _ _ h=>h) (fun _ h=>h.elim) ?aF ?aB ?aS ?aL ?_;(case aR=>exact zC HR0);(case aB=>exact (zb_));(case aF=>exact (fun _ _=>trivial));(case aO=>exact (by (with_reducible repeat (first|apply zrA|apply zrN|apply zrD));exact HO218.out));(case aS=>exact (below_size (zb_)));(case aL=>have:=LMc2.out;omega);intro v220 w5 ho hb hg hat;rw [← Ny219.out] at ho;have n0_:=zm (hb);have n1_:=zm (ho);clear HB HO218;have HB:=n0_;have HO221:=n1_;clear n0_ n1_;clear ho hb hg hat))
  go_ret
  exact ⟨_,ze_,by (with_reducible repeat (first|apply zrA|apply zrN|apply zrD));exact HO221.out,zb_⟩
 ·rw [if_neg c2] at H
  exact absurd H (by simp)
theorem bytes_Clone.calls (A0:Option Addr) (c0:Nat) (l0:List Int) (r:List Int) (w:World) (hr0:Kd.C (Kd.int .u8) w A0 l0.length l0) (hc0:l0.length≤c0) (h:bytes_Clone.f l0=some r) :
  Calls Try.prog 15 #[.slice A0 l0.length c0] w fun e w'=>∃ v0_:Value,e=.returned (v0_)∧Kd.R (Kd.int .u8) 5 w' w.heap.size (fun _=>True) v0_ r∧Below w.heap.size w w':=by
 rcases A0 with _|a0
 ·have hl:l0=[]:=by
   rcases l0 with _|⟨x,l⟩
   ·rfl
   ·obtain ⟨ad,he,_⟩:=hr0.2.2 (by simp)
    cases he
  subst hl
  have hrr:r=[]:=by
   have h2:bytes_Clone.f []=some []:=by first|decide|rfl|(simp [bytes_Clone.f];done)
   rw [h2] at h
   exact (Option.some.inj h).symm
  subst hrr
  have HB:=zm (Below.refl w.heap.size w)
  clear h hr0 hc0
  have hq_:=Lib.run_eql_slice_nil (P:=Try.prog) w 24 5 none 0 c0 0 0 Try.underlying24
  go_enter Try.func15,Try.ntmps15
  go_wp2
  go_ret
  exact ⟨_,rfl,Kd.R_nil _ _ _ _ _,HB.out⟩
 ·exact bytes_Clone.calls_some a0 c0 l0 r w hr0 hc0 h
end Go.Proofs.Ytdohpjjggjehfaa.Print
end
section
namespace Go.Proofs.Ytdohpjjggjehfaa.Print
open Go.RowKit Go.Proofs.YtdohpjjggjehfaaW.PrintWords Go.Proofs.YtdohpjjggjehfaaW.PrintLast Go.Proofs.YtdohpjjggjehfaaW.PrintMore
attribute [local go_sem] max2_int min2_int max_two min_two max_three min_three max_four min_four   -- for this text's walks alone
attribute [local go_sem ↓] Go.Proofs.Ytdohpjjggjehfaa.Sem.isSome_setCell
attribute [local go_sem] Go.Instr.field Go.asAgg
set_option linter.unusedVariables false
set_option linter.unusedSimpArgs false
-- CX
-- PG
def slipwaylaw03_PageBack.j (k:Nat) (p2:List Int):Option (Bool) :=
 (page_Decode.f k p2).bind fun g=>if g.2.2.2.2.2=0 then (page_Encode.f k g.1 g.2.1 g.2.2.1 g.2.2.2.1 g.2.2.2.2.1).bind fun q=>if q=(p2,0) then some true else none else some true
def slipwaylaw03_PageBack.f (k:Nat) (a0_0:Int) (a0_1:Int) (a0_2:Int) (a0_3:Int) (l1:List Int) (p2:List Int):Option (Bool) :=
 (slipwaylaw03_live.f k).bind fun t=>if t=true then if p2.length=288 then (page_Encode.f k a0_0 a0_1 a0_2 a0_3 l1).bind fun p=>if p.1.length=288 then if p.2=0 then
 (page_Decode.f k p.1).bind fun g=>if g=(a0_0,a0_1,a0_2,a0_3,g.2.2.2.2.1,0) then (bytes_Clone.f l1).bind fun c=>if c=l1 then if l1.length≤256 then
 (bytes_Equal.f g.2.2.2.2.1 (l1 ++ List.replicate (256 - l1.length) 0)).bind fun t=>if t=true then slipwaylaw03_PageBack.j k p2 else none
 else none else none else none
 else slipwaylaw03_PageBack.j k p2 else none else none else none
set_option maxHeartbeats 4000000 in
set_option maxRecDepth 100000 in
theorem slipwaylaw03_PageBack.calls (k:Nat) (a0_0:Int) (a0_1:Int) (a0_2:Int) (a0_3:Int) (A1:Option Addr) (c1:Nat) (l1:List Int) (p2:List Int) (r:Bool) (w:World) (hr1:Kd.C (Kd.int .u8) w A1 l1.length l1) (hc1:l1.length≤c1) (h:slipwaylaw03_PageBack.f k a0_0 a0_1 a0_2 a0_3 l1 p2=some r) :
  Calls Try.prog 4 #[.agg #[.int .i64 a0_0,.int .i64 a0_1,.int .i64 a0_2,.int .i64 a0_3],.slice A1 l1.length c1,.agg (pc p2)] w fun e w'=>e=.returned (.bool r)∧Below w.heap.size w w':=by
 have hu29:=Try.underlying29
 have hu23:=Try.underlying23
 have H:slipwaylaw03_PageBack.f k a0_0 a0_1 a0_2 a0_3 l1 p2=some r:=h
 clear h
 have hh_:=zm hr1;clear hr1;have hr1:=hh_;clear hh_;have hh_:=zm hc1;clear hc1;have hc1:=hh_;clear hh_
 unfold slipwaylaw03_PageBack.f at H
 have hg_:=Option.bind_eq_some_iff.mp H;clear H;obtain ⟨t,F0,H⟩:=hg_;have hh_:=zm F0;clear F0;have F0:=hh_;clear hh_;(try dsimp only at H);have hg_:=Cw.gt_ H;clear H;obtain ⟨rfl,H⟩:=hg_;have hg_:=Cw.gt_ H;clear H;obtain ⟨hpp,H⟩:=hg_;have hg_:=Option.bind_eq_some_iff.mp H;clear H;obtain ⟨⟨p1,pe⟩,F1,H⟩:=hg_;have hh_:=zm F1;clear F1;have F1:=hh_;clear hh_;(try dsimp only at H);have hg_:=Cw.gt_ H;clear H;obtain ⟨hp,H⟩:=hg_
 have hh_:=zm hp;clear hp;have hp:=hh_;clear hh_;have hh_:=zm hpp;clear hpp;have hpp:=hh_;clear hh_;have hh_:=zm H;clear H;have H:=hh_;clear hh_
 go_enter Try.func4,Try.ntmps4
 go_wp2_with (first|((with_reducible refine gate_ (.box 23 _) rfl ?_);refine box_event rfl rfl (cs:=_) (t:=23) (by first|(go_simp;done)|(go_simp;rfl)) ?_;rintro g3 hg w1 hbk hb;skip;clear hg;have hh_:=zm hbk;clear hbk;have hbk:=hh_;clear hh_;have hh_:=zm hb;clear hb;have hb:=hh_;clear hh_)|((with_reducible refine gate_ (.box 29 _) rfl ?_);refine box_event rfl rfl (pg_box rfl rfl) ?_;rintro g5 hg w1 hbk hb;skip;clear hg;have hh_:=zm hbk;clear hbk;have hbk:=hh_;clear hh_;have hh_:=zm hb;clear hb;have hb:=hh_;clear hh_)|(go_at_call 9;refine (slipwaylaw03_live.calls k true _ F0.out).mono ?_;rintro e w1 ⟨rfl,hb⟩;have hh_:=zm hb;clear hb;have hb:=hh_;clear hh_)|((with_reducible refine gate_ (.load 23 _) rfl ?_);refine Kd.event_run rfl (by apply pg_h23;exact rfl;exact rfl;exact (zbB (Aside0.out (by assumption)) (by repeat (first|exact Below.refl _ _|with_reducible apply zlN|with_reducible apply zlA|refine below_step ?_ (Aside0.out (by assumption)))))) ?_))
 refine (page_Encode.calls k _ _ _ _ _ _ _ p1 pe _ (Kd.C_below (Aside0.out (by assumption)) (by repeat (first|exact Below.refl _ _|with_reducible apply zlN|with_reducible apply zlA|refine below_step ?_ (Aside0.out (by assumption))))) (Aside0.out (by assumption)) F1.out).mono ?_
 rintro e w1 ⟨rfl,hb⟩
 have hh_:=zm hb;clear hb;have hb:=hh_;clear hh_
 replace H:=H.out
 by_cases hz:pe=0
 ·subst hz
  rw [if_pos rfl] at H
  obtain ⟨⟨b1,b2,b3,b4,b5,b6⟩,F2,H⟩:=Option.bind_eq_some_iff.mp H
  have hg_:=Cw.gt_ H;clear H;obtain ⟨hg,H⟩:=hg_
  simp only [Prod.mk.injEq,true_and,and_true] at hg
  obtain ⟨rfl,rfl,rfl,rfl,rfl⟩:=hg
  have hg_:=Option.bind_eq_some_iff.mp H;clear H;obtain ⟨lc,F3,H⟩:=hg_;have hh_:=zm F3;clear F3;have F3:=hh_;clear hh_;(try dsimp only at H);have hg_:=Cw.gt_ H;clear H;obtain ⟨rfl,H⟩:=hg_;have hg_:=Cw.gt_ H;clear H;obtain ⟨hl256,H⟩:=hg_
  obtain ⟨t2,F4,H⟩:=Option.bind_eq_some_iff.mp H
  have hg_:=Cw.gt_ H;clear H;obtain ⟨rfl,H⟩:=hg_
  have hh_:=zm F2;clear F2;have F2:=hh_;clear hh_;have hh_:=zm F4;clear F4;have F4:=hh_;clear hh_;have hh_:=zm H;clear H;have H:=hh_;clear hh_
  have hl2:(lc.length:Int)≤256:=by omega
  have hh_:=zm hl256;clear hl256;have hl256:=hh_;clear hh_;have hh_:=zm hl2;clear hl2;have hl2:=hh_;clear hh_
  go_wp2_with (first|((with_reducible refine gate_ (.alloc 29) rfl ?_);refine Cw.box_store rfl rfl rfl rfl rfl rfl (pg_new rfl) (pg_store_new rfl rfl rfl hp.out) ?_;rintro g7 hg w1 hbk hb;clear hg;have hh_:=zm hbk;clear hbk;have hbk:=hh_;clear hh_;have hh_:=zm hb;clear hb;have hb:=hh_;clear hh_)|((with_reducible refine gate_ (.load 29 _) rfl ?_);refine Kd.event_run rfl (pg_load rfl rfl (zbB (Aside0.out (by assumption)) (by repeat (first|exact Below.refl _ _|with_reducible apply zlN|with_reducible apply zlA|refine below_step ?_ (Aside0.out (by assumption))))) (by first|exact hp.out|exact hpp.out)) ?_))
  refine (page_Decode.calls k p1 b1 b2 b3 b4 b5 0 _ F2.out).mono ?_
  rintro e wb0 ⟨vb,rfl,hob,hb⟩
  obtain ⟨Ab,cb,rfl⟩:=Kd.R_slice hob
  have hrb:=zm (Kd.R_reads' hob).2.2
  have hcb:=zm (Kd.R_reads' hob).2.1
  clear hob
  have hh_:=zm hb;clear hb;have hb:=hh_;clear hh_
  go_wp2_with (first|((with_reducible refine gate_ (.alloc 23) rfl ?_);refine Cw.box_store rfl rfl rfl rfl rfl rfl (by first|(go_simp;done)|(go_simp;rfl)) (by first|(go_simp;done)|(go_simp;rfl)) ?_;rintro g hg w1 hbk hb;clear hg;have hh_:=zm hbk;clear hbk;have hbk:=hh_;clear hh_;have hh_:=zm hb;clear hb;have hb:=hh_;clear hh_))
  refine (bytes_Clone.calls _ _ _ _ _ (Kd.C_below (Aside0.out (by assumption)) (by repeat (first|exact Below.refl _ _|with_reducible apply zlN|with_reducible apply zlA|refine below_step ?_ (Aside0.out (by assumption))))) (Aside0.out (by assumption)) F3.out).mono ?_
  rintro e wC ⟨vc,rfl,hoC,hb⟩
  obtain ⟨Ac,cc,rfl⟩:=Kd.R_slice hoC
  have hh_:=zm hoC;clear hoC;have hoC:=hh_;clear hh_
  have hh_:=zm hb;clear hb;have hb:=hh_;clear hh_
  have hl2:=hl2.out
  go_wp2_with (first|((with_reducible refine gate_builtin (b:=.append) (xs:=#[.tmp 34,.tmp 37]) rfl ?_);at_builtin;refine Kd.R_append_zeros (Kd.int .u8) (w0:=w1) w1.heap.size rfl (.tmp 34) (.tmp 37) 24 3 5 (.int .u8 0) 1 rfl Try.underlying24 Try.underlying3 info5 rfl (by decide) (by omega) (.slice Ac lc.length cc) lc 0 (256 - (lc.length:Int)) (fun _=>True) rfl rfl rfl (fun _ _=>trivial) hoC.out (by have:=hl256.out;omega) (by repeat (first|exact Below.refl _ _|with_reducible apply zlN|with_reducible apply zlA|refine below_step ?_ (Aside0.out (by assumption)))) (below_size (by repeat (first|exact Below.refl _ _|with_reducible apply zlN|with_reducible apply zlA|refine below_step ?_ (Aside0.out (by assumption))))) (by have:=hl256.out;omega) ?_;intro v' w' ho hb hg hat;clear hg hat;have hh_:=zm ho;clear ho;have ho:=hh_;clear hh_;have hh_:=zm hb;clear hb;have hb:=hh_;clear hh_)|((with_reducible refine gate_ (.load 23 _) rfl ?_);refine Kd.event_run rfl (by apply pg_h23;exact rfl;exact rfl;exact (zbB (Aside0.out (by assumption)) (by repeat (first|exact Below.refl _ _|with_reducible apply zlN|with_reducible apply zlA|refine below_step ?_ (Aside0.out (by assumption)))))) ?_)|((with_reducible refine Cw.guarded rfl ?gw ?_);(case gw=>first|rfl|(go_simp;done));dsimp only))
  have ho:=ho.out
  rw [show (256 - (lc.length:Int)).toNat=256 - lc.length by omega] at ho
  obtain ⟨A8,c8,rfl⟩:=Kd.R_slice ho
  refine (bytes_Equal.calls Ab cb b5 A8 c8 (lc ++ List.replicate (256 - lc.length) 0) true _ (Kd.C_below (Aside0.out (by assumption)) (by repeat (first|exact Below.refl _ _|with_reducible apply zlN|with_reducible apply zlA|refine below_step ?_ (Aside0.out (by assumption))))) hcb.out (Kd.R_reads' ho).2.2 (Kd.R_reads' ho).2.1 F4.out).mono ?_
  rintro e w8 ⟨rfl,hd⟩
  have hb:=Drawn0.below hd
  clear hd ho
  have hh_:=zm hb;clear hb;have hb:=hh_;clear hh_
  go_wp2_with (first|((with_reducible refine gate_ (.load 29 _) rfl ?_);refine Kd.event_run rfl (pg_load rfl rfl (zbB (Aside0.out (by assumption)) (by repeat (first|exact Below.refl _ _|with_reducible apply zlN|with_reducible apply zlA|refine below_step ?_ (Aside0.out (by assumption))))) (by first|exact hp.out|exact hpp.out)) ?_)|((with_reducible refine Cw.guarded rfl ?gw ?_);(case gw=>first|rfl|(go_simp;done));dsimp only))
  replace H:=H.out
  unfold slipwaylaw03_PageBack.j at H
  obtain ⟨⟨d1,d2,d3,d4,d5,d6⟩,F5,H⟩:=Option.bind_eq_some_iff.mp H
  have hh_:=zm F5;clear F5;have F5:=hh_;clear hh_
  dsimp only at H
  have hh_:=zm H;clear H;have H:=hh_;clear hh_
  refine (page_Decode.calls k p2 d1 d2 d3 d4 d5 d6 _ F5.out).mono ?_
  rintro e w1 ⟨v5,rfl,ho5,hb⟩
  obtain ⟨A5,c5,rfl⟩:=Kd.R_slice ho5
  have hr5:=zm (Kd.R_reads' ho5).2.2
  have hc5:=zm (Kd.R_reads' ho5).2.1
  clear ho5
  have hh_:=zm hb;clear hb;have hb:=hh_;clear hh_
  replace H:=H.out
  by_cases hd6:d6=0
  rotate_left
  ·rw [if_neg hd6] at H
   obtain rfl:=Option.some.inj H
   have hd6b:(d6 != 0)=true:=bne_iff_ne.mpr hd6
   clear hd6
   go_wp2_with (first|((with_reducible refine gate_ (.alloc 23) rfl ?_);refine Cw.box_store rfl rfl rfl rfl rfl rfl (by first|(go_simp;done)|(go_simp;rfl)) (by first|(go_simp;done)|(go_simp;rfl)) ?_;rintro g hg w1 hbk hb;clear hg;have hh_:=zm hbk;clear hbk;have hbk:=hh_;clear hh_;have hh_:=zm hb;clear hb;have hb:=hh_;clear hh_))
   go_ret
   exact ⟨rfl,(by repeat (first|exact Below.refl _ _|with_reducible apply zlN|with_reducible apply zlA|refine below_step ?_ (Aside0.out (by assumption))))⟩
  subst hd6
  rw [if_pos rfl] at H
  obtain ⟨q,F6,H⟩:=Option.bind_eq_some_iff.mp H
  have hg_:=Cw.gt_ H;clear H;obtain ⟨rfl,H⟩:=hg_
  have hh_:=zm F6;clear F6;have F6:=hh_;clear hh_
  obtain rfl:=Option.some.inj H
  clear H
  go_wp2_with (first|((with_reducible refine gate_ (.alloc 23) rfl ?_);refine Cw.box_store rfl rfl rfl rfl rfl rfl (by first|(go_simp;done)|(go_simp;rfl)) (by first|(go_simp;done)|(go_simp;rfl)) ?_;rintro g hg w1 hbk hb;clear hg;have hh_:=zm hbk;clear hbk;have hbk:=hh_;clear hh_;have hh_:=zm hb;clear hb;have hb:=hh_;clear hh_)|((with_reducible refine gate_ (.load 23 _) rfl ?_);refine Kd.event_run rfl (by apply pg_h23;exact rfl;exact rfl;exact (zbB (Aside0.out (by assumption)) (by repeat (first|exact Below.refl _ _|with_reducible apply zlN|with_reducible apply zlA|refine below_step ?_ (Aside0.out (by assumption)))))) ?_))
  refine (page_Encode.calls k d1 d2 d3 d4 A5 c5 d5 p2 0 _ (Kd.C_below (Aside0.out (by assumption)) (by repeat (first|exact Below.refl _ _|with_reducible apply zlN|with_reducible apply zlA|refine below_step ?_ (Aside0.out (by assumption))))) hc5.out F6.out).mono ?_
  rintro e w1 ⟨rfl,hb⟩
  have hh_:=zm hb;clear hb;have hb:=hh_;clear hh_
  go_wp2_with (first|((with_reducible refine gate_ (.alloc 29) rfl ?_);refine Cw.box_store rfl rfl rfl rfl rfl rfl (pg_new rfl) (pg_store_new rfl rfl rfl hpp.out) ?_;rintro g16 hg w1 hbk hb;clear hg;have hh_:=zm hbk;clear hbk;have hbk:=hh_;clear hh_;have hh_:=zm hb;clear hb;have hb:=hh_;clear hh_)|((with_reducible refine gate_ (.load 29 _) rfl ?_);refine Kd.event_run rfl (pg_load rfl rfl (zbB (Aside0.out (by assumption)) (by repeat (first|exact Below.refl _ _|with_reducible apply zlN|with_reducible apply zlA|refine below_step ?_ (Aside0.out (by assumption))))) (by first|exact hp.out|exact hpp.out)) ?_)|((with_reducible refine gate_ (.binOp .eql 29 _ _ 29) rfl ?_);refine Kd.event_run rfl (v:=.bool true) (by refine (pg_eqop (p:=p2) (q:=p2) rfl rfl rfl hpp.out hpp.out).trans ?_;rw [decide_eq_true (rfl:p2=p2)]) ?_)|((with_reducible refine Cw.guarded rfl ?gw ?_);(case gw=>first|rfl|(go_simp;done));dsimp only))
  go_ret
  exact ⟨rfl,(by repeat (first|exact Below.refl _ _|with_reducible apply zlN|with_reducible apply zlA|refine below_step ?_ (Aside0.out (by assumption))))⟩
 ·rw [if_neg hz] at H
  have hzb:(pe == 0)=false:=by simpa using hz
  clear hz
  go_wp2_with (first|((with_reducible refine gate_ (.alloc 29) rfl ?_);refine Cw.box_store rfl rfl rfl rfl rfl rfl (pg_new rfl) (pg_store_new rfl rfl rfl hp.out) ?_;rintro g7 hg w1 hbk hb;clear hg;have hh_:=zm hbk;clear hbk;have hbk:=hh_;clear hh_;have hh_:=zm hb;clear hb;have hb:=hh_;clear hh_)|((with_reducible refine gate_ (.load 29 _) rfl ?_);refine Kd.event_run rfl (pg_load rfl rfl (zbB (Aside0.out (by assumption)) (by repeat (first|exact Below.refl _ _|with_reducible apply zlN|with_reducible apply zlA|refine below_step ?_ (Aside0.out (by assumption))))) (by first|exact hp.out|exact hpp.out)) ?_))
  unfold slipwaylaw03_PageBack.j at H
  obtain ⟨⟨d1,d2,d3,d4,d5,d6⟩,F5,H⟩:=Option.bind_eq_some_iff.mp H
  have hh_:=zm F5;clear F5;have F5:=hh_;clear hh_
  dsimp only at H
  have hh_:=zm H;clear H;have H:=hh_;clear hh_
  refine (page_Decode.calls k p2 d1 d2 d3 d4 d5 d6 _ F5.out).mono ?_
  rintro e w1 ⟨v5,rfl,ho5,hb⟩
  obtain ⟨A5,c5,rfl⟩:=Kd.R_slice ho5
  have hr5:=zm (Kd.R_reads' ho5).2.2
  have hc5:=zm (Kd.R_reads' ho5).2.1
  clear ho5
  have hh_:=zm hb;clear hb;have hb:=hh_;clear hh_
  replace H:=H.out
  by_cases hd6:d6=0
  rotate_left
  ·rw [if_neg hd6] at H
   obtain rfl:=Option.some.inj H
   have hd6b:(d6 != 0)=true:=bne_iff_ne.mpr hd6
   clear hd6
   go_wp2_with (first|((with_reducible refine gate_ (.alloc 23) rfl ?_);refine Cw.box_store rfl rfl rfl rfl rfl rfl (by first|(go_simp;done)|(go_simp;rfl)) (by first|(go_simp;done)|(go_simp;rfl)) ?_;rintro g hg w1 hbk hb;clear hg;have hh_:=zm hbk;clear hbk;have hbk:=hh_;clear hh_;have hh_:=zm hb;clear hb;have hb:=hh_;clear hh_))
   go_ret
   exact ⟨rfl,(by repeat (first|exact Below.refl _ _|with_reducible apply zlN|with_reducible apply zlA|refine below_step ?_ (Aside0.out (by assumption))))⟩
  subst hd6
  rw [if_pos rfl] at H
  obtain ⟨q,F6,H⟩:=Option.bind_eq_some_iff.mp H
  have hg_:=Cw.gt_ H;clear H;obtain ⟨rfl,H⟩:=hg_
  have hh_:=zm F6;clear F6;have F6:=hh_;clear hh_
  obtain rfl:=Option.some.inj H
  clear H
  go_wp2_with (first|((with_reducible refine gate_ (.alloc 23) rfl ?_);refine Cw.box_store rfl rfl rfl rfl rfl rfl (by first|(go_simp;done)|(go_simp;rfl)) (by first|(go_simp;done)|(go_simp;rfl)) ?_;rintro g hg w1 hbk hb;clear hg;have hh_:=zm hbk;clear hbk;have hbk:=hh_;clear hh_;have hh_:=zm hb;clear hb;have hb:=hh_;clear hh_)|((with_reducible refine gate_ (.load 23 _) rfl ?_);refine Kd.event_run rfl (by apply pg_h23;exact rfl;exact rfl;exact (zbB (Aside0.out (by assumption)) (by repeat (first|exact Below.refl _ _|with_reducible apply zlN|with_reducible apply zlA|refine below_step ?_ (Aside0.out (by assumption)))))) ?_))
  refine (page_Encode.calls k d1 d2 d3 d4 A5 c5 d5 p2 0 _ (Kd.C_below (Aside0.out (by assumption)) (by repeat (first|exact Below.refl _ _|with_reducible apply zlN|with_reducible apply zlA|refine below_step ?_ (Aside0.out (by assumption))))) hc5.out F6.out).mono ?_
  rintro e w1 ⟨rfl,hb⟩
  have hh_:=zm hb;clear hb;have hb:=hh_;clear hh_
  go_wp2_with (first|((with_reducible refine gate_ (.alloc 29) rfl ?_);refine Cw.box_store rfl rfl rfl rfl rfl rfl (pg_new rfl) (pg_store_new rfl rfl rfl hpp.out) ?_;rintro g16 hg w1 hbk hb;clear hg;have hh_:=zm hbk;clear hbk;have hbk:=hh_;clear hh_;have hh_:=zm hb;clear hb;have hb:=hh_;clear hh_)|((with_reducible refine gate_ (.load 29 _) rfl ?_);refine Kd.event_run rfl (pg_load rfl rfl (zbB (Aside0.out (by assumption)) (by repeat (first|exact Below.refl _ _|with_reducible apply zlN|with_reducible apply zlA|refine below_step ?_ (Aside0.out (by assumption))))) (by first|exact hp.out|exact hpp.out)) ?_)|((with_reducible refine gate_ (.binOp .eql 29 _ _ 29) rfl ?_);refine Kd.event_run rfl (v:=.bool true) (by refine (pg_eqop (p:=p2) (q:=p2) rfl rfl rfl hpp.out hpp.out).trans ?_;rw [decide_eq_true (rfl:p2=p2)]) ?_)|((with_reducible refine Cw.guarded rfl ?gw ?_);(case gw=>first|rfl|(go_simp;done));dsimp only))
  go_ret
  exact ⟨rfl,(by repeat (first|exact Below.refl _ _|with_reducible apply zlN|with_reducible apply zlA|refine below_step ?_ (Aside0.out (by assumption))))⟩
def slipwaylaw03_PageBack.Pure:Prop:=∀ (a0_0:Int) (a0_1:Int) (a0_2:Int) (a0_3:Int) (l1:List Int) (p2:List Int),(Lit.int .i64 a0_0).wf=true → (Lit.int .i64 a0_1).wf=true → (Lit.int .i64 a0_2).wf=true → (Lit.int .i64 a0_3).wf=true → (l1.length≤maxLen∧l1.length * 1≤140737488351232∧∀ x ∈ l1,(Lit.int .u8 x).wf=true) → (p2.length=288∧∀ x ∈ p2,(Lit.int .u8 x).wf=true) → ∃ k,slipwaylaw03_PageBack.f k a0_0 a0_1 a0_2 a0_3 l1 p2=some true
theorem slipwaylaw03_PageBack.walk (P:slipwaylaw03_PageBack.Pure) (a0_0:Int) (a0_1:Int) (a0_2:Int) (a0_3:Int) (A1:Option Addr) (c1:Nat) (l1:List Int) (p2:List Int) (w:World) (hr1:Kd.C (Kd.int .u8) w A1 l1.length l1) (hc1:l1.length≤c1) (w0_0:(Lit.int .i64 a0_0).wf=true) (w0_1:(Lit.int .i64 a0_1).wf=true) (w0_2:(Lit.int .i64 a0_2).wf=true) (w0_3:(Lit.int .i64 a0_3).wf=true) (w1:(l1.length≤maxLen∧l1.length * 1≤140737488351232∧∀ x ∈ l1,(Lit.int .u8 x).wf=true)) (w2:(p2.length=288∧∀ x ∈ p2,(Lit.int .u8 x).wf=true)) :
  Calls Try.prog 4 #[.agg #[.int .i64 a0_0,.int .i64 a0_1,.int .i64 a0_2,.int .i64 a0_3],.slice A1 l1.length c1,.agg (pc p2)] w fun e w'=>e=.returned (.bool true)∧Below w.heap.size w w':=by
 obtain ⟨k,h⟩:=P a0_0 a0_1 a0_2 a0_3 l1 p2 w0_0 w0_1 w0_2 w0_3 w1 w2
 refine (slipwaylaw03_PageBack.calls k a0_0 a0_1 a0_2 a0_3 A1 c1 l1 p2 true w hr1 hc1 h).mono ?_
 rintro e w' ⟨rfl,hd⟩
 exact ⟨rfl,hd⟩
end Go.Proofs.Ytdohpjjggjehfaa.Print
end
