/- Texts of the proof of PageTorn, part 22. -/
import Derived.Test.YtdohpjjggjehfaaPageTornMA
import Derived.Test.YtdohpjjggjehfaaPageTornM20
import Derived.Test.YtdohpjjggjehfaaPageTornM13
import Derived.Test.YtdohpjjggjehfaaPageTornM21
import Derived.Test.YtdohpjjggjehfaaPageTornM15
import Derived.RangeFuncNested
import Derived.RangeFuncBox
import Derived.RangeFuncLeaves
import Derived.Shelf.Abstract
import Derived.WalkKit
import Derived.OwnWalkIn
import Derived.TacticsInMore
import Derived.LoopNIn
import Derived.LoopIn
import Derived.Stop.RegionWithIn
import Derived.Maps.AppendAt
section
namespace Go.Proofs.Ytdohpjjggjehfaa.Print
open Go.RowKit Go.Proofs.YtdohpjjggjehfaaW.PrintWords Go.Proofs.YtdohpjjggjehfaaW.PrintLast Go.Proofs.YtdohpjjggjehfaaW.PrintMore
attribute [local go_sem] max2_int min2_int max_two min_two max_three min_three max_four min_four   -- for this text's walks alone
attribute [local go_sem ↓] Go.Proofs.Ytdohpjjggjehfaa.Sem.isSome_setCell
attribute [local go_sem] Go.Instr.field Go.asAgg
set_option linter.unusedVariables false
set_option linter.unusedSimpArgs false
-- CX
-- PG
def pg_of (d h:List Int):List Int:=splice (splice pz 0 (d.take 256)) 256 (h.take 32)
theorem pg_of_len (d h:List Int):(pg_of d h).length=288:=by
 unfold pg_of
 rw [splice_len,splice_len,pz_len]
 ·rw [pz_len,List.length_take];omega
 ·rw [splice_len,pz_len,List.length_take]
  ·omega
  ·rw [pz_len,List.length_take];omega
def page_Encode.f (k:Nat) (a0_0:Int) (a0_1:Int) (a0_2:Int) (a0_3:Int) (l1:List Int):Option (List Int × Int) :=
 (page_Check.f k a0_0 a0_1 a0_2 a0_3).bind fun e=>if e=0 then (if l1.length≤256 then
 (seal_Pack.f k [8,8,32,64,64] [IntKind.u64.wrap a0_0,0,IntKind.u64.wrap a0_1,IntKind.u64.wrap a0_2,IntKind.u64.wrap a0_3]).bind fun h=>if h.2=0 then
 (slices_Concat_byte_byte.f k [((pg_of l1 h.1).drop 0).take 256,((pg_of l1 h.1).drop 256).take 28]).bind fun b =>
 (seal_Seal.f k b).bind fun s=>if s.2=0 then if 4≤s.1.length then if s.1.length≤9223372036854775807 then some (splice (pg_of l1 h.1) 284 ((s.1.drop (s.1.length - 4)).take 4),0) else none else none
 else some (pz,s.2) else some (pz,h.2) else some (pz,3)) else some (pz,e)
theorem lo4 {n:Nat} (h:4≤n) (hn:n≤9223372036854775807):wrap64 ((n:Int) - 4)=((n - 4:Nat):Int):=by unfold wrap64;omega
theorem p4_len (l1 hd sb:List Int) (h:4≤sb.length):(splice (pg_of l1 hd) 284 ((sb.drop (sb.length - 4)).take 4)).length=288:=by
 rw [splice_len,pg_of_len]
 rw [pg_of_len,List.length_take,List.length_drop]
 omega
set_option maxHeartbeats 4000000 in
set_option maxRecDepth 100000 in
theorem page_Encode.calls (k:Nat) (a0_0:Int) (a0_1:Int) (a0_2:Int) (a0_3:Int) (A1:Option Addr) (c1:Nat) (l1:List Int) (r1:List Int) (r2:Int) (w:World) (hr1:Kd.C (Kd.int .u8) w A1 l1.length l1) (hc1:l1.length≤c1) (h:page_Encode.f k a0_0 a0_1 a0_2 a0_3 l1=some (r1,r2)) :
  Calls Try.prog 10 #[.agg #[.int .i64 a0_0,.int .i64 a0_1,.int .i64 a0_2,.int .i64 a0_3],.slice A1 l1.length c1] w fun e w'=>e=.returned (.tuple #[.agg (pc r1),.int .i64 r2])∧Below w.heap.size w w':=by
 have hu29:=Try.underlying29
 have hu23:=Try.underlying23
 have H:page_Encode.f k a0_0 a0_1 a0_2 a0_3 l1=some (r1,r2):=h
 clear h
 have hh_:=zm hr1;clear hr1;have hr1:=hh_;clear hh_;have hh_:=zm hc1;clear hc1;have hc1:=hh_;clear hh_
 unfold page_Encode.f at H
 have hg_:=Option.bind_eq_some_iff.mp H;clear H;obtain ⟨ec,F0,H⟩:=hg_;have hh_:=zm F0;clear F0;have F0:=hh_;clear hh_;(try dsimp only at H)
 by_cases hz:ec=0
 rotate_left
 ·rw [if_neg hz] at H
  simp only [Option.some.injEq,Prod.mk.injEq] at H
  obtain ⟨rfl,rfl⟩:=H
  have hz0:(ec != 0)=true:=bne_iff_ne.mpr hz
  clear hz
  go_enter Try.func10,Try.ntmps10
  go_wp2_with (first|((with_reducible refine gate_ (.box 23 _) rfl ?_);refine box_event rfl rfl (cs:=_) (t:=23) (by first|(go_simp;done)|(go_simp;rfl)) ?_;rintro g2 hg w1 hbk hb;skip;clear hg;have hh_:=zm hbk;clear hbk;have hbk:=hh_;clear hh_;have hh_:=zm hb;clear hb;have hb:=hh_;clear hh_)|((with_reducible refine gate_dst (N:=4) rfl ?_);(with_reducible refine gate_ (.alloc 29) rfl ?_);refine box_event rfl rfl (pg_new rfl) ?_;rintro g4 hg w1 hbk hb;have hge4:Aside0 (w.heap.size≤g4):=⟨by rw [hg];exact below_size (by repeat (first|exact Below.refl _ _|with_reducible apply zlN|with_reducible apply zlA|refine below_step ?_ (Aside0.out (by assumption))))⟩;clear hg;have hh_:=zm hbk;clear hbk;have hbk:=hh_;clear hh_;have hh_:=zm hb;clear hb;have hb:=hh_;clear hh_)|((with_reducible refine gate_ (.load 23 _) rfl ?_);refine Kd.event_run rfl (by apply pg_h23;exact rfl;exact rfl;exact (zbB (Aside0.out (by assumption)) (by repeat (first|exact Below.refl _ _|with_reducible apply zlN|with_reducible apply zlA|refine below_step ?_ (Aside0.out (by assumption)))))) ?_)|(go_at_call 12;refine (page_Check.calls k _ _ _ _ _ _ F0.out).mono ?_;rintro e wc ⟨rfl,hb⟩;have hh_:=zm hb;clear hb;have hb:=hh_;clear hh_)|((with_reducible refine gate_ (.build 29 #[]) rfl ?_);refine Kd.event_run rfl (pg_build rfl) ?_)|((with_reducible refine gate_ (.store 29 (.tmp 4) _) rfl ?_);refine pg_put (g:=g4) (q:=pz) rfl rfl (pg_store rfl rfl rfl (zbB (Aside0.out (by assumption)) (by repeat (first|exact Below.refl _ _|with_reducible apply zlN|with_reducible apply zlA|refine below_step ?_ (Aside0.out (by assumption))))) pz_len pz_len) (zbB (Aside0.out (by assumption)) (by repeat (first|exact Below.refl _ _|with_reducible apply zlN|with_reducible apply zlA|refine below_step ?_ (Aside0.out (by assumption))))) ?_;rintro w2 hq hfar hbel;have hb2:Aside0 (Below w.heap.size w w2):=⟨hbel _ _ (by repeat (first|exact Below.refl _ _|with_reducible apply zlN|with_reducible apply zlA|refine below_step ?_ (Aside0.out (by assumption)))) hge4.out⟩;clear hfar hbel;have hh_:=zm hq;clear hq;have hq:=hh_;clear hh_))
  refine bodyPost_ret (results_ct rfl _ _ g4 29 (pc pz) (0,0) _ rfl hq.out Try.underlying29 rfl (pg_size pz_len)) rfl ?_
  exact ⟨rfl,hb2.out⟩
 subst hz
 rw [if_pos rfl] at H
 by_cases hl:l1.length≤256
 rotate_left
 ·rw [if_neg hl] at H
  simp only [Option.some.injEq,Prod.mk.injEq] at H
  obtain ⟨rfl,rfl⟩:=H
  have hl0:decide (256 < (l1.length:Int))=true:=decide_eq_true (by omega)
  clear hl
  go_enter Try.func10,Try.ntmps10
  go_wp2_with (first|((with_reducible refine gate_ (.box 23 _) rfl ?_);refine box_event rfl rfl (cs:=_) (t:=23) (by first|(go_simp;done)|(go_simp;rfl)) ?_;rintro g2 hg w1 hbk hb;skip;clear hg;have hh_:=zm hbk;clear hbk;have hbk:=hh_;clear hh_;have hh_:=zm hb;clear hb;have hb:=hh_;clear hh_)|((with_reducible refine gate_dst (N:=4) rfl ?_);(with_reducible refine gate_ (.alloc 29) rfl ?_);refine box_event rfl rfl (pg_new rfl) ?_;rintro g4 hg w1 hbk hb;have hge4:Aside0 (w.heap.size≤g4):=⟨by rw [hg];exact below_size (by repeat (first|exact Below.refl _ _|with_reducible apply zlN|with_reducible apply zlA|refine below_step ?_ (Aside0.out (by assumption))))⟩;clear hg;have hh_:=zm hbk;clear hbk;have hbk:=hh_;clear hh_;have hh_:=zm hb;clear hb;have hb:=hh_;clear hh_)|((with_reducible refine gate_ (.load 23 _) rfl ?_);refine Kd.event_run rfl (by apply pg_h23;exact rfl;exact rfl;exact (zbB (Aside0.out (by assumption)) (by repeat (first|exact Below.refl _ _|with_reducible apply zlN|with_reducible apply zlA|refine below_step ?_ (Aside0.out (by assumption)))))) ?_)|(go_at_call 12;refine (page_Check.calls k _ _ _ _ _ _ F0.out).mono ?_;rintro e wc ⟨rfl,hb⟩;have hh_:=zm hb;clear hb;have hb:=hh_;clear hh_)|((with_reducible refine gate_ (.build 29 #[]) rfl ?_);refine Kd.event_run rfl (pg_build rfl) ?_)|((with_reducible refine gate_ (.store 29 (.tmp 4) _) rfl ?_);refine pg_put (g:=g4) (q:=pz) rfl rfl (pg_store rfl rfl rfl (zbB (Aside0.out (by assumption)) (by repeat (first|exact Below.refl _ _|with_reducible apply zlN|with_reducible apply zlA|refine below_step ?_ (Aside0.out (by assumption))))) pz_len pz_len) (zbB (Aside0.out (by assumption)) (by repeat (first|exact Below.refl _ _|with_reducible apply zlN|with_reducible apply zlA|refine below_step ?_ (Aside0.out (by assumption))))) ?_;rintro w2 hq hfar hbel;have hb2:Aside0 (Below w.heap.size w w2):=⟨hbel _ _ (by repeat (first|exact Below.refl _ _|with_reducible apply zlN|with_reducible apply zlA|refine below_step ?_ (Aside0.out (by assumption)))) hge4.out⟩;clear hfar hbel;have hh_:=zm hq;clear hq;have hq:=hh_;clear hh_))
  refine bodyPost_ret (results_ct rfl _ _ g4 29 (pc pz) (0,0) _ rfl hq.out Try.underlying29 rfl (pg_size pz_len)) rfl ?_
  exact ⟨rfl,hb2.out⟩
 rw [if_pos hl] at H
 have hl0:decide (256 < (l1.length:Int))=false:=decide_eq_false (by omega)
 have hg_:=Option.bind_eq_some_iff.mp H;clear H;obtain ⟨⟨hd,he⟩,F1,H⟩:=hg_;have hh_:=zm F1;clear F1;have F1:=hh_;clear hh_;(try dsimp only at H)
 have hh_:=zm H;clear H;have H:=hh_;clear hh_;have hh_:=zm hl;clear hl;have hl:=hh_;clear hh_
 go_enter Try.func10,Try.ntmps10
 go_wp2_with (first|((with_reducible refine gate_ (.box 23 _) rfl ?_);refine box_event rfl rfl (cs:=_) (t:=23) (by first|(go_simp;done)|(go_simp;rfl)) ?_;rintro g2 hg w1 hbk hb;skip;clear hg;have hh_:=zm hbk;clear hbk;have hbk:=hh_;clear hh_;have hh_:=zm hb;clear hb;have hb:=hh_;clear hh_)|((with_reducible refine gate_dst (N:=4) rfl ?_);(with_reducible refine gate_ (.alloc 29) rfl ?_);refine box_event rfl rfl (pg_new rfl) ?_;rintro g4 hg w1 hbk hb;have hge4:Aside0 (w.heap.size≤g4):=⟨by rw [hg];exact below_size (by repeat (first|exact Below.refl _ _|with_reducible apply zlN|with_reducible apply zlA|refine below_step ?_ (Aside0.out (by assumption))))⟩;clear hg;have hh_:=zm hbk;clear hbk;have hbk:=hh_;clear hh_;have hh_:=zm hb;clear hb;have hb:=hh_;clear hh_)|((with_reducible refine gate_ (.load 23 _) rfl ?_);refine Kd.event_run rfl (by apply pg_h23;exact rfl;exact rfl;exact (zbB (Aside0.out (by assumption)) (by repeat (first|exact Below.refl _ _|with_reducible apply zlN|with_reducible apply zlA|refine below_step ?_ (Aside0.out (by assumption)))))) ?_)|(go_at_call 12;refine (page_Check.calls k _ _ _ _ _ _ F0.out).mono ?_;rintro e wc ⟨rfl,hb⟩;have hh_:=zm hb;clear hb;have hb:=hh_;clear hh_))
 refine Cw.dstart (by as_aux_lemma=>kernel_rfl) rfl (fun wd hb=>?_)
 have hh_:=zm hb;clear hb;have hb:=hh_;clear hh_
 refine zpu 1 ?_
 refine Cw.dtk (i:=2) (v:=?_) (a':=?_) (by simp only [List.getElem?_toArray,List.getElem?_cons_succ,List.getElem?_cons_zero];rfl) rfl (by as_aux_lemma=>kernel_rfl) (by rfl) (by exact fun _ _ _ h=>h) ?_ (by repeat (first|exact Below.refl _ _|with_reducible apply zlN|with_reducible apply zlA|refine below_step ?_ (Aside0.out (by assumption)))) ?_ ?_
 rotate_left
 ·intro w' hs_
  have hs:=zm hs_
  clear hs_
  apply Eq.trans
  ·apply pg_c3
   ·rfl
   ·rfl
   ·exact (zbB (Aside0.out (by assumption)) (by repeat (first|exact Below.refl _ _|with_reducible apply zlN|with_reducible apply zlA|refine below_step ?_ (Aside0.out (by assumption)))))
   ·rfl
  ·rfl
 rotate_left
 ·simp only [Act.put,List.setIfInBounds_toArray,List.set_cons_zero,List.set_cons_succ,i64_w,i32_w]
  rfl
 refine zpu 3 ?_
 refine zpu 4 ?_
 refine Cw.dtk (i:=5) (v:=?_) (a':=?_) (by simp only [List.getElem?_toArray,List.getElem?_cons_succ,List.getElem?_cons_zero];rfl) rfl (by as_aux_lemma=>kernel_rfl) (by rfl) (by exact fun _ _ _ h=>h) ?_ (by repeat (first|exact Below.refl _ _|with_reducible apply zlN|with_reducible apply zlA|refine below_step ?_ (Aside0.out (by assumption)))) ?_ ?_
 rotate_left
 ·intro w' hs_
  have hs:=zm hs_
  clear hs_
  apply Eq.trans
  ·apply pg_c3
   ·rfl
   ·rfl
   ·exact (zbB (Aside0.out (by assumption)) (by repeat (first|exact Below.refl _ _|with_reducible apply zlN|with_reducible apply zlA|refine below_step ?_ (Aside0.out (by assumption)))))
   ·rfl
  ·rfl
 rotate_left
 ·simp only [Act.put,List.setIfInBounds_toArray,List.set_cons_zero,List.set_cons_succ,i64_w,i32_w]
  rfl
 refine zpu 6 ?_
 refine zpu 7 ?_
 refine Cw.dtk (i:=8) (v:=?_) (a':=?_) (by simp only [List.getElem?_toArray,List.getElem?_cons_succ,List.getElem?_cons_zero];rfl) rfl (by as_aux_lemma=>kernel_rfl) (by rfl) (by exact fun _ _ _ h=>h) ?_ (by repeat (first|exact Below.refl _ _|with_reducible apply zlN|with_reducible apply zlA|refine below_step ?_ (Aside0.out (by assumption)))) ?_ ?_
 rotate_left
 ·intro w' hs_
  have hs:=zm hs_
  clear hs_
  apply Eq.trans
  ·apply pg_c2
   ·rfl
   ·rfl
   ·exact (zbB (Aside0.out (by assumption)) (by repeat (first|exact Below.refl _ _|with_reducible apply zlN|with_reducible apply zlA|refine below_step ?_ (Aside0.out (by assumption)))))
   ·rfl
  ·rfl
 rotate_left
 ·simp only [Act.put,List.setIfInBounds_toArray,List.set_cons_zero,List.set_cons_succ,i64_w,i32_w]
  rfl
 refine zpu 9 ?_
 refine zpu 10 ?_
 refine Cw.dtk (i:=11) (v:=?_) (a':=?_) (by simp only [List.getElem?_toArray,List.getElem?_cons_succ,List.getElem?_cons_zero];rfl) rfl (by as_aux_lemma=>kernel_rfl) (by rfl) (by exact fun _ _ _ h=>h) ?_ (by repeat (first|exact Below.refl _ _|with_reducible apply zlN|with_reducible apply zlA|refine below_step ?_ (Aside0.out (by assumption)))) ?_ ?_
 rotate_left
 ·intro w' hs_
  have hs:=zm hs_
  clear hs_
  apply Eq.trans
  ·apply pg_c2
   ·rfl
   ·rfl
   ·exact (zbB (Aside0.out (by assumption)) (by repeat (first|exact Below.refl _ _|with_reducible apply zlN|with_reducible apply zlA|refine below_step ?_ (Aside0.out (by assumption)))))
   ·rfl
  ·rfl
 rotate_left
 ·simp only [Act.put,List.setIfInBounds_toArray,List.set_cons_zero,List.set_cons_succ,i64_w,i32_w]
  rfl
 refine zpu 12 ?_
 refine zboth 0 13 22 35 (fun v W=>Aside0 (Kd.R (Kd.int .i64) 3 W wd.heap.size (fun _=>True) v [8,8,32,64,64])) (fun v W=>∃ g,v=.slice (some ⟨g,0,none⟩) 5 5∧Aside0 (W.heap[g]?=some (.cells #[.int .u64 (IntKind.u64.wrap a0_0),.int .u64 0,.int .u64 (IntKind.u64.wrap a0_1),.int .u64 (IntKind.u64.wrap a0_2),.int .u64 (IntKind.u64.wrap a0_3)] 58 (0,0)))) (by repeat (first|exact Below.refl _ _|with_reducible apply zlN|with_reducible apply zlA|refine below_step ?_ (Aside0.out (by assumption)))) ?_ ?_ ?_
 ·intro a' W K hS _ hk
  have hS:=zm (hS:Below wd.heap.size wd W)
  refine zgo Try.func30 #[] ?_
  refine (page_widths.calls [8,8,32,64,64] _ rfl).mono ?_
  rintro e wJ ⟨vJ,rfl,hoJ,hb⟩
  have hh_:=zm hoJ;clear hoJ;have hoJ:=hh_;clear hh_;have hh_:=zm hb;clear hb;have hb:=hh_;clear hh_
  refine ⟨_,rfl,hk _ _ (by repeat (first|exact Below.refl _ _|with_reducible apply zlN|with_reducible apply zlA|refine below_step ?_ (Aside0.out (by assumption)))) ⟨Kd.R_lower hoJ.out (below_size (by repeat (first|exact Below.refl _ _|with_reducible apply zlN|with_reducible apply zlA|refine below_step ?_ (Aside0.out (by assumption)))))⟩ ?_⟩
  rintro u ⟨g,rfl,hbk⟩
  exact ⟨g,rfl,⟨(zbB (Aside0.out (by assumption)) (by repeat (first|exact Below.refl _ _|with_reducible apply zlN|with_reducible apply zlA|refine below_step ?_ (Aside0.out (by assumption)))))⟩⟩
 ·intro a' W K hS ha hk
  have hS:=zm (hS:Below wd.heap.size wd W)
  have hk2:∀ W2,W2=W.alloc (.cells #[.int .u64 (IntKind.u64.wrap a0_0),.int .u64 0,.int .u64 (IntKind.u64.wrap a0_1),.int .u64 (IntKind.u64.wrap a0_2),.int .u64 (IntKind.u64.wrap a0_3)] 58 (0,0)) → K (a'.put (some 35) (.slice (some ⟨W.heap.size,0,none⟩) 5 5)) W2:=by
   intro W2 hW2
   have hb:=zm (show Below W.heap.size W W2 from by rw [hW2];exact zlA (Below.refl _ _) _)
   refine hk _ _ (by repeat (first|exact Below.refl _ _|with_reducible apply zlN|with_reducible apply zlA|refine below_step ?_ (Aside0.out (by assumption)))) ⟨W.heap.size,rfl,⟨by rw [hW2];exact blk_new W _⟩⟩ ?_
   intro u hu
   exact ⟨Kd.R_below hu.out (by repeat (first|exact Below.refl _ _|with_reducible apply zlN|with_reducible apply zlA|refine below_step ?_ (Aside0.out (by assumption))))⟩
  rcases ha with rfl|⟨u,rfl⟩
  ·exact value_ (by rfl) rfl (pg_lit5 rfl rfl rfl rfl rfl rfl) (hk2 _ rfl)
  ·exact value_ (by rfl) rfl (pg_lit5 rfl rfl rfl rfl rfl rfl) (hk2 _ rfl)
 rintro vw u W' hS hoJ ⟨gl,rfl,hbl⟩
 have hS:=zm (hS:Below wd.heap.size wd W')
 refine norm_ (a':=?_) ?_ ?_
 rotate_left
 ·simp only [Act.put,List.setIfInBounds_toArray,List.set_cons_zero,List.set_cons_succ,i64_w,i32_w]
  rfl
 obtain ⟨AJ,cJ,rfl⟩:=Kd.R_slice hoJ.out
 have hcJ:=zm (Kd.R_reads' hoJ.out).2.1
 have hrJ:=zm (Kd.R_reads' hoJ.out).2.2
 refine Cw.done1 (i:=14) (N:=some 36) (by simp only [List.getElem?_toArray,List.getElem?_cons_succ,List.getElem?_cons_zero];rfl) rfl (by as_aux_lemma=>kernel_rfl) (fun K hK=>?_)
 refine goes_ Try.func29 (by as_aux_lemma=>kernel_rfl) rfl _ (by rfl) rfl rfl (by go_simp;rfl) ?_
 refine (seal_Pack.calls k AJ cJ [8,8,32,64,64] _ 5 [IntKind.u64.wrap a0_0,0,IntKind.u64.wrap a0_1,IntKind.u64.wrap a0_2,IntKind.u64.wrap a0_3] hd he _ (Kd.C_below (Aside0.out (by assumption)) (by repeat (first|exact Below.refl _ _|with_reducible apply zlN|with_reducible apply zlA|refine below_step ?_ (Aside0.out (by assumption))))) hcJ.out (Cw.C_ints (zbB (Aside0.out (by assumption)) (by repeat (first|exact Below.refl _ _|with_reducible apply zlN|with_reducible apply zlA|refine below_step ?_ (Aside0.out (by assumption))))) rfl (by simp)) (by simp) F1.out).mono ?_
 rintro e wa ⟨v,rfl,ho,hb⟩
 obtain ⟨Ah,ch,rfl⟩:=Kd.R_slice ho
 have hrh:=zm (Kd.R_reads' ho).2.2
 clear ho
 have hh_:=zm hb;clear hb;have hb:=hh_;clear hh_
 refine ⟨_,rfl,?_⟩
 refine hK.out _ _ (by repeat (first|exact Below.refl _ _|with_reducible apply zlN|with_reducible apply zlA|refine below_step ?_ (Aside0.out (by assumption)))) (fun _=>?_)
 clear hK K
 refine znm (some 36) ?_
 refine zpu 15 ?_
 refine zpu 16 ?_
 refine zpu 17 ?_
 refine zpu 18 ?_
 refine zpu 19 ?_
 refine zdo ?_
 replace H:=H.out
 by_cases hz:he=0
 rotate_left
 ·rw [if_neg hz] at H
  simp only [Option.some.injEq,Prod.mk.injEq] at H
  obtain ⟨rfl,rfl⟩:=H
  have hz0:(he != 0)=true:=bne_iff_ne.mpr hz
  clear hz
  go_wp2_with (first|((with_reducible refine gate_ (.build 29 #[]) rfl ?_);refine Kd.event_run rfl (pg_build rfl) ?_)|((with_reducible refine gate_ (.store 29 (.tmp 4) _) rfl ?_);refine pg_put (g:=g4) (q:=pz) rfl rfl (pg_store rfl rfl rfl (zbB (Aside0.out (by assumption)) (by repeat (first|exact Below.refl _ _|with_reducible apply zlN|with_reducible apply zlA|refine below_step ?_ (Aside0.out (by assumption))))) pz_len pz_len) (zbB (Aside0.out (by assumption)) (by repeat (first|exact Below.refl _ _|with_reducible apply zlN|with_reducible apply zlA|refine below_step ?_ (Aside0.out (by assumption))))) ?_;rintro w2 hq hfar hbel;have hb2:Aside0 (Below w.heap.size w w2):=⟨hbel _ _ (by repeat (first|exact Below.refl _ _|with_reducible apply zlN|with_reducible apply zlA|refine below_step ?_ (Aside0.out (by assumption)))) hge4.out⟩;clear hfar hbel;have hh_:=zm hq;clear hq;have hq:=hh_;clear hh_))
  refine bodyPost_ret (results_ct rfl _ _ g4 29 (pc pz) (0,0) _ rfl hq.out Try.underlying29 rfl (pg_size pz_len)) rfl ?_
  exact ⟨rfl,hb2.out⟩
 subst hz
 rw [if_pos rfl] at H
 have hg_:=Option.bind_eq_some_iff.mp H;clear H;obtain ⟨b,F2,H⟩:=hg_;have hh_:=zm F2;clear F2;have F2:=hh_;clear hh_;(try dsimp only at H);have hg_:=Option.bind_eq_some_iff.mp H;clear H;obtain ⟨⟨sb,se⟩,F3,H⟩:=hg_;have hh_:=zm F3;clear F3;have F3:=hh_;clear hh_;(try dsimp only at H)
 have hh_:=zm H;clear H;have H:=hh_;clear hh_
 have hpl:=zm (pg_of_len l1 hd)
 go_wp2_with (first|((with_reducible refine gate_dst (N:=9) rfl ?_);(with_reducible refine gate_ (.alloc 29) rfl ?_);refine box_event rfl rfl (pg_new rfl) ?_;rintro g9 hg w1 hbk hb;have hge9:Aside0 (wa.heap.size≤g9):=⟨Nat.le_of_eq hg.symm⟩;clear hg;have hh_:=zm hbk;clear hbk;have hbk:=hh_;clear hh_;have hh_:=zm hb;clear hb;have hb:=hh_;clear hh_)|((with_reducible refine gate_builtin (b:=.copy) (xs:=#[.tmp 44,.tmp 45]) rfl ?_);refine pg_putv (g:=g9) rfl (pg_copy (p:=pz) (ys:=l1) rfl rfl rfl (Kd.C_below (Aside0.out (by assumption)) (by repeat (first|exact Below.refl _ _|with_reducible apply zlN|with_reducible apply zlA|refine below_step ?_ (Aside0.out (by assumption))))) (zbB (Aside0.out (by assumption)) (by repeat (first|exact Below.refl _ _|with_reducible apply zlN|with_reducible apply zlA|refine below_step ?_ (Aside0.out (by assumption))))) (by rw [pz_len];omega)) (zbB (Aside0.out (by assumption)) (by repeat (first|exact Below.refl _ _|with_reducible apply zlN|with_reducible apply zlA|refine below_step ?_ (Aside0.out (by assumption))))) ?_;rintro w2 hq hfar hbel;have hb2:Aside0 (Below wa.heap.size wa w2):=⟨hbel _ _ (by repeat (first|exact Below.refl _ _|with_reducible apply zlN|with_reducible apply zlA|refine below_step ?_ (Aside0.out (by assumption)))) hge9.out⟩;clear hfar hbel;have hh_:=zm hq;clear hq;have hq:=hh_;clear hh_)|((with_reducible refine gate_builtin (b:=.copy) (xs:=#[.tmp 48,.tmp 49]) rfl ?_);refine pg_putv (g:=g9) rfl (pg_copy (p:=(splice pz 0 (l1.take 256))) (ys:=hd) rfl rfl rfl (Kd.C_below (Aside0.out (by assumption)) (by repeat (first|exact Below.refl _ _|with_reducible apply zlN|with_reducible apply zlA|refine below_step ?_ (Aside0.out (by assumption))))) (zbB (Aside0.out (by assumption)) (by repeat (first|exact Below.refl _ _|with_reducible apply zlN|with_reducible apply zlA|refine below_step ?_ (Aside0.out (by assumption))))) (by rw [splice_len,pz_len];omega;rw [pz_len,List.length_take];omega)) (zbB (Aside0.out (by assumption)) (by repeat (first|exact Below.refl _ _|with_reducible apply zlN|with_reducible apply zlA|refine below_step ?_ (Aside0.out (by assumption))))) ?_;rintro w2 hq hfar hbel;have hb2:Aside0 (Below wa.heap.size wa w2):=⟨hbel _ _ (by repeat (first|exact Below.refl _ _|with_reducible apply zlN|with_reducible apply zlA|refine below_step ?_ (Aside0.out (by assumption)))) hge9.out⟩;clear hfar hbel;have hh_:=zm hq;clear hq;have hq:=hh_;clear hh_))
 have hq9:Aside0 (w2.heap[g9]?=some (.cells (pc (pg_of l1 hd)) 29 (0,0))):=hq
 clear hq
 refine Cw.dstart (by as_aux_lemma=>kernel_rfl) rfl (fun wd hb=>?_)
 have hh_:=zm hb;clear hb;have hb:=hh_;clear hh_
 refine zpu 0 ?_
 refine zpu 1 ?_
 refine zpu 2 ?_
 refine zpu 3 ?_
 refine Cw.done1 (i:=4) (N:=some 56) (by simp only [List.getElem?_toArray,List.getElem?_cons_succ,List.getElem?_cons_zero];rfl) rfl (by as_aux_lemma=>kernel_rfl) (fun K hK=>?_)
 refine Cw.dnew (fun g=>.slice (some ⟨g,0,none⟩) 2 2) (by rfl) rfl (by apply pg_lit2 <;> rfl) ?_
 rintro gz hg w1 hbk hb
 clear hg
 have hh_:=zm hbk;clear hbk;have hbk:=hh_;clear hh_;have hh_:=zm hb;clear hb;have hb:=hh_;clear hh_
 refine hK.out _ _ (by repeat (first|exact Below.refl _ _|with_reducible apply zlN|with_reducible apply zlA|refine below_step ?_ (Aside0.out (by assumption)))) (fun _=>?_)
 clear hK K
 refine znm (some 56) ?_
 refine Cw.done1 (i:=5) (N:=some 57) (by simp only [List.getElem?_toArray,List.getElem?_cons_succ,List.getElem?_cons_zero];rfl) rfl (by as_aux_lemma=>kernel_rfl) (fun K hK=>?_)
 refine goes_ Try.func32 (by as_aux_lemma=>kernel_rfl) rfl _ (by rfl) rfl rfl (by go_simp;rfl) ?_
 refine (slices_Concat_byte_byte.calls k (some ⟨gz,0,none⟩) 2 [((pg_of l1 hd).drop 0).take 256,((pg_of l1 hd).drop 256).take 28] b _ (pg_two (n0:=256) (n1:=28) (by rw [List.length_take,List.length_drop,hpl.out];rfl) (by rw [List.length_take,List.length_drop,hpl.out];rfl) (zbB (Aside0.out (by assumption)) (by repeat (first|exact Below.refl _ _|with_reducible apply zlN|with_reducible apply zlA|refine below_step ?_ (Aside0.out (by assumption))))) (pg_C (zbB (Aside0.out (by assumption)) (by repeat (first|exact Below.refl _ _|with_reducible apply zlN|with_reducible apply zlA|refine below_step ?_ (Aside0.out (by assumption))))) (by rw [hpl.out];decide) hpl.out) (by decide) (pg_C (zbB (Aside0.out (by assumption)) (by repeat (first|exact Below.refl _ _|with_reducible apply zlN|with_reducible apply zlA|refine below_step ?_ (Aside0.out (by assumption))))) (by rw [hpl.out];decide) hpl.out) (by decide)) (by simp) F2.out).mono ?_
 rintro e w1 ⟨vb,rfl,ho,hb⟩
 obtain ⟨Ab,cbb,rfl⟩:=Kd.R_slice ho
 have hh_:=zm ho;clear ho;have ho:=hh_;clear hh_;have hh_:=zm hb;clear hb;have hb:=hh_;clear hh_
 refine ⟨_,rfl,?_⟩
 refine hK.out _ _ (by repeat (first|exact Below.refl _ _|with_reducible apply zlN|with_reducible apply zlA|refine below_step ?_ (Aside0.out (by assumption)))) (fun _=>?_)
 clear hK K
 refine znm (some 57) ?_
 refine Cw.done1 (i:=6) (N:=some 58) (by simp only [List.getElem?_toArray,List.getElem?_cons_succ,List.getElem?_cons_zero];rfl) rfl (by as_aux_lemma=>kernel_rfl) (fun K hK=>?_)
 refine goes_ Try.func31 (by as_aux_lemma=>kernel_rfl) rfl _ (by rfl) rfl rfl (by go_simp;rfl) ?_
 refine (seal_Seal.calls k (fun _=>True) Ab cbb b sb se _ (Kd.R_V ho.out) F3.out).mono ?_
 rintro e w1 ⟨vs,rfl,hos,hb⟩
 obtain ⟨As,cs,rfl⟩:=Kd.R_slice hos
 have hrs:=zm (Kd.R_reads' hos).2.2
 have hcs:=zm (Kd.R_reads' hos).2.1
 clear hos ho
 have hh_:=zm hb;clear hb;have hb:=hh_;clear hh_
 refine ⟨_,rfl,?_⟩
 refine hK.out _ _ (by repeat (first|exact Below.refl _ _|with_reducible apply zlN|with_reducible apply zlA|refine below_step ?_ (Aside0.out (by assumption)))) (fun _=>?_)
 clear hK K
 refine znm (some 58) ?_
 refine zpu 7 ?_
 refine zpu 8 ?_
 refine zpu 9 ?_
 refine zpu 10 ?_
 refine zpu 11 ?_
 refine zdo ?_
 replace H:=H.out
 by_cases hz:se=0
 rotate_left
 ·rw [if_neg hz] at H
  simp only [Option.some.injEq,Prod.mk.injEq] at H
  obtain ⟨rfl,rfl⟩:=H
  have hz0:(se != 0)=true:=bne_iff_ne.mpr hz
  clear hz
  go_wp2_with (first|((with_reducible refine gate_ (.build 29 #[]) rfl ?_);refine Kd.event_run rfl (pg_build rfl) ?_)|((with_reducible refine gate_ (.store 29 (.tmp 4) _) rfl ?_);refine pg_put (g:=g4) (q:=pz) rfl rfl (pg_store rfl rfl rfl (zbB (Aside0.out (by assumption)) (by repeat (first|exact Below.refl _ _|with_reducible apply zlN|with_reducible apply zlA|refine below_step ?_ (Aside0.out (by assumption))))) pz_len pz_len) (zbB (Aside0.out (by assumption)) (by repeat (first|exact Below.refl _ _|with_reducible apply zlN|with_reducible apply zlA|refine below_step ?_ (Aside0.out (by assumption))))) ?_;rintro w2 hq hfar hbel;have hb2:Aside0 (Below w.heap.size w w2):=⟨hbel _ _ (by repeat (first|exact Below.refl _ _|with_reducible apply zlN|with_reducible apply zlA|refine below_step ?_ (Aside0.out (by assumption)))) hge4.out⟩;clear hfar hbel;have hh_:=zm hq;clear hq;have hq:=hh_;clear hh_))
  refine bodyPost_ret (results_ct rfl _ _ g4 29 (pc pz) (0,0) _ rfl hq.out Try.underlying29 rfl (pg_size pz_len)) rfl ?_
  exact ⟨rfl,hb2.out⟩
 subst hz
 rw [if_pos rfl] at H
 have hg_:=Cw.gt_ H;clear H;obtain ⟨h4,H⟩:=hg_;have hg_:=Cw.gt_ H;clear H;obtain ⟨hmx,H⟩:=hg_
 simp only [Option.some.injEq,Prod.mk.injEq] at H
 obtain ⟨rfl,rfl⟩:=H
 have hlo:=zm (lo4 h4 hmx)
 have hh_:=zm h4;clear h4;have h4:=hh_;clear hh_;have hh_:=zm hmx;clear hmx;have hmx:=hh_;clear hh_
 go_wp2_with fail
 refine Cw.dstartD [7] (by as_aux_lemma=>kernel_rfl) rfl (fun we hb=>?_)
 have hh_:=zm hb;clear hb;have hb:=hh_;clear hh_
 refine zpu 0 ?_
 refine zpu 1 ?_
 refine zpu 2 ?_
 refine zpu 3 ?_
 refine zpu 4 ?_
 refine zpu 5 ?_
 refine Cw.dpu (i:=6) (v:=?_) (a':=?_) (by simp only [List.getElem?_toArray,List.getElem?_cons_succ,List.getElem?_cons_zero];rfl) rfl (by as_aux_lemma=>kernel_rfl) (by rfl) (by exact fun _ _ _ h=>h) ?_ ?_ ?_
 rotate_left
 ·intro w'
  apply Eq.trans
  ·apply pg_tail (m:=sb.length - 4)
   ·rfl
   ·rfl
   ·rfl
   ·exact hlo.out
   ·omega
   ·exact hcs.out
  ·rfl
 rotate_left
 ·simp only [Act.put,List.setIfInBounds_toArray,List.set_cons_zero,List.set_cons_succ,i64_w,i32_w]
  rfl
 refine Cw.lastD (i:=7) (N:=some 72) (by simp only [List.getElem?_toArray,List.getElem?_cons_succ,List.getElem?_cons_zero];rfl) rfl (by as_aux_lemma=>kernel_rfl) (by decide) (fun K hK=>?_)
 refine pg_putd (g:=g9) (by rfl) rfl (pg_copy (p:=pg_of l1 hd) (ys:=sb.drop (sb.length - 4)) rfl rfl rfl (pg_Ctail rfl (Kd.C_below (Aside0.out (by assumption)) (by repeat (first|exact Below.refl _ _|with_reducible apply zlN|with_reducible apply zlA|refine below_step ?_ (Aside0.out (by assumption))))) (by omega) hcs.out) (zbB (Aside0.out (by assumption)) (by repeat (first|exact Below.refl _ _|with_reducible apply zlN|with_reducible apply zlA|refine below_step ?_ (Aside0.out (by assumption))))) (by rw [hpl.out,List.length_drop];have:=h4.out;omega)) (zbB (Aside0.out (by assumption)) (by repeat (first|exact Below.refl _ _|with_reducible apply zlN|with_reducible apply zlA|refine below_step ?_ (Aside0.out (by assumption))))) ?_
 rintro w2 hq hfar hbel
 have hb2:Aside0 (Below wa.heap.size wa w2):=⟨hbel _ _ (by repeat (first|exact Below.refl _ _|with_reducible apply zlN|with_reducible apply zlA|refine below_step ?_ (Aside0.out (by assumption)))) hge9.out⟩
 clear hfar hbel
 have hh_:=zm hq;clear hq;have hq:=hh_;clear hh_
 refine hK.out _ _ ?_
 clear hK K
 refine znm (some 72) ?_
 refine zdo ?_
 go_wp2_with (first|((with_reducible refine gate_ (.load 29 _) rfl ?_);refine Kd.event_run rfl (pg_load rfl rfl hq.out (p4_len l1 hd sb h4.out)) ?_)|((with_reducible refine gate_ (.store 29 _ _) rfl ?_);refine pg_put (g:=g4) (q:=splice (pg_of l1 hd) 284 ((sb.drop (sb.length - 4)).take 4)) rfl rfl (pg_store rfl rfl rfl (zbB (Aside0.out (by assumption)) (by repeat (first|exact Below.refl _ _|with_reducible apply zlN|with_reducible apply zlA|refine below_step ?_ (Aside0.out (by assumption))))) pz_len (p4_len l1 hd sb h4.out)) (zbB (Aside0.out (by assumption)) (by repeat (first|exact Below.refl _ _|with_reducible apply zlN|with_reducible apply zlA|refine below_step ?_ (Aside0.out (by assumption))))) ?_;rintro w3 hq3 hfar hbel;have hb3:Aside0 (Below w.heap.size w w3):=⟨hbel _ _ (by repeat (first|exact Below.refl _ _|with_reducible apply zlN|with_reducible apply zlA|refine below_step ?_ (Aside0.out (by assumption)))) hge4.out⟩;clear hfar hbel;have hh_:=zm hq3;clear hq3;have hq3:=hh_;clear hh_))
 all_goals
  refine bodyPost_ret (results_ct rfl _ _ g4 29 (pc (splice (pg_of l1 hd) 284 ((sb.drop (sb.length - 4)).take 4))) (0,0) _ rfl hq3.out Try.underlying29 rfl (pg_size (p4_len l1 hd sb h4.out))) rfl ?_
  exact ⟨rfl,hb3.out⟩
end Go.Proofs.Ytdohpjjggjehfaa.Print
end
section
namespace Go.Proofs.Ytdohpjjggjehfaa.Print
open Go.RowKit Go.Proofs.YtdohpjjggjehfaaW.PrintWords Go.Proofs.YtdohpjjggjehfaaW.PrintLast Go.Proofs.YtdohpjjggjehfaaW.PrintMore
attribute [local go_sem] max2_int min2_int max_two min_two max_three min_three max_four min_four   -- for this text's walks alone
attribute [local go_sem ↓] Go.Proofs.Ytdohpjjggjehfaa.Sem.isSome_setCell
attribute [local go_sem] Go.Instr.field Go.asAgg
set_option linter.unusedVariables false
set_option linter.unusedSimpArgs false
def bytes_Equal.f (l0:List Int) (l1:List Int):Option (Bool):=some ((strOfNums l0).toList == (strOfNums l1).toList)
set_option maxHeartbeats 8000000 in
set_option maxRecDepth 100000 in
theorem bytes_Equal.calls (A0:Option Addr) (c0:Nat) (l0:List Int) (A1:Option Addr) (c1:Nat) (l1:List Int) (r:Bool) (w:World) (hr0:Kd.C (Kd.int .u8) w A0 l0.length l0) (hc0:l0.length≤c0) (hr1:Kd.C (Kd.int .u8) w A1 l1.length l1) (hc1:l1.length≤c1) (h:bytes_Equal.f l0 l1=some r) :
  Calls Try.prog 16 #[.slice A0 l0.length c0,.slice A1 l1.length c1] w fun e w'=>e=.returned (.bool r)∧Drawn0 w w':=by
 have HR0:=zm hr0
 have HC0:=zm hc0
 clear hr0 hc0
 have HR1:=zm hr1
 have HC1:=zm hc1
 clear hr1 hc1
 have H:(some ((strOfNums l0).toList == (strOfNums l1).toList))=some r:=h
 clear h
 obtain rfl:=Option.some.inj H
 have hcv3:=Kd.C_string (P:=Try.prog) (A:=A0) (c:=c0) Try.underlying24 Try.underlying5 Try.underlying9 HR0.out
 have hcv4:=Kd.C_string (P:=Try.prog) (A:=A1) (c:=c1) Try.underlying24 Try.underlying5 Try.underlying9 HR1.out
 go_enter Try.func16,Try.ntmps16
 go_wp2
 go_ret
 exact ⟨by first|rfl|(simp;done)|(simp [*];done),by repeat (first|exact Drawn0.refl _|apply Drawn0.step)⟩
def slices_Equal_byte_byte.l0:Nat → List Int → List Int → Int → Int → Option (Bool)
 | 0,_,_,_,_=>none
 | k + 1,x0,x1,x12,x13=>if x13 < x12 then (if 0≤x13 then (if x13 < (x0.length:Int) then (if x13 < (x1.length:Int) then (if (rd x0 x13)=(rd x1 x13) then (slices_Equal_byte_byte.l0 k x0 x1 x12 (wrap64 (x13 + 1))) else (some false)) else (none)) else (none)) else (none)) else (some true)
def slices_Equal_byte_byte.f (k:Nat) (l0:List Int) (l1:List Int):Option (Bool):=if (l0.length:Int)=(l1.length:Int) then (slices_Equal_byte_byte.l0 k l0 l1 (l0.length:Int) 0) else (some false)
set_option maxHeartbeats 8000000 in
set_option maxRecDepth 100000 in
theorem slices_Equal_byte_byte.calls (k:Nat) (A0:Option Addr) (c0:Nat) (l0:List Int) (A1:Option Addr) (c1:Nat) (l1:List Int) (r:Bool) (w:World) (hr0:Kd.C (Kd.int .u8) w A0 l0.length l0) (hc0:l0.length≤c0) (hr1:Kd.C (Kd.int .u8) w A1 l1.length l1) (hc1:l1.length≤c1) (h:slices_Equal_byte_byte.f k l0 l1=some r) :
  Calls Try.prog 57 #[.slice A0 l0.length c0,.slice A1 l1.length c1] w fun e w'=>e=.returned (.bool r)∧Drawn0 w w':=by
 have HR0:=zm hr0
 have HC0:=zm hc0
 clear hr0 hc0
 have HR1:=zm hr1
 have HC1:=zm hc1
 clear hr1 hc1
 have H:(if (l0.length:Int)=(l1.length:Int) then (slices_Equal_byte_byte.l0 k l0 l1 (l0.length:Int) 0) else (some false))=some r:=h
 clear h
 by_cases c3:(l0.length:Int)=(l1.length:Int)
 ·rw [if_pos c3] at H
  have c3b0:((l0.length:Int) == (l1.length:Int))=true:=beq_iff_eq.mpr c3
  have c3b1:((l0.length:Int) != (l1.length:Int))=false:=bne_eq_false_iff_eq.mpr c3
  have c3b2:(l0.length == l1.length)=true:=by first|simpa using c3|(simp at c3 ⊢;omega)
  clear c3
  have H':=zm H
  clear H
  go_enter Try.func57,Try.ntmps57
  go_wp2
  repeat (go_quiet (fail);try go_wp2)
  go_loopg [13] k (fun kq v13 w'=>∃ (x13_1:Int),v13=.int .i64 x13_1∧Aside0 (slices_Equal_byte_byte.l0 kq l0 l1 (l0.length:Int) x13_1=some r)∧Aside0 (kq≤k)∧Drawn0 w w')
  case atStart=>exact ⟨(0),zs_,H',⟨Nat.le_refl _⟩,by repeat (first|exact Drawn0.refl _|apply Drawn0.step)⟩
  case round =>
   clear H'
   try clear c1
   try clear p2
   try clear c3
   try clear c3b0
   try clear c3b1
   try clear c3b2
   obtain ⟨x13_1,rfl,HA,HK1,⟨m1,rfl⟩⟩:=hrel
   cases gk with
   | zero=>exact absurd HA.out (by simp [slices_Equal_byte_byte.l0])
   | succ k1 =>
    have H:=HA.out
    clear HA
    simp only [slices_Equal_byte_byte.l0] at H
    by_cases c4:x13_1 < (l0.length:Int)
    ·rw [if_pos c4] at H
     have c4b0:decide (x13_1 < (l0.length:Int))=true:=decide_eq_true c4
     clear c4
     by_cases c5:0≤x13_1
     ·rw [if_pos c5] at H
      have c5b0:decide (0≤x13_1)=true:=decide_eq_true c5
      clear c5
      by_cases c6:x13_1 < (l0.length:Int)
      ·rw [if_pos c6] at H
       have c6b0:decide (x13_1 < (l0.length:Int))=true:=decide_eq_true c6
       clear c6
       by_cases c7:x13_1 < (l1.length:Int)
       ·rw [if_pos c7] at H
        have c7b0:decide (x13_1 < (l1.length:Int))=true:=decide_eq_true c7
        clear c7
        by_cases c8:(rd l0 x13_1)=(rd l1 x13_1)
        ·rw [if_pos c8] at H
         have c8b0:((rd l0 x13_1) == (rd l1 x13_1))=true:=beq_iff_eq.mpr c8
         have c8b1:((rd l0 x13_1) != (rd l1 x13_1))=false:=bne_eq_false_iff_eq.mpr c8
         clear c8
         have H':=zm H
         clear H
         have p147:0≤(x13_1:Int):=za_
         have q147:x13_1 < (l0.length:Int):=za_
         obtain ⟨ad147,e147,hx147_0⟩:=Kd.at_int HR0.out x13_1 p147 q147
         cases e147
         replace p147:=eq_true p147
         replace q147:=eq_true q147
         have p148:0≤(x13_1:Int):=za_
         have q148:x13_1 < (l1.length:Int):=za_
         obtain ⟨ad148,e148,hx148_0⟩:=Kd.at_int HR1.out x13_1 p148 q148
         cases e148
         replace p148:=eq_true p148
         replace q148:=eq_true q148
         go_wp2
         repeat (go_quiet (fail);try go_wp2)
         go_roundg k1
         case measure=>have:=HK1.out;omega
         case rel=>exact ⟨(wrap64 (x13_1 + 1)),zs_,H',⟨by have:=HK1.out;omega⟩,by repeat (first|exact Drawn0.refl _|apply Drawn0.step)⟩
        ·rw [if_neg c8] at H
         have c8b0:((rd l0 x13_1) == (rd l1 x13_1))=false:=beq_eq_false_iff_ne.mpr c8
         have c8b1:((rd l0 x13_1) != (rd l1 x13_1))=true:=bne_iff_ne.mpr c8
         obtain rfl:=Option.some.inj H
         have p147:0≤(x13_1:Int):=za_
         have q147:x13_1 < (l0.length:Int):=za_
         obtain ⟨ad147,e147,hx147_0⟩:=Kd.at_int HR0.out x13_1 p147 q147
         cases e147
         replace p147:=eq_true p147
         replace q147:=eq_true q147
         have p148:0≤(x13_1:Int):=za_
         have q148:x13_1 < (l1.length:Int):=za_
         obtain ⟨ad148,e148,hx148_0⟩:=Kd.at_int HR1.out x13_1 p148 q148
         cases e148
         replace p148:=eq_true p148
         replace q148:=eq_true q148
         go_wp2
         repeat (go_quiet (fail);try go_wp2)
         go_ret
         exact ⟨by first|rfl|(simp;done)|(simp [*];done),by repeat (first|exact Drawn0.refl _|apply Drawn0.step)⟩
       ·rw [if_neg c7] at H
        exact absurd H (by simp)
      ·rw [if_neg c6] at H
       exact absurd H (by simp)
     ·rw [if_neg c5] at H
      exact absurd H (by simp)
    ·rw [if_neg c4] at H
     have c4b0:decide (x13_1 < (l0.length:Int))=false:=decide_eq_false c4
     clear c4
     obtain rfl:=Option.some.inj H
     go_wp2
     repeat (go_quiet (fail);try go_wp2)
     go_ret
     exact ⟨by first|rfl|(simp;done)|(simp [*];done),by repeat (first|exact Drawn0.refl _|apply Drawn0.step)⟩
 ·rw [if_neg c3] at H
  have c3b0:((l0.length:Int) == (l1.length:Int))=false:=beq_eq_false_iff_ne.mpr c3
  have c3b1:((l0.length:Int) != (l1.length:Int))=true:=bne_iff_ne.mpr c3
  have c3b2:(l0.length == l1.length)=false:=by first|simpa using c3|(simp at c3 ⊢;omega)
  obtain rfl:=Option.some.inj H
  go_enter Try.func57,Try.ntmps57
  go_wp2
  repeat (go_quiet (fail);try go_wp2)
  go_ret
  exact ⟨by first|rfl|(simp;done)|(simp [*];done),by repeat (first|exact Drawn0.refl _|apply Drawn0.step)⟩
end Go.Proofs.Ytdohpjjggjehfaa.Print
end
section
namespace Go.Proofs.Ytdohpjjggjehfaa.Print
open Go.RowKit Go.Proofs.YtdohpjjggjehfaaW.PrintWords Go.Proofs.YtdohpjjggjehfaaW.PrintLast Go.Proofs.YtdohpjjggjehfaaW.PrintMore
attribute [local go_sem] max2_int min2_int max_two min_two max_three min_three max_four min_four   -- for this text's walks alone
attribute [local go_sem ↓] Go.Proofs.Ytdohpjjggjehfaa.Sem.isSome_setCell
attribute [local go_sem] Go.Instr.field Go.asAgg
set_option linter.unusedVariables false
set_option linter.unusedSimpArgs false
def seal_State.j0:Nat → List Int → Int → Bool → Option (Int)
 | 0,_,_,_=>none
 | k + 1,x0,x3,x7=>if x7=true then (some 10) else (if x3 < 0 then (some 11) else (if x3 > 1048576 then (some 11) else (if 0≤x3 then (if x3≤(x0.length:Int) then ((seal_sum.f k (x0.take (x3:Int).toNat)).bind fun t152=>((slices_Equal_byte_byte.f k (x0.drop (x3:Int).toNat) t152).bind fun t155=>(if t155=true then (some 0) else (some 11)))) else (none)) else (none))))
def seal_State.f (k:Nat) (l0:List Int):Option (Int):=if (l0.length:Int) > 0 then ((seal_Zeros.f k l0).bind fun t149=>(seal_State.j0 k l0 (wrap64 ((l0.length:Int) - 4)) (t149 == 0))) else (seal_State.j0 k l0 (wrap64 ((l0.length:Int) - 4)) false)
def seal_State.T4:Bool × List (List Nat × List Nat):=(true,[([],[]),([0],[0]),([1],[1]),([2],[2]),([3,2],[2,3]),([2,4],[2,4]),([5,2],[5]),([6],[6]),([6],[6]),([7,8,6],[6,7,8]),([6],[6]),([6],[6]),([10,11,6],[6,10,11]),([12,6,6],[6,12]),([9,13,13,6],[6,9,13]),([14,6],[6,14]),([6,15],[6,15]),([16,14],[16])])
def seal_State.B4:List Nat:=[0,1,3,7,15,31,63,127,127,511,127,127,3199,7295,16383,32767,65535,131071]
theorem seal_State.tab4:rtab .any (opsOf Try.f36 4)=seal_State.T4:=by kernel_rfl
theorem seal_State.bits4:waitsOk seal_State.T4.2 seal_State.B4=true:=by kernel_rfl
set_option maxHeartbeats 8000000 in
set_option maxRecDepth 100000 in
theorem seal_State.calls (k:Nat) (A0:Option Addr) (c0:Nat) (l0:List Int) (r:Int) (w:World) (hr0:Kd.C (Kd.int .u8) w A0 l0.length l0) (hc0:l0.length≤c0) (h:seal_State.f k l0=some r) :
  Calls Try.prog 36 #[.slice A0 l0.length c0] w fun e w'=>e=.returned (.int .i64 r)∧Below w.heap.size w w':=by
 have HR0:=zm hr0
 have HC0:=zm hc0
 clear hr0 hc0
 have HB:=zm (Below.refl w.heap.size w)
 have H:(if (l0.length:Int) > 0 then ((seal_Zeros.f k l0).bind fun t149=>(seal_State.j0 k l0 (wrap64 ((l0.length:Int) - 4)) (t149 == 0))) else (seal_State.j0 k l0 (wrap64 ((l0.length:Int) - 4)) false))=some r:=h
 clear h
 have HC2:=zm H
 clear H
 go_enter Try.func36,Try.ntmps36
 go_upto_region 2 with (fail)
 go_cut [7] (fun v7 wc=>∃ (kq:Nat) (x7_1:Bool),v7=.bool x7_1∧Aside0 (seal_State.j0 kq l0 (wrap64 ((l0.length:Int) - 4)) x7_1=some r)∧Aside0 (kq≤k)∧Aside0 (Below w.heap.size w wc))
 case first =>
  have H:=HC2.out
  clear HC2
  by_cases c3:(l0.length:Int) > 0
  ·rw [if_pos c3] at H
   have c3b0:decide (0 < (l0.length:Int))=true:=decide_eq_true c3
   have c3b1:decide (0 < l0.length)=true:=decide_eq_true (by omega)
   clear c3
   (first|rw [c3b0]|(simp only [i64_w,i32_w];rw [c3b0])|skip)
   replace H:=Option.bind_eq_some_iff.mp H
   obtain ⟨t149,A40,H⟩:=H
   replace H:(seal_State.j0 k l0 (wrap64 ((l0.length:Int) - 4)) (t149 == 0))=some r:=H
   have A4:=zm A40
   clear A40
   have H':=zm H
   clear H
   go_wp2_with (first|(go_at_call 56;(with_reducible refine (seal_Zeros.calls k _ _ l0 t149 _ ?side1 ?side2 A4.out).mono ?_);(case side1=>exact zC HR0);(case side2=>exact HC0.out);rintro e w' ⟨rfl,⟨nd,rfl⟩⟩))
   go_meet
   case rel=>exact ⟨_,((t149 == 0)),zs_,H',⟨by first|omega|exact Nat.le_refl _⟩,⟨zb_⟩⟩
  ·rw [if_neg c3] at H
   have c3b0:decide (0 < (l0.length:Int))=false:=decide_eq_false c3
   have c3b1:decide (0 < l0.length)=false:=decide_eq_false (by omega)
   clear c3
   (first|rw [c3b0]|(simp only [i64_w,i32_w];rw [c3b0])|skip)
   have H':=zm H
   clear H
   go_wp2
   go_meet
   case rel=>exact ⟨_,(false),zs_,H',⟨by first|omega|exact Nat.le_refl _⟩,⟨zb_⟩⟩
 case rest =>
  clear HC2
  try clear p2
  try clear c3
  try clear c3b0
  try clear c3b1
  obtain ⟨kq,x7_1,rfl,HA,HJ1,HB⟩:=hcut
  cases kq with
  | zero=>exact absurd HA.out (by simp [seal_State.j0])
  | succ kj1 =>
   have H:=HA.out
   clear HA
   simp only [seal_State.j0] at H
   by_cases c5:x7_1=true
   ·subst c5
    have H1:(some 10)=some r:=by rw [if_pos rfl] at H;exact H
    clear H
    have H:=H1
    clear H1
    obtain rfl:=Option.some.inj H
    go_wp2
    go_ret
    exact ⟨ze_,zb_⟩
   ·replace c5:=Bool.eq_false_iff.mpr c5
    subst c5
    have H1:(if (wrap64 ((l0.length:Int) - 4)) < 0 then (some 11) else (if (wrap64 ((l0.length:Int) - 4)) > 1048576 then (some 11) else (if 0≤(wrap64 ((l0.length:Int) - 4)) then (if (wrap64 ((l0.length:Int) - 4))≤(l0.length:Int) then ((seal_sum.f kj1 (l0.take ((wrap64 ((l0.length:Int) - 4)):Int).toNat)).bind fun t152=>((slices_Equal_byte_byte.f kj1 (l0.drop ((wrap64 ((l0.length:Int) - 4)):Int).toNat) t152).bind fun t155=>(if t155=true then (some 0) else (some 11)))) else (none)) else (none))))=some r:=by rw [if_neg (show ¬ (false=true) by decide)] at H;exact H
    clear H
    have H:=H1
    clear H1
    by_cases c6:(wrap64 ((l0.length:Int) - 4)) < 0
    ·rw [if_pos c6] at H
     have c6b0:decide ((wrap64 ((l0.length:Int) - 4)) < 0)=true:=decide_eq_true c6
     clear c6
     obtain rfl:=Option.some.inj H
     try go_wp2
     have n0_:=zm (zlD HB.out)
     clear HB
     have HB:=n0_
     clear n0_
     refine start_ (n:=18) (S:=fun w'=>True) (ds:=[]) (Array.replicate 18 false) (by kernel_rfl) rfl rfl trivial (fun hHeld=>?_);refine with_tabW seal_State.tab4 seal_State.bits4 (fun HT_ HW_=>?_)
     generalize wc.drew=w7 at HB hHeld ⊢
     refine zpu 0 ?_
     refine zpu 1 ?_
     refine zpu 2 ?_
     refine zpn 3 ?_
     refine zpn 4 ?_
     refine zpu 5 ?_
     refine zpu 6 ?_
     refine zpn 7 ?_
     refine zpn 8 ?_
     refine zpn 9 ?_
     refine zpn 10 ?_
     refine zpn 11 ?_
     refine zpn 12 ?_
     refine zpn 13 ?_
     refine zpn 14 ?_
     refine zpn 15 ?_
     refine zpu 16 ?_
     refine zpu 17 ?_
     refine zdo ?_
     try go_wp2
     go_ret
     exact ⟨ze_,zb_⟩
    ·rw [if_neg c6] at H
     have c6b0:decide ((wrap64 ((l0.length:Int) - 4)) < 0)=false:=decide_eq_false c6
     clear c6
     by_cases c8:(wrap64 ((l0.length:Int) - 4)) > 1048576
     ·rw [if_pos c8] at H
      have c8b0:decide (1048576 < (wrap64 ((l0.length:Int) - 4)))=true:=decide_eq_true c8
      clear c8
      obtain rfl:=Option.some.inj H
      try go_wp2
      have n0_:=zm (zlD HB.out)
      clear HB
      have HB:=n0_
      clear n0_
      refine start_ (n:=18) (S:=fun w'=>True) (ds:=[]) (Array.replicate 18 false) (by kernel_rfl) rfl rfl trivial (fun hHeld=>?_);refine with_tabW seal_State.tab4 seal_State.bits4 (fun HT_ HW_=>?_)
      generalize wc.drew=w9 at HB hHeld ⊢
      refine zpu 0 ?_
      refine zpu 1 ?_
      refine zpu 2 ?_
      refine zpu 3 ?_
      refine zpu 4 ?_
      refine zpu 5 ?_
      refine zpu 6 ?_
      refine zpn 7 ?_
      refine zpn 8 ?_
      refine zpn 9 ?_
      refine zpn 10 ?_
      refine zpn 11 ?_
      refine zpn 12 ?_
      refine zpn 13 ?_
      refine zpn 14 ?_
      refine zpn 15 ?_
      refine zpu 16 ?_
      refine zpu 17 ?_
      refine zdo ?_
      try go_wp2
      go_ret
      exact ⟨ze_,zb_⟩
     ·rw [if_neg c8] at H
      have c8b0:decide (1048576 < (wrap64 ((l0.length:Int) - 4)))=false:=decide_eq_false c8
      clear c8
      obtain ⟨ji10,hji10⟩:∃ j_:Int,(wrap64 ((l0.length:Int) - 4))=j_:=⟨_,rfl⟩
      replace H:(if 0≤(ji10) then (if (ji10)≤(l0.length:Int) then ((seal_sum.f kj1 (l0.take ((ji10):Int).toNat)).bind fun t152=>((slices_Equal_byte_byte.f kj1 (l0.drop ((ji10):Int).toNat) t152).bind fun t155=>(if t155=true then (some 0) else (some 11)))) else (none)) else (none))=some r:=by first|(rw [hji10] at H;exact H)|(simp only [hji10] at H ⊢;exact H)
      (try rw [hji10] at c6b0)
      (try rw [hji10] at c8b0)
      have hji10w:(IntKind.i64.wrap ((l0.length:Int) - 4))=ji10:=(i64_w _).trans hji10
      by_cases c11:0≤(ji10)
      ·rw [if_pos c11] at H
       have c11b0:=eq_true c11
       have c11b1:decide (0≤(ji10))=true:=decide_eq_true c11
       clear c11
       by_cases c12:(ji10)≤(l0.length:Int)
       ·rw [if_pos c12] at H
        have c12b0:=eq_true c12
        have c12b1:decide ((ji10)≤(l0.length:Int))=true:=decide_eq_true c12
        clear c12
        have c13b0:=eq_true (za_:0≤(ji10))
        have c14b0:=eq_true (za_:(ji10)≤(l0.length:Int))
        replace H:=Option.bind_eq_some_iff.mp H
        obtain ⟨t152,A150,H⟩:=H
        replace H:((slices_Equal_byte_byte.f kj1 (l0.drop ((ji10):Int).toNat) t152).bind fun t155=>(if t155=true then (some 0) else (some 11)))=some r:=H
        have A15:=zm A150
        clear A150
        replace H:=Option.bind_eq_some_iff.mp H
        obtain ⟨t155,A160,H⟩:=H
        replace H:(if t155=true then (some 0) else (some 11))=some r:=H
        have A16:=zm A160
        clear A160
        by_cases c17:t155=true
        ·subst c17
         have H1:(some 0)=some r:=by rw [if_pos rfl] at H;exact H
         clear H
         have H:=H1
         clear H1
         obtain rfl:=Option.some.inj H
         try go_wp2
         have n0_:=zm (zlD HB.out)
         clear HB
         have HB:=n0_
         clear n0_
         obtain ⟨i019,hi019,_,hsz19,_⟩:=info_parts info5
         obtain ⟨A19,hcut19,hA19,hC19⟩:=print_drop_of (P:=Try.prog) (Value.int .u8) 0 24 5 .i64 Try.underlying24 hi019 hsz19 A0 c0 l0 (ji10) (za_) (za_) HC0.out
         have HR150:=zm (Kd.C_of_reads (h1:=fun _=>rfl) (hA19 _ (Kd.reads_of_C HR0.out)))
         have HC150:=zm hC19
         clear hA19 hC19 hi019 hsz19
         obtain ⟨i020,hi020,_,hsz20,_⟩:=info_parts info5
         obtain ⟨hcut20,hA20,hC20⟩:=print_take_of (P:=Try.prog) (Value.int .u8) 0 24 5 .i64 Try.underlying24 hi020 hsz20 A0 c0 l0 (ji10) (za_) (za_) HC0.out
         have HR151:=zm (Kd.C_of_reads (h1:=fun _=>rfl) (hA20 _ (Kd.reads_of_C HR0.out)))
         have HC151:=zm hC20
         clear hA20 hC20 hi020 hsz20
         refine start_ (n:=18) (S:=fun w'=>True) (ds:=[]) (Array.replicate 18 false) (by kernel_rfl) rfl rfl trivial (fun hHeld=>?_);refine with_tabW seal_State.tab4 seal_State.bits4 (fun HT_ HW_=>?_)
         generalize wc.drew=w18 at HB HR150 HR151 hHeld ⊢
         refine zpu 0 ?_
         refine zpu 1 ?_
         refine zpu 2 ?_
         refine zpu 3 ?_
         refine zpu 4 ?_
         refine zpu 5 ?_
         refine zpu 6 ?_
         refine zpu 7 ?_
         refine zpu 8 ?_
         refine zpu 9 ?_
         refine zpu 10 ?_
         refine zpu 11 ?_
         refine zpu 12 ?_
         refine zon 13 (some 30) (fun K hK=>?_)
         refine goes_ Try.func52 (by kernel_rfl) rfl #[.slice A0 (l0.take ((ji10):Int).toNat).length c0] (by rfl) rfl rfl (by (try simp only [List.map_toArray,List.map_cons,List.map_nil]);first|done|(rw [show (l0.take ((ji10):Int).toNat).length=(ji10).toNat from (by rw [List.length_take];have h_:((ji10):Int)≤(l0.length:Int):=za_;omega)] <;> rfl)|(simp only [hji10];rfl)|rfl|(simp only [List.length_drop,List.length_take];rfl)) ?_
         with_reducible refine (seal_sum.calls kj1 _ _ (l0.take ((ji10):Int).toNat) t152 _ ?side1 ?side2 A15.out).mono ?_
         (case side1=>exact zC HR151)
         (case side2=>exact HC151.out)
         rintro e w21 ⟨v153,rfl,ho0,hb⟩
         refine ⟨_,rfl,?_⟩
         have n0_:=zm (Kd.R_lower ho0 (below_size (zb_)))
         have n1_:=zkH HB hb
         clear HB
         have HO154:=n0_
         have HB:=n1_
         clear n0_ n1_
         (try clear hb)
         (try clear hb2)
         (try clear hk)
         (try clear hi)
         (try clear ho0)
         obtain ⟨Ao22,co22,eo22⟩:=Kd.R_slice HO154.out
         (first|subst eo22|(injection eo22 with f1_ f2_ f3_;have f4_:=f1_.symm;have f5_:=f3_.symm;clear f1_ f2_ f3_;subst f4_;subst f5_))
         refine hK.out _ _ trivial (fun hHeld=>?_)
         clear hK K
         refine znm (some 30) ?_
         refine zon 14 (some 31) (fun K hK=>?_)
         refine goes_ Try.func57 (by kernel_rfl) rfl #[.slice A19 (l0.drop ((ji10):Int).toNat).length (c0 - (ji10).toNat),.slice Ao22 t152.length co22] (by rfl) rfl rfl (by (try simp only [List.map_toArray,List.map_cons,List.map_nil]);first|done|(rw [show (l0.drop ((ji10):Int).toNat).length=(l0.length - (ji10).toNat) from List.length_drop] <;> rfl)|(simp only [hji10];rfl)|rfl|(simp only [List.length_drop,List.length_take];rfl)) ?_
         with_reducible refine (slices_Equal_byte_byte.calls kj1 _ _ (l0.drop ((ji10):Int).toNat) _ _ t152 true _ ?side1 ?side2 ?side3 ?side4 A16.out).mono ?_
         (case side1=>exact zC HR150)
         (case side2=>exact HC150.out)
         (case side3=>repeat (first|exact (Kd.R_reads' HO154.out).2.2|(with_reducible refine Kd.C_alloc ?_ _)|(with_reducible refine Kd.C_drewN ?_ _)|(with_reducible refine Kd.C_drew ?_)))
         (case side4=>exact (Kd.R_reads' HO154.out).2.1)
         rintro e w' ⟨rfl,⟨nd,rfl⟩⟩
         refine ⟨_,rfl,?_⟩
         refine hK.out _ _ trivial (fun hHeld=>?_)
         clear hK K
         refine znm (some 31) ?_
         refine zpu 15 ?_
         refine zpu 16 ?_
         refine zpu 17 ?_
         refine zdo ?_
         try go_wp2
         go_ret
         exact ⟨by first|rfl|(simp [errW_none,errW_some] <;> rfl)|(simp only [← hji10];first|rfl|(simp [errW_none,errW_some] <;> rfl))|(simp [*,errW_none,errW_some] <;> rfl),zb_⟩
        ·replace c17:=Bool.eq_false_iff.mpr c17
         subst c17
         have H1:(some 11)=some r:=by rw [if_neg (show ¬ (false=true) by decide)] at H;exact H
         clear H
         have H:=H1
         clear H1
         obtain rfl:=Option.some.inj H
         try go_wp2
         have n0_:=zm (zlD HB.out)
         clear HB
         have HB:=n0_
         clear n0_
         obtain ⟨i024,hi024,_,hsz24,_⟩:=info_parts info5
         obtain ⟨A24,hcut24,hA24,hC24⟩:=print_drop_of (P:=Try.prog) (Value.int .u8) 0 24 5 .i64 Try.underlying24 hi024 hsz24 A0 c0 l0 (ji10) (za_) (za_) HC0.out
         have HR150:=zm (Kd.C_of_reads (h1:=fun _=>rfl) (hA24 _ (Kd.reads_of_C HR0.out)))
         have HC150:=zm hC24
         clear hA24 hC24 hi024 hsz24
         obtain ⟨i025,hi025,_,hsz25,_⟩:=info_parts info5
         obtain ⟨hcut25,hA25,hC25⟩:=print_take_of (P:=Try.prog) (Value.int .u8) 0 24 5 .i64 Try.underlying24 hi025 hsz25 A0 c0 l0 (ji10) (za_) (za_) HC0.out
         have HR151:=zm (Kd.C_of_reads (h1:=fun _=>rfl) (hA25 _ (Kd.reads_of_C HR0.out)))
         have HC151:=zm hC25
         clear hA25 hC25 hi025 hsz25
         refine start_ (n:=18) (S:=fun w'=>True) (ds:=[]) (Array.replicate 18 false) (by kernel_rfl) rfl rfl trivial (fun hHeld=>?_);refine with_tabW seal_State.tab4 seal_State.bits4 (fun HT_ HW_=>?_)
         generalize wc.drew=w23 at HB HR150 HR151 hHeld ⊢
         refine zpu 0 ?_
         refine zpu 1 ?_
         refine zpu 2 ?_
         refine zpu 3 ?_
         refine zpu 4 ?_
         refine zpu 5 ?_
         refine zpu 6 ?_
         refine zpu 7 ?_
         refine zpu 8 ?_
         refine zpu 9 ?_
         refine zpu 10 ?_
         refine zpu 11 ?_
         refine zpu 12 ?_
         refine zon 13 (some 30) (fun K hK=>?_)
         refine goes_ Try.func52 (by kernel_rfl) rfl #[.slice A0 (l0.take ((ji10):Int).toNat).length c0] (by rfl) rfl rfl (by (try simp only [List.map_toArray,List.map_cons,List.map_nil]);first|done|(rw [show (l0.take ((ji10):Int).toNat).length=(ji10).toNat from (by rw [List.length_take];have h_:((ji10):Int)≤(l0.length:Int):=za_;omega)] <;> rfl)|(simp only [hji10];rfl)|rfl|(simp only [List.length_drop,List.length_take];rfl)) ?_
         with_reducible refine (seal_sum.calls kj1 _ _ (l0.take ((ji10):Int).toNat) t152 _ ?side1 ?side2 A15.out).mono ?_
         (case side1=>exact zC HR151)
         (case side2=>exact HC151.out)
         rintro e w26 ⟨v153,rfl,ho0,hb⟩
         refine ⟨_,rfl,?_⟩
         have n0_:=zm (Kd.R_lower ho0 (below_size (zb_)))
         have n1_:=zkH HB hb
         clear HB
         have HO154:=n0_
         have HB:=n1_
         clear n0_ n1_
         (try clear hb)
         (try clear hb2)
         (try clear hk)
         (try clear hi)
         (try clear ho0)
         obtain ⟨Ao27,co27,eo27⟩:=Kd.R_slice HO154.out
         (first|subst eo27|(injection eo27 with f1_ f2_ f3_;have f4_:=f1_.symm;have f5_:=f3_.symm;clear f1_ f2_ f3_;subst f4_;subst f5_))
         refine hK.out _ _ trivial (fun hHeld=>?_)
         clear hK K
         refine znm (some 30) ?_
         refine zon 14 (some 31) (fun K hK=>?_)
         refine goes_ Try.func57 (by kernel_rfl) rfl #[.slice A24 (l0.drop ((ji10):Int).toNat).length (c0 - (ji10).toNat),.slice Ao27 t152.length co27] (by rfl) rfl rfl (by (try simp only [List.map_toArray,List.map_cons,List.map_nil]);first|done|(rw [show (l0.drop ((ji10):Int).toNat).length=(l0.length - (ji10).toNat) from List.length_drop] <;> rfl)|(simp only [hji10];rfl)|rfl|(simp only [List.length_drop,List.length_take];rfl)) ?_
         with_reducible refine (slices_Equal_byte_byte.calls kj1 _ _ (l0.drop ((ji10):Int).toNat) _ _ t152 false _ ?side1 ?side2 ?side3 ?side4 A16.out).mono ?_
         (case side1=>exact zC HR150)
         (case side2=>exact HC150.out)
         (case side3=>repeat (first|exact (Kd.R_reads' HO154.out).2.2|(with_reducible refine Kd.C_alloc ?_ _)|(with_reducible refine Kd.C_drewN ?_ _)|(with_reducible refine Kd.C_drew ?_)))
         (case side4=>exact (Kd.R_reads' HO154.out).2.1)
         rintro e w' ⟨rfl,⟨nd,rfl⟩⟩
         refine ⟨_,rfl,?_⟩
         refine hK.out _ _ trivial (fun hHeld=>?_)
         clear hK K
         refine znm (some 31) ?_
         refine zpu 15 ?_
         refine zpu 16 ?_
         refine zpu 17 ?_
         refine zdo ?_
         try go_wp2
         go_ret
         exact ⟨by first|rfl|(simp [errW_none,errW_some] <;> rfl)|(simp only [← hji10];first|rfl|(simp [errW_none,errW_some] <;> rfl))|(simp [*,errW_none,errW_some] <;> rfl),zb_⟩
       ·rw [if_neg c12] at H
        exact absurd H (by simp)
      ·rw [if_neg c11] at H
       exact absurd H (by simp)
end Go.Proofs.Ytdohpjjggjehfaa.Print
end
section
namespace Go.Proofs.Ytdohpjjggjehfaa.Print
open Go.RowKit Go.Proofs.YtdohpjjggjehfaaW.PrintWords Go.Proofs.YtdohpjjggjehfaaW.PrintLast Go.Proofs.YtdohpjjggjehfaaW.PrintMore
attribute [local go_sem] max2_int min2_int max_two min_two max_three min_three max_four min_four   -- for this text's walks alone
attribute [local go_sem ↓] Go.Proofs.Ytdohpjjggjehfaa.Sem.isSome_setCell
attribute [local go_sem] Go.Instr.field Go.asAgg
set_option linter.unusedVariables false
set_option linter.unusedSimpArgs false
def seal_Unpack_1.f (a0:Int) (l1:List Int):Option (Int):=if 0≤(wrap64 (Int.tdiv a0 8)) then (if (wrap64 (Int.tdiv a0 8)) < (l1.length:Int) then (if 0≤(wrap64 (7 - (Int.tmod a0 8))) then (some (IntKind.u64.wrap (Go.bits .and .u8 (shr .u8 (rd l1 (wrap64 (Int.tdiv a0 8))) (wrap64 (7 - (Int.tmod a0 8)))) 1))) else (none)) else (none)) else (none)
set_option maxHeartbeats 8000000 in
set_option maxRecDepth 100000 in
theorem seal_Unpack_1.calls (g1:Nat) (a0:Int) (A1:Option Addr) (c1:Nat) (l1:List Int) (r:Int) (w:World) (hb1:w.heap[g1]?=some (.cells #[.slice A1 l1.length c1] 24 (0,0))) (hr1:Kd.C (Kd.int .u8) w A1 l1.length l1) (hc1:l1.length≤c1) (h:seal_Unpack_1.f a0 l1=some r) :
  Calls Try.prog 59 #[.int .i64 a0,.pointer (some ⟨g1,0,none⟩)] w fun e w'=>e=.returned (.int .u64 r)∧Drawn0 w w':=by
 have hcz1_0:w.cell? ⟨g1,0,none⟩=some (.slice A1 l1.length c1):=(blk_cell hb1 0).trans rfl
 clear hb1
 have HR1:=zm hr1
 have HC1:=zm hc1
 clear hr1 hc1
 have H:(if 0≤(wrap64 (Int.tdiv a0 8)) then (if (wrap64 (Int.tdiv a0 8)) < (l1.length:Int) then (if 0≤(wrap64 (7 - (Int.tmod a0 8))) then (some (IntKind.u64.wrap (Go.bits .and .u8 (shr .u8 (rd l1 (wrap64 (Int.tdiv a0 8))) (wrap64 (7 - (Int.tmod a0 8)))) 1))) else (none)) else (none)) else (none))=some r:=h
 clear h
 obtain ⟨ji3,hji3⟩:∃ j_:Int,(wrap64 (Int.tdiv a0 8))=j_:=⟨_,rfl⟩
 replace H:(if 0≤(ji3) then (if (ji3) < (l1.length:Int) then (if 0≤(wrap64 (7 - (Int.tmod a0 8))) then (some (IntKind.u64.wrap (Go.bits .and .u8 (shr .u8 (rd l1 (ji3)) (wrap64 (7 - (Int.tmod a0 8)))) 1))) else (none)) else (none)) else (none))=some r:=by first|(rw [hji3] at H;exact H)|(simp only [hji3] at H ⊢;exact H)
 have hji3w:(IntKind.i64.wrap (Int.tdiv a0 8))=ji3:=(i64_w _).trans hji3
 by_cases c4:0≤(ji3)
 ·rw [if_pos c4] at H
  have c4b0:decide (0≤(ji3))=true:=decide_eq_true c4
  clear c4
  by_cases c5:(ji3) < (l1.length:Int)
  ·rw [if_pos c5] at H
   have c5b0:decide ((ji3) < (l1.length:Int))=true:=decide_eq_true c5
   clear c5
   obtain ⟨ji6,hji6⟩:∃ j_:Int,(wrap64 (7 - (Int.tmod a0 8)))=j_:=⟨_,rfl⟩
   replace H:(if 0≤(ji6) then (some (IntKind.u64.wrap (Go.bits .and .u8 (shr .u8 (rd l1 (ji3)) (ji6)) 1))) else (none))=some r:=by first|(rw [hji6] at H;exact H)|(simp only [hji6] at H ⊢;exact H)
   have hji6w:(IntKind.i64.wrap (7 - (Int.tmod a0 8)))=ji6:=(i64_w _).trans hji6
   by_cases c7:0≤(ji6)
   ·rw [if_pos c7] at H
    have c7b0:=eq_true c7
    have c7b1:decide (0≤(ji6))=true:=decide_eq_true c7
    clear c7
    obtain ⟨ji8,hji8⟩:∃ j_:Int,(shr .u8 (rd l1 (ji3)) (ji6))=j_:=⟨_,rfl⟩
    replace H:(some (IntKind.u64.wrap (Go.bits .and .u8 (ji8) 1)))=some r:=by first|(rw [hji8] at H;exact H)|(simp only [hji8] at H ⊢;exact H)
    have hji8_:((rd l1 (ji3)) / 2 ^ min (ji6).toNat 8)=ji8:=hji8
    have hji8z:(ji6)≤8 → ((rd l1 (ji3)) / 2 ^ (ji6).toNat)=ji8:=shr_small hji8
    obtain rfl:=Option.some.inj H
    have p156:0≤((ji3):Int):=za_
    have q156:(ji3) < (l1.length:Int):=za_
    obtain ⟨ad156,e156,hx156_0⟩:=Kd.at_int HR1.out (ji3) p156 q156
    cases e156
    replace p156:=eq_true p156
    replace q156:=eq_true q156
    go_enter Try.func59,Try.ntmps59
    go_wp2
    go_ret
    exact ⟨by first|rfl|(simp;done)|(simp only [← hji3,← hji6,← hji8] <;> (first|rfl|simp))|(simp [*];done),by repeat (first|exact Drawn0.refl _|apply Drawn0.step)⟩
   ·rw [if_neg c7] at H
    exact absurd H (by simp)
  ·rw [if_neg c5] at H
   exact absurd H (by simp)
 ·rw [if_neg c4] at H
  exact absurd H (by simp)
end Go.Proofs.Ytdohpjjggjehfaa.Print
end
section
namespace Go.Proofs.Ytdohpjjggjehfaa.Print
open Go.RowKit Go.Proofs.YtdohpjjggjehfaaW.PrintWords Go.Proofs.YtdohpjjggjehfaaW.PrintLast Go.Proofs.YtdohpjjggjehfaaW.PrintMore
attribute [local go_sem] max2_int min2_int max_two min_two max_three min_three max_four min_four   -- for this text's walks alone
attribute [local go_sem ↓] Go.Proofs.Ytdohpjjggjehfaa.Sem.isSome_setCell
attribute [local go_sem] Go.Instr.field Go.asAgg
set_option linter.unusedVariables false
set_option linter.unusedSimpArgs false
mutual
def seal_Unpack.l0:Nat → List Int → Int → List Int → Option (List Int × Int)
 | 0,_,_,_=>none
 | k + 1,x0,x9,x158000=>if x9 < (wrap64 (8 * (x158000.length:Int))) then ((seal_Unpack_1.f x9 x158000).bind fun t160=>(if t160=0 then (seal_Unpack.l0 k x0 (wrap64 (x9 + 1)) x158000) else (some (([]:List Int),1)))) else (seal_Unpack.l1 k ([]:List Int) 0 x0 (x0.length:Int) 0 x158000)
def seal_Unpack.l1:Nat → List Int → Int → List Int → Int → Int → List Int → Option (List Int × Int)
 | 0,_,_,_,_,_,_=>none
 | k + 1,x10,x11,x42,x43,x44,x158000=>if x44 < x43 then (if 0≤x44 then (if x44 < (x42.length:Int) then (seal_Unpack.l2 k x10 x11 0 x42 x43 x44 (rd x42 x44) 0 x158000) else (none)) else (none)) else (some (x10,0))
def seal_Unpack.l2:Nat → List Int → Int → Int → List Int → Int → Int → Int → Int → List Int → Option (List Int × Int)
 | 0,_,_,_,_,_,_,_,_,_=>none
 | k + 1,x10,x11,x14,x42,x43,x44,x48,x49,x158000=>if x49 < x48 then ((seal_Unpack_1.f x11 x158000).bind fun t162=>(seal_Unpack.l2 k x10 (wrap64 (x11 + 1)) (Go.bits .or .u64 (IntKind.u64.wrap (x14 * 2)) t162) x42 x43 x44 x48 (wrap64 (x49 + 1)) x158000)) else (if x10.length < 17592186044416 then (seal_Unpack.l1 k (x10 ++ [x14]) x11 x42 x43 (wrap64 (x44 + 1)) x158000) else (none))
end
def seal_Unpack.f (k:Nat) (l0:List Int) (l1:List Int):Option (List Int × Int):=(seal_total.f k l0).bind fun bt158=>(if bt158.2=0 then (if (l1.length:Int)=(wrap64 (Int.tdiv (wrap64 (bt158.1 + 7)) 8)) then (seal_Unpack.l0 k l0 bt158.1 l1) else (some (([]:List Int),3))) else (some (([]:List Int),bt158.2)))
set_option maxHeartbeats 8000000 in
set_option maxRecDepth 100000 in
theorem seal_Unpack.calls (k:Nat) (A0:Option Addr) (c0:Nat) (l0:List Int) (A1:Option Addr) (c1:Nat) (l1:List Int) (r1:List Int) (r2:Int) (w:World) (hr0:Kd.C (Kd.int .i64) w A0 l0.length l0) (hc0:l0.length≤c0) (hr1:Kd.C (Kd.int .u8) w A1 l1.length l1) (hc1:l1.length≤c1) (h:seal_Unpack.f k l0 l1=some (r1,r2)) :
  Calls Try.prog 37 #[.slice A0 l0.length c0,.slice A1 l1.length c1] w fun e w'=>∃ v0_:Value,e=.returned (.tuple #[v0_,.int .i64 r2])∧Kd.R (Kd.int .u64) 58 w' w.heap.size (fun _=>True) v0_ r1∧Below w.heap.size w w':=by
 have HR0:=zm hr0
 have HC0:=zm hc0
 clear hr0 hc0
 have HR1:=zm hr1
 have HC1:=zm hc1
 clear hr1 hc1
 have HB:=zm (Below.refl w.heap.size w)
 have H:((seal_total.f k l0).bind fun bt158=>(if bt158.2=0 then (if (l1.length:Int)=(wrap64 (Int.tdiv (wrap64 (bt158.1 + 7)) 8)) then (seal_Unpack.l0 k l0 bt158.1 l1) else (some (([]:List Int),3))) else (some (([]:List Int),bt158.2))))=some (r1,r2):=h
 clear h
 replace H:=Option.bind_eq_some_iff.mp H
 obtain ⟨⟨t158,t159⟩,A30,H⟩:=H
 replace H:(if t159=0 then (if (l1.length:Int)=(wrap64 (Int.tdiv (wrap64 (t158 + 7)) 8)) then (seal_Unpack.l0 k l0 t158 l1) else (some (([]:List Int),3))) else (some (([]:List Int),t159)))=some (r1,r2):=H
 have A3:=zm A30
 clear A30
 by_cases c4:t159=0
 ·rw [if_pos c4] at H
  have c4b0:(t159 == 0)=true:=beq_iff_eq.mpr c4
  have c4b1:(t159 != 0)=false:=bne_eq_false_iff_eq.mpr c4
  clear c4
  by_cases c5:(l1.length:Int)=(wrap64 (Int.tdiv (wrap64 (t158 + 7)) 8))
  ·rw [if_pos c5] at H
   have c5b0:((l1.length:Int) == (wrap64 (Int.tdiv (wrap64 (t158 + 7)) 8)))=true:=beq_iff_eq.mpr c5
   have c5b1:((l1.length:Int) != (wrap64 (Int.tdiv (wrap64 (t158 + 7)) 8)))=false:=bne_eq_false_iff_eq.mpr c5
   clear c5
   have H':=zm H
   clear H
   go_enter Try.func37,Try.ntmps37
   go_wp2_with (first|((with_reducible refine gate_dst (N:=3) rfl ?_);refine zbx 3 #[.slice A1 l1.length c1] 24 ?_;intro gb157 hg w6 hbox hb;have n0_:=zkH HB hb;have n1_:=zm (hbox);have n2_:=zkG HB hg;have n3_:=zkG HB hg;clear HB;have HB:=n0_;have BK157:=n1_;have GW157:=n2_;have GE157:=n3_;clear n0_ n1_ n2_ n3_;clear hb hbox hg)|((with_reducible refine gate_callee (f:=58) rfl ?_);refine goesL_ (some 17) rfl rfl Try.func58 (by kernel_rfl) rfl #[.slice A0 l0.length c0] rfl (by (try simp only [List.map_toArray,List.map_cons,List.map_nil]);first|done|rfl|(simp only [List.length_drop,List.length_take];rfl)) ?_;(with_reducible refine (seal_total.calls k _ _ l0 t158 t159 _ ?side1 ?side2 A3.out).mono ?_);(case side1=>exact zC HR0);(case side2=>exact HC0.out);rintro e w' ⟨rfl,⟨nd,rfl⟩⟩;refine ⟨_,rfl,?_⟩;obtain ⟨hcz7_0,hfz7_0⟩:=zc1 BK157.out))
   go_loopg [9] k (fun kq v9 w'=>∃ (x9_1:Int),v9=.int .i64 x9_1∧Aside0 (seal_Unpack.l0 kq l0 x9_1 l1=some (r1,r2))∧Aside0 (kq≤k)∧Aside0 (w'.heap[gb157]?=some (.cells #[(.slice A1 l1.length c1)] 24 (0,0)))∧Aside0 (Below w.heap.size w w'))
   case atStart=>exact ⟨(t158),zs_,H',⟨Nat.le_refl _⟩,⟨zx_⟩,⟨zb_⟩⟩
   case round =>
    clear H'
    try clear c1
    try clear p2
    try clear c3
    try clear c4
    try clear c4b0
    try clear c4b1
    try clear c5
    try clear c5b0
    try clear c5b1
    try clear p6
    try clear hcz7_0
    try clear hfz7_0
    obtain ⟨x9_1,rfl,HA,HK1,BK157,HB⟩:=hrel
    cases gk with
    | zero=>exact absurd HA.out (by simp [seal_Unpack.l0])
    | succ k1 =>
     have H:=HA.out
     clear HA
     simp only [seal_Unpack.l0] at H
     by_cases c8:x9_1 < (wrap64 (8 * (l1.length:Int)))
     ·rw [if_pos c8] at H
      have c8b0:decide (x9_1 < (wrap64 (8 * (l1.length:Int))))=true:=decide_eq_true c8
      clear c8
      replace H:=Option.bind_eq_some_iff.mp H
      obtain ⟨t160,A90,H⟩:=H
      replace H:(if t160=0 then (seal_Unpack.l0 k1 l0 (wrap64 (x9_1 + 1)) l1) else (some (([]:List Int),1)))=some (r1,r2):=H
      have A9:=zm A90
      clear A90
      by_cases c10:t160=0
      ·rw [if_pos c10] at H
       have c10b0:(t160 == 0)=true:=beq_iff_eq.mpr c10
       have c10b1:(t160 != 0)=false:=bne_eq_false_iff_eq.mpr c10
       clear c10
       have H':=zm H
       clear H
       obtain ⟨hcz11_0,hfz11_0⟩:=zc1 BK157.out
       go_wp2_with (first|(go_at_call 59;(with_reducible refine (seal_Unpack_1.calls gb157 x9_1 _ _ l1 t160 _ zx_ ?side1 ?side2 A9.out).mono ?_);(case side1=>exact zC HR1);(case side2=>exact HC1.out);rintro e w' ⟨rfl,⟨nd,rfl⟩⟩))
       go_roundg k1
       case measure=>have:=HK1.out;omega
       case rel=>exact ⟨(wrap64 (x9_1 + 1)),zs_,H',⟨by have:=HK1.out;omega⟩,⟨zx_⟩,⟨zb_⟩⟩
      ·rw [if_neg c10] at H
       have c10b0:(t160 == 0)=false:=beq_eq_false_iff_ne.mpr c10
       have c10b1:(t160 != 0)=true:=bne_iff_ne.mpr c10
       simp only [Option.some.injEq,Prod.mk.injEq] at H
       obtain ⟨rfl,rfl⟩:=H
       obtain ⟨hcz12_0,hfz12_0⟩:=zc1 BK157.out
       go_wp2_with (first|(go_at_call 59;(with_reducible refine (seal_Unpack_1.calls gb157 x9_1 _ _ l1 t160 _ zx_ ?side1 ?side2 A9.out).mono ?_);(case side1=>exact zC HR1);(case side2=>exact HC1.out);rintro e w' ⟨rfl,⟨nd,rfl⟩⟩))
       go_ret2
       exact ⟨_,ze_,zr_,zb_⟩
     ·rw [if_neg c8] at H
      have c8b0:decide (x9_1 < (wrap64 (8 * (l1.length:Int))))=false:=decide_eq_false c8
      clear c8
      have H':=zm H
      clear H
      obtain ⟨hcz13_0,hfz13_0⟩:=zc1 BK157.out
      go_wp2
      go_loopg [10,11,44] k1 (fun kq v10 v11 v44 w'=>∃ (x10_2:List Int) (x11_2:Int) (x44_2:Int),v11=.int .i64 x11_2∧v44=.int .i64 x44_2∧Aside0 (seal_Unpack.l1 kq x10_2 x11_2 l0 (l0.length:Int) x44_2 l1=some (r1,r2))∧Aside0 (kq≤k1)∧Aside0 (Kd.R (Kd.int .u64) 58 w' w.heap.size (fun _=>True) v10 x10_2)∧Aside0 (w'.heap[gb157]?=some (.cells #[(.slice A1 l1.length c1)] 24 (0,0)))∧Aside0 (Below w.heap.size w w'))
      case atStart=>exact ⟨(([]:List Int)),(0),(0),zs_,zs_,H',⟨Nat.le_refl _⟩,⟨zr_⟩,⟨zx_⟩,⟨zb_⟩⟩
      case round =>
       clear H'
       try clear c1
       try clear p2
       try clear c3
       try clear c4
       try clear c4b0
       try clear c4b1
       try clear c5
       try clear c5b0
       try clear c5b1
       try clear p6
       try clear c8
       try clear c8b0
       try clear c10
       try clear c10b0
       try clear c10b1
       try clear hcz11_0
       try clear hcz12_0
       try clear hcz13_0
       try clear hcz7_0
       try clear hfz11_0
       try clear hfz12_0
       try clear hfz13_0
       try clear hfz7_0
       try clear p2
       try clear p6
       obtain ⟨x10_2,x11_2,x44_2,rfl,rfl,HA,HK2,HO_10,BK157,HB⟩:=hrel
       cases gk with
       | zero=>exact absurd HA.out (by simp [seal_Unpack.l1])
       | succ k2 =>
        have H:=HA.out
        clear HA
        simp only [seal_Unpack.l1] at H
        by_cases c14:x44_2 < (l0.length:Int)
        ·rw [if_pos c14] at H
         have c14b0:decide (x44_2 < (l0.length:Int))=true:=decide_eq_true c14
         clear c14
         by_cases c15:0≤x44_2
         ·rw [if_pos c15] at H
          have c15b0:decide (0≤x44_2)=true:=decide_eq_true c15
          clear c15
          by_cases c16:x44_2 < (l0.length:Int)
          ·rw [if_pos c16] at H
           have c16b0:decide (x44_2 < (l0.length:Int))=true:=decide_eq_true c16
           clear c16
           have H':=zm H
           clear H
           have p161:0≤(x44_2:Int):=za_
           have q161:x44_2 < (l0.length:Int):=za_
           obtain ⟨ad161,e161,hx161_0⟩:=Kd.at_int HR0.out x44_2 p161 q161
           cases e161
           replace hx161_0:=zhx HB hx161_0
           replace p161:=eq_true p161
           replace q161:=eq_true q161
           go_wp2
           go_loopg [11,14,49] k2 (fun kq v11 v14 v49 w'=>∃ (x11_3:Int) (x14_3:Int) (x49_3:Int),v11=.int .i64 x11_3∧v14=.int .u64 x14_3∧v49=.int .i64 x49_3∧Aside0 (seal_Unpack.l2 kq x10_2 x11_3 x14_3 l0 (l0.length:Int) x44_2 (rd l0 x44_2) x49_3 l1=some (r1,r2))∧Aside0 (kq≤k2)∧Aside0 (Kd.R (Kd.int .u64) 58 w' w.heap.size (fun _=>True) u10 x10_2)∧Aside0 (w'.heap[gb157]?=some (.cells #[(.slice A1 l1.length c1)] 24 (0,0)))∧Aside0 (Below w.heap.size w w'))
           case atStart=>exact ⟨(x11_2),(0),(0),zs_,zs_,zs_,H',⟨Nat.le_refl _⟩,⟨by (with_reducible repeat (first|apply zrA|apply zrN|apply zrD));exact HO_10.out⟩,⟨zx_⟩,⟨zb_⟩⟩
           case round =>
            clear H'
            try clear c1
            try clear p1
            try clear q1
            try clear hx1
            try clear p2
            try clear c3
            try clear c4
            try clear c4b0
            try clear c4b1
            try clear c5
            try clear c5b0
            try clear c5b1
            try clear p6
            try clear c8
            try clear c8b0
            try clear c10
            try clear c10b0
            try clear c10b1
            try clear c14
            try clear c14b0
            try clear c15
            try clear c15b0
            try clear c16
            try clear c16b0
            try clear p16
            try clear q16
            try clear hx16
            try clear hcz11_0
            try clear hcz12_0
            try clear hcz13_0
            try clear hcz7_0
            try clear hfz11_0
            try clear hfz12_0
            try clear hfz13_0
            try clear hfz7_0
            try clear hx161_0
            try clear p161
            try clear p2
            try clear p6
            try clear q161
            obtain ⟨x11_3,x14_3,x49_3,rfl,rfl,rfl,HA,HK3,HO_10,BK157,HB⟩:=hrel
            cases gk with
            | zero=>exact absurd HA.out (by simp [seal_Unpack.l2])
            | succ k3 =>
             have H:=HA.out
             clear HA
             simp only [seal_Unpack.l2] at H
             by_cases c17:x49_3 < (rd l0 x44_2)
             ·rw [if_pos c17] at H
              have c17b0:decide (x49_3 < (rd l0 x44_2))=true:=decide_eq_true c17
              clear c17
              replace H:=Option.bind_eq_some_iff.mp H
              obtain ⟨t162,A180,H⟩:=H
              replace H:(seal_Unpack.l2 k3 x10_2 (wrap64 (x11_3 + 1)) (Go.bits .or .u64 (IntKind.u64.wrap (x14_3 * 2)) t162) l0 (l0.length:Int) x44_2 (rd l0 x44_2) (wrap64 (x49_3 + 1)) l1)=some (r1,r2):=H
              have A18:=zm A180
              clear A180
              have H':=zm H
              clear H
              go_wp2_with (first|(go_at_call 59;(with_reducible refine (seal_Unpack_1.calls gb157 x11_3 _ _ l1 t162 _ zx_ ?side1 ?side2 A18.out).mono ?_);(case side1=>exact zC HR1);(case side2=>exact HC1.out);rintro e w' ⟨rfl,⟨nd,rfl⟩⟩))
              go_roundg k3
              case measure=>have:=HK1.out;have:=HK2.out;have:=HK3.out;omega
              case rel=>exact ⟨(wrap64 (x11_3 + 1)),(Go.bits .or .u64 (IntKind.u64.wrap (x14_3 * 2)) t162),(wrap64 (x49_3 + 1)),zs_,zs_,zs_,H',⟨by have:=HK1.out;have:=HK2.out;have:=HK3.out;omega⟩,⟨by (with_reducible repeat (first|apply zrA|apply zrN|apply zrD));exact HO_10.out⟩,⟨zx_⟩,⟨zb_⟩⟩
             ·rw [if_neg c17] at H
              have c17b0:decide (x49_3 < (rd l0 x44_2))=false:=decide_eq_false c17
              clear c17
              by_cases c19:x10_2.length < 17592186044416
              ·rw [if_pos c19] at H
               have LMc19:=zm c19
               clear c19
               obtain ⟨y163,hy163⟩:∃ y_:List Int,y_=(x10_2 ++ [x14_3]):=⟨_,rfl⟩
               replace H:(seal_Unpack.l1 k3 y163 x11_3 l0 (l0.length:Int) (wrap64 (x44_2 + 1)) l1)=some (r1,r2):=by first|(rw [hy163];with_reducible exact H)|(have H2_:=(Option.bind_some _ _).symm.trans H;rw [hy163];with_reducible exact H2_)|(have H2_:=(Option.bind_some _ _).symm.trans H;with_reducible exact H2_)|with_reducible exact H|(rw [hy163];exact H)|exact H
               have Ny163:=zm hy163
               clear hy163
               have H':=zm H
               clear H
               go_wp2_with (first|((with_reducible refine gate_builtin (b:=.append) (xs:=#[.tmp 60,.tmp 62]) rfl ?_);at_builtin;refine Kd.R_append (Kd.int .u64) (w0:=w) w.heap.size rfl (.tmp 60) (.tmp 62) 64 58 (.int .u64 0) 8 rfl Try.underlying64 info58 rfl (by decide) (by omega) u10 x10_2 x14_3 [.int .u64 x14_3] (fun _=>True) (fun _=>False) rfl rfl ?aP (fun _ hk=>hk.elim) ?aF ?aO ?aB ?aS ?aL ?_;(case aP=>exact rfl);(case aB=>exact (zb_));(case aF=>exact (fun _ _=>trivial));(case aO=>exact (by (with_reducible repeat (first|apply zrA|apply zrN|apply zrD));exact HO_10.out));(case aS=>exact (below_size (zb_)));(case aL=>have:=LMc19.out;omega);intro v164 w20 ho hb hg hat;rw [← Ny163.out] at ho;have n0_:=zm (blk_grown (g:=gb157) (o:=.cells #[.slice A1 l1.length c1] 24 (0,0)) zx_ hg (Kd.R_ne HO_10.out BK157.out (by decide)));have n1_:=zm (hb);have n2_:=zm (ho);clear BK157 HB HO_10;have BK157:=n0_;have HB:=n1_;have HO165:=n2_;clear n0_ n1_ n2_;clear ho hb hg hat))
               go_roundg k3
               case measure=>have:=HK1.out;have:=HK2.out;have:=HK3.out;omega
               case rel=>exact ⟨(y163),(x11_3),(wrap64 (x44_2 + 1)),zs_,zs_,H',⟨by have:=HK1.out;have:=HK2.out;have:=HK3.out;omega⟩,⟨by (with_reducible repeat (first|apply zrA|apply zrN|apply zrD));exact HO165.out⟩,⟨zx_⟩,⟨zb_⟩⟩
              ·rw [if_neg c19] at H
               exact absurd H (by simp)
          ·rw [if_neg c16] at H
           exact absurd H (by simp)
         ·rw [if_neg c15] at H
          exact absurd H (by simp)
        ·rw [if_neg c14] at H
         have c14b0:decide (x44_2 < (l0.length:Int))=false:=decide_eq_false c14
         clear c14
         simp only [Option.some.injEq,Prod.mk.injEq] at H
         obtain ⟨rfl,rfl⟩:=H
         go_wp2
         go_ret2
         exact ⟨_,ze_,by (with_reducible repeat (first|apply zrA|apply zrN|apply zrD));exact HO_10.out,zb_⟩
  ·rw [if_neg c5] at H
   have c5b0:((l1.length:Int) == (wrap64 (Int.tdiv (wrap64 (t158 + 7)) 8)))=false:=beq_eq_false_iff_ne.mpr c5
   have c5b1:((l1.length:Int) != (wrap64 (Int.tdiv (wrap64 (t158 + 7)) 8)))=true:=bne_iff_ne.mpr c5
   simp only [Option.some.injEq,Prod.mk.injEq] at H
   obtain ⟨rfl,rfl⟩:=H
   go_enter Try.func37,Try.ntmps37
   go_wp2_with (first|((with_reducible refine gate_dst (N:=3) rfl ?_);refine zbx 3 #[.slice A1 l1.length c1] 24 ?_;intro gb157 hg w21 hbox hb;have n0_:=zkH HB hb;have n1_:=zm (hbox);have n2_:=zkG HB hg;have n3_:=zkG HB hg;clear HB;have HB:=n0_;have BK157:=n1_;have GW157:=n2_;have GE157:=n3_;clear n0_ n1_ n2_ n3_;clear hb hbox hg)|((with_reducible refine gate_callee (f:=58) rfl ?_);refine goesL_ (some 17) rfl rfl Try.func58 (by kernel_rfl) rfl #[.slice A0 l0.length c0] rfl (by (try simp only [List.map_toArray,List.map_cons,List.map_nil]);first|done|rfl|(simp only [List.length_drop,List.length_take];rfl)) ?_;(with_reducible refine (seal_total.calls k _ _ l0 t158 t159 _ ?side1 ?side2 A3.out).mono ?_);(case side1=>exact zC HR0);(case side2=>exact HC0.out);rintro e w' ⟨rfl,⟨nd,rfl⟩⟩;refine ⟨_,rfl,?_⟩;obtain ⟨hcz22_0,hfz22_0⟩:=zc1 BK157.out))
   go_ret2
   exact ⟨_,ze_,zr_,zb_⟩
 ·rw [if_neg c4] at H
  have c4b0:(t159 == 0)=false:=beq_eq_false_iff_ne.mpr c4
  have c4b1:(t159 != 0)=true:=bne_iff_ne.mpr c4
  simp only [Option.some.injEq,Prod.mk.injEq] at H
  obtain ⟨rfl,rfl⟩:=H
  go_enter Try.func37,Try.ntmps37
  go_wp2_with (first|((with_reducible refine gate_dst (N:=3) rfl ?_);refine zbx 3 #[.slice A1 l1.length c1] 24 ?_;intro gb157 hg w23 hbox hb;have n0_:=zkH HB hb;have n1_:=zm (hbox);have n2_:=zkG HB hg;have n3_:=zkG HB hg;clear HB;have HB:=n0_;have BK157:=n1_;have GW157:=n2_;have GE157:=n3_;clear n0_ n1_ n2_ n3_;clear hb hbox hg)|((with_reducible refine gate_callee (f:=58) rfl ?_);refine goesL_ (some 17) rfl rfl Try.func58 (by kernel_rfl) rfl #[.slice A0 l0.length c0] rfl (by (try simp only [List.map_toArray,List.map_cons,List.map_nil]);first|done|rfl|(simp only [List.length_drop,List.length_take];rfl)) ?_;(with_reducible refine (seal_total.calls k _ _ l0 t158 t159 _ ?side1 ?side2 A3.out).mono ?_);(case side1=>exact zC HR0);(case side2=>exact HC0.out);rintro e w' ⟨rfl,⟨nd,rfl⟩⟩;refine ⟨_,rfl,?_⟩))
  go_ret2
  exact ⟨_,ze_,zr_,zb_⟩
end Go.Proofs.Ytdohpjjggjehfaa.Print
end
section
namespace Go.Proofs.Ytdohpjjggjehfaa.Print
open Go.RowKit Go.Proofs.YtdohpjjggjehfaaW.PrintWords Go.Proofs.YtdohpjjggjehfaaW.PrintLast Go.Proofs.YtdohpjjggjehfaaW.PrintMore
attribute [local go_sem] max2_int min2_int max_two min_two max_three min_three max_four min_four   -- for this text's walks alone
attribute [local go_sem ↓] Go.Proofs.Ytdohpjjggjehfaa.Sem.isSome_setCell
attribute [local go_sem] Go.Instr.field Go.asAgg
set_option linter.unusedVariables false
set_option linter.unusedSimpArgs false
def slices_Clone_byte_byte.f (l0:List Int):Option (List Int):=(some (([]:List Int):List Int)).bind fun y166=>(if y166.length + l0.length < 140737488355328 then (some (y166 ++ l0)) else (none))
set_option maxHeartbeats 8000000 in
set_option maxRecDepth 100000 in
theorem slices_Clone_byte_byte.calls_some (a0:Addr) (c0:Nat) (l0:List Int) (r:List Int) (w:World) (hr0:Kd.C (Kd.int .u8) w (some a0) l0.length l0) (hc0:l0.length≤c0) (h:slices_Clone_byte_byte.f l0=some r) :
  Calls Try.prog 40 #[.slice (some a0) l0.length c0] w fun e w'=>∃ v0_:Value,e=.returned (v0_)∧Kd.R (Kd.int .u8) 5 w' w.heap.size (fun _=>True) v0_ r∧Below w.heap.size w w':=by
 have HR0:=zm hr0
 have HC0:=zm hc0
 clear hr0 hc0
 have HB:=zm (Below.refl w.heap.size w)
 have H:((some (([]:List Int):List Int)).bind fun y166=>(if y166.length + l0.length < 140737488355328 then (some (y166 ++ l0)) else (none)))=some r:=h
 clear h
 obtain ⟨y166,hy166⟩:∃ y_:List Int,y_=(([]:List Int)):=⟨_,rfl⟩
 replace H:(if y166.length + l0.length < 140737488355328 then (some (y166 ++ l0)) else (none))=some r:=by first|(rw [hy166];with_reducible exact H)|(have H2_:=(Option.bind_some _ _).symm.trans H;rw [hy166];with_reducible exact H2_)|(have H2_:=(Option.bind_some _ _).symm.trans H;with_reducible exact H2_)|with_reducible exact H|(rw [hy166];exact H)|exact H
 have Ny166:=zm hy166
 clear hy166
 by_cases c2:y166.length + l0.length < 140737488355328
 ·rw [if_pos c2] at H
  have LMc2:=zm c2
  clear c2
  obtain ⟨y169,hy169⟩:∃ y_:List Int,y_=(y166 ++ l0):=⟨_,rfl⟩
  replace H:(some y169)=some r:=by first|(rw [hy169];with_reducible exact H)|(have H2_:=(Option.bind_some _ _).symm.trans H;rw [hy169];with_reducible exact H2_)|(have H2_:=(Option.bind_some _ _).symm.trans H;with_reducible exact H2_)|with_reducible exact H|(rw [hy169];exact H)|exact H
  have Ny169:=zm hy169
  clear hy169
  obtain rfl:=Option.some.inj H
  have hq_:=Lib.run_eql_slice_nil (P:=Try.prog) w 24 5 (some a0) l0.length c0 0 0 Try.underlying24
  go_enter Try.func40,Try.ntmps40
  go_wp2_with (first|((with_reducible refine gate_dst (N:=5) rfl ?_);refine Kd.R_lit (Kd.int .u8) _ 5 ?hg (N:=5) ?hd (xs:=([]:List Int)) (inner:=[]) (ok:=fun _=>True) (okp:=fun _=>True) ?hr ?hp (fun _ hk=>hk) trivial (Below.refl _ _) (Nat.le_refl _) (by simp) ?_;(case hd=>rfl);(case hg=>rfl);(case hr=>first|(go_simp;done)|(go_simp;rfl));(case hp=>exact (Reps.none _ _));intro v167 w3 ho4 hb hg_ hnew_;clear hg_ hnew_;(first|rw [← Ny166.out] at ho4|(simp only [Int.reduceToNat] at ho4;rw [← Ny166.out] at ho4));have n0_:=zm (Kd.R_lower ho4 (below_size (zb_)));have n1_:=zkH HB hb;clear HB;have HO168:=n0_;have HB:=n1_;clear n0_ n1_;clear hb ho4)|((with_reducible refine gate_builtin (b:=.append) (xs:=#[.tmp 5,.tmp 6]) rfl ?_);at_builtin;refine Kd.R_append_rows (Kd.int .u8) (w0:=w) w.heap.size rfl (.tmp 5) (.tmp 6) 24 5 (.int .u8 0) 1 rfl Try.underlying24 info5 rfl (by decide) (by omega) v167 y166 l0 _ _ _ (fun _=>True) (fun _=>False) rfl rfl ?aO ?aR (fun _ _ h=>h) (fun _ h=>h.elim) ?aF ?aB ?aS ?aL ?_;(case aR=>exact zC HR0);(case aB=>exact (zb_));(case aF=>exact (fun _ _=>trivial));(case aO=>exact (by (with_reducible repeat (first|apply zrA|apply zrN|apply zrD));exact HO168.out));(case aS=>exact (below_size (zb_)));(case aL=>have:=LMc2.out;omega);intro v170 w5 ho hb hg hat;rw [← Ny169.out] at ho;have n0_:=zm (hb);have n1_:=zm (ho);clear HB HO168;have HB:=n0_;have HO171:=n1_;clear n0_ n1_;clear ho hb hg hat))
  go_ret
  exact ⟨_,ze_,by (with_reducible repeat (first|apply zrA|apply zrN|apply zrD));exact HO171.out,zb_⟩
 ·rw [if_neg c2] at H
  exact absurd H (by simp)
theorem slices_Clone_byte_byte.calls (A0:Option Addr) (c0:Nat) (l0:List Int) (r:List Int) (w:World) (hr0:Kd.C (Kd.int .u8) w A0 l0.length l0) (hc0:l0.length≤c0) (h:slices_Clone_byte_byte.f l0=some r) :
  Calls Try.prog 40 #[.slice A0 l0.length c0] w fun e w'=>∃ v0_:Value,e=.returned (v0_)∧Kd.R (Kd.int .u8) 5 w' w.heap.size (fun _=>True) v0_ r∧Below w.heap.size w w':=by
 rcases A0 with _|a0
 ·have hl:l0=[]:=by
   rcases l0 with _|⟨x,l⟩
   ·rfl
   ·obtain ⟨ad,he,_⟩:=hr0.2.2 (by simp)
    cases he
  subst hl
  have hrr:r=[]:=by
   have h2:slices_Clone_byte_byte.f []=some []:=by first|decide|rfl|(simp [slices_Clone_byte_byte.f];done)
   rw [h2] at h
   exact (Option.some.inj h).symm
  subst hrr
  have HB:=zm (Below.refl w.heap.size w)
  clear h hr0 hc0
  have hq_:=Lib.run_eql_slice_nil (P:=Try.prog) w 24 5 none 0 c0 0 0 Try.underlying24
  go_enter Try.func40,Try.ntmps40
  go_wp2
  go_ret
  exact ⟨_,rfl,Kd.R_nil _ _ _ _ _,HB.out⟩
 ·exact slices_Clone_byte_byte.calls_some a0 c0 l0 r w hr0 hc0 h
def page_Decode_1.f (a0:Int):Option (Bool):=some (a0 != 0)
set_option maxHeartbeats 8000000 in
set_option maxRecDepth 100000 in
theorem page_Decode_1.calls (a0:Int) (r:Bool) (w:World) (h:page_Decode_1.f a0=some r) :
  Calls Try.prog 39 #[.int .u8 a0] w fun e w'=>e=.returned (.bool r)∧Drawn0 w w':=by
 have H:(some (a0 != 0))=some r:=h
 clear h
 obtain rfl:=Option.some.inj H
 go_enter Try.func39,Try.ntmps39
 go_wp2
 go_ret
 exact ⟨by first|rfl|(simp;done)|(simp [*];done),by repeat (first|exact Drawn0.refl _|apply Drawn0.step)⟩
def slices_IndexFunc_byte_byte_39.l0:Nat → List Int → Int → Int → Option (Int)
 | 0,_,_,_=>none
 | k + 1,x0,x7,x8=>if x8 < x7 then (if 0≤x8 then (if x8 < (x0.length:Int) then ((page_Decode_1.f (rd x0 x8)).bind fun t173=>(if t173=true then (some x8) else (slices_IndexFunc_byte_byte_39.l0 k x0 x7 (wrap64 (x8 + 1))))) else (none)) else (none)) else (some (-1))
def slices_IndexFunc_byte_byte_39.f (k:Nat) (l0:List Int) :Option (Int):=slices_IndexFunc_byte_byte_39.l0 k l0 (l0.length:Int) 0
set_option maxHeartbeats 8000000 in
set_option maxRecDepth 100000 in
theorem slices_IndexFunc_byte_byte_39.calls (k:Nat) (A0:Option Addr) (c0:Nat) (l0:List Int)  (r:Int) (w:World) (hr0:Kd.C (Kd.int .u8) w A0 l0.length l0) (hc0:l0.length≤c0) (h:slices_IndexFunc_byte_byte_39.f k l0=some r) :
  Calls Try.prog 60 #[.slice A0 l0.length c0,.func (.func 39) #[] #[]] w fun e w'=>e=.returned (.int .i64 r)∧Below w.heap.size w w':=by
 have HR0:=zm hr0
 have HC0:=zm hc0
 clear hr0 hc0
 have HB:=zm (Below.refl w.heap.size w)
 have H:(slices_IndexFunc_byte_byte_39.l0 k l0 (l0.length:Int) 0)=some r:=h
 clear h
 have H':=zm H
 clear H
 go_enter Try.func60,Try.ntmps60
 go_wp2
 go_loopg [8] k (fun kq v8 w'=>∃ (x8_1:Int),v8=.int .i64 x8_1∧Aside0 (slices_IndexFunc_byte_byte_39.l0 kq l0 (l0.length:Int) x8_1=some r)∧Aside0 (kq≤k)∧Aside0 (Below w.heap.size w w'))
 case atStart=>exact ⟨(0),zs_,H',⟨Nat.le_refl _⟩,⟨zb_⟩⟩
 case round =>
  clear H'
  try clear p2
  obtain ⟨x8_1,rfl,HA,HK1,HB⟩:=hrel
  cases gk with
  | zero=>exact absurd HA.out (by simp [slices_IndexFunc_byte_byte_39.l0])
  | succ k1 =>
   have H:=HA.out
   clear HA
   simp only [slices_IndexFunc_byte_byte_39.l0] at H
   by_cases c3:x8_1 < (l0.length:Int)
   ·rw [if_pos c3] at H
    have c3b0:decide (x8_1 < (l0.length:Int))=true:=decide_eq_true c3
    clear c3
    by_cases c4:0≤x8_1
    ·rw [if_pos c4] at H
     have c4b0:decide (0≤x8_1)=true:=decide_eq_true c4
     clear c4
     by_cases c5:x8_1 < (l0.length:Int)
     ·rw [if_pos c5] at H
      have c5b0:decide (x8_1 < (l0.length:Int))=true:=decide_eq_true c5
      clear c5
      replace H:=Option.bind_eq_some_iff.mp H
      obtain ⟨t173,A60,H⟩:=H
      replace H:(if t173=true then (some x8_1) else (slices_IndexFunc_byte_byte_39.l0 k1 l0 (l0.length:Int) (wrap64 (x8_1 + 1))))=some r:=H
      have A6:=zm A60
      clear A60
      by_cases c7:t173=true
      ·subst c7
       have H1:(some x8_1)=some r:=by rw [if_pos rfl] at H;exact H
       clear H
       have H:=H1
       clear H1
       obtain rfl:=Option.some.inj H
       have p172:0≤(x8_1:Int):=za_
       have q172:x8_1 < (l0.length:Int):=za_
       obtain ⟨ad172,e172,hx172_0⟩:=Kd.at_int HR0.out x8_1 p172 q172
       cases e172
       replace hx172_0:=zhx HB hx172_0
       replace p172:=eq_true p172
       replace q172:=eq_true q172
       go_wp2_with (first|(go_at_call 39;(with_reducible refine (page_Decode_1.calls  (rd l0 x8_1) true _ A6.out).mono ?_);rintro e w' ⟨rfl,⟨nd,rfl⟩⟩))
       go_ret
       exact ⟨ze_,zb_⟩
      ·replace c7:=Bool.eq_false_iff.mpr c7
       subst c7
       have H1:(slices_IndexFunc_byte_byte_39.l0 k1 l0 (l0.length:Int) (wrap64 (x8_1 + 1)))=some r:=by rw [if_neg (show ¬ (false=true) by decide)] at H;exact H
       clear H
       have H:=H1
       clear H1
       have H':=zm H
       clear H
       have p172:0≤(x8_1:Int):=za_
       have q172:x8_1 < (l0.length:Int):=za_
       obtain ⟨ad172,e172,hx172_0⟩:=Kd.at_int HR0.out x8_1 p172 q172
       cases e172
       replace hx172_0:=zhx HB hx172_0
       replace p172:=eq_true p172
       replace q172:=eq_true q172
       go_wp2_with (first|(go_at_call 39;(with_reducible refine (page_Decode_1.calls  (rd l0 x8_1) false _ A6.out).mono ?_);rintro e w' ⟨rfl,⟨nd,rfl⟩⟩))
       go_roundg k1
       case measure=>have:=HK1.out;omega
       case rel=>exact ⟨(wrap64 (x8_1 + 1)),zs_,H',⟨by have:=HK1.out;omega⟩,⟨zb_⟩⟩
     ·rw [if_neg c5] at H
      exact absurd H (by simp)
    ·rw [if_neg c4] at H
     exact absurd H (by simp)
   ·rw [if_neg c3] at H
    have c3b0:decide (x8_1 < (l0.length:Int))=false:=decide_eq_false c3
    clear c3
    obtain rfl:=Option.some.inj H
    go_wp2
    go_ret
    exact ⟨ze_,zb_⟩
def slices_ContainsFunc_byte_byte_39.f (k:Nat) (l0:List Int) :Option (Bool):=(slices_IndexFunc_byte_byte_39.f k l0).bind fun t174=>(some (decide (t174 ≥ 0)))
set_option maxHeartbeats 8000000 in
set_option maxRecDepth 100000 in
theorem slices_ContainsFunc_byte_byte_39.calls (k:Nat) (A0:Option Addr) (c0:Nat) (l0:List Int)  (r:Bool) (w:World) (hr0:Kd.C (Kd.int .u8) w A0 l0.length l0) (hc0:l0.length≤c0) (h:slices_ContainsFunc_byte_byte_39.f k l0=some r) :
  Calls Try.prog 38 #[.slice A0 l0.length c0,.func (.func 39) #[] #[]] w fun e w'=>e=.returned (.bool r)∧Below w.heap.size w w':=by
 have HR0:=zm hr0
 have HC0:=zm hc0
 clear hr0 hc0
 have HB:=zm (Below.refl w.heap.size w)
 have H:((slices_IndexFunc_byte_byte_39.f k l0).bind fun t174=>(some (decide (t174 ≥ 0))))=some r:=h
 clear h
 replace H:=Option.bind_eq_some_iff.mp H
 obtain ⟨t174,A30,H⟩:=H
 replace H:(some (decide (t174 ≥ 0)))=some r:=H
 have A3:=zm A30
 clear A30
 obtain rfl:=Option.some.inj H
 go_enter Try.func38,Try.ntmps38
 go_wp2_with (first|((with_reducible refine gate_callee (f:=60) rfl ?_);refine goesL_ (some 7) rfl rfl Try.func60 (by kernel_rfl) rfl #[.slice A0 l0.length c0,.func (.func 39) #[] #[]] rfl (by (try simp only [List.map_toArray,List.map_cons,List.map_nil]);first|done|rfl|(simp only [List.length_drop,List.length_take];rfl)) ?_;(with_reducible refine (slices_IndexFunc_byte_byte_39.calls k _ _ l0  t174 _ ?side1 ?side2 A3.out).mono ?_);(case side1=>repeat (first|exact HR0.out|(with_reducible refine Kd.C_alloc ?_ _)|(with_reducible refine Kd.C_drewN ?_ _)|(with_reducible refine Kd.C_drew ?_)));(case side2=>exact HC0.out);rintro e w4 ⟨rfl,hb⟩;refine ⟨_,rfl,?_⟩;have n0_:=zkH HB hb;clear HB;have HB:=n0_;clear n0_;(try clear hb);(try clear hb2);(try clear hk);(try clear hi)))
 go_ret
 exact ⟨ze_,zb_⟩
end Go.Proofs.Ytdohpjjggjehfaa.Print
end
section
namespace Go.Proofs.Ytdohpjjggjehfaa.Print
open Go.RowKit Go.Proofs.YtdohpjjggjehfaaW.PrintWords Go.Proofs.YtdohpjjggjehfaaW.PrintLast Go.Proofs.YtdohpjjggjehfaaW.PrintMore
attribute [local go_sem] max2_int min2_int max_two min_two max_three min_three max_four min_four   -- for this text's walks alone
attribute [local go_sem ↓] Go.Proofs.Ytdohpjjggjehfaa.Sem.isSome_setCell
attribute [local go_sem] Go.Instr.field Go.asAgg
set_option linter.unusedVariables false
set_option linter.unusedSimpArgs false
-- CX
-- PG
def page_Decode.f (k:Nat) (p:List Int):Option (Int × Int × Int × Int × List Int × Int) :=
 if p.length=288 then
 (slices_Concat_byte_byte.f k [(p.drop 0).take 256,(p.drop 256).take 32]).bind fun b =>
 (seal_State.f k b).bind fun e=>if e=0 then
 (seal_Unpack.f k [8,8,32,64,64] ((p.drop 256).take 22)).bind fun l=>if l.2=0 then if l.1.length=5 then
 if rd l.1 1=0 then if rd l.1 3 > 1152921504606846976 then some (0,0,0,0,[],30) else if rd l.1 4 > 1152921504606846976 then some (0,0,0,0,[],30) else
 (slices_ContainsFunc_byte_byte_39.f k ((p.drop 278).take 6)).bind fun t=>if t=true then some (0,0,0,0,[],30) else
 (page_Check.f k (wrap64 (rd l.1 0)) (wrap64 (rd l.1 2)) (wrap64 (rd l.1 3)) (wrap64 (rd l.1 4))).bind fun c=>if c=0 then
 (slices_Clone_byte_byte.f ((p.drop 0).take 256)).bind fun d=>some (wrap64 (rd l.1 0),wrap64 (rd l.1 2),wrap64 (rd l.1 3),wrap64 (rd l.1 4),d,0)
 else some (0,0,0,0,[],c)
 else some (0,0,0,0,[],30)
 else none else none
 else some (0,0,0,0,[],e)
 else none
theorem pg_contains (k:Nat) (A0:Option Addr) (c0 n0:Nat) (l0:List Int) (r:Bool) (w:World) (e0:l0.length=n0) (hr0:Kd.C (Kd.int .u8) w A0 n0 l0) (hc0:n0≤c0) (h:slices_ContainsFunc_byte_byte_39.f k l0=some r) :
  Calls Try.prog 38 #[.slice A0 n0 c0,.func (.func 39) #[] #[]] w fun e w'=>e=.returned (.bool r)∧Below w.heap.size w w':=by
 subst e0
 exact slices_ContainsFunc_byte_byte_39.calls k A0 c0 l0 r w hr0 hc0 h
theorem pg_clone (A0:Option Addr) (c0 n0:Nat) (l0:List Int) (r:List Int) (w:World) (e0:l0.length=n0) (hr0:Kd.C (Kd.int .u8) w A0 n0 l0) (hc0:n0≤c0) (h:slices_Clone_byte_byte.f l0=some r) :
  Calls Try.prog 40 #[.slice A0 n0 c0] w fun e w'=>∃ A c,e=.returned (.slice A r.length c)∧Kd.R (Kd.int .u8) 5 w' w.heap.size (fun _=>True) (.slice A r.length c) r∧Below w.heap.size w w':=by
 subst e0
 refine (slices_Clone_byte_byte.calls A0 c0 l0 r w hr0 hc0 h).mono ?_
 rintro e w' ⟨v,rfl,ho,hb⟩
 obtain ⟨A,c,rfl⟩:=Kd.R_slice ho
 exact ⟨A,c,rfl,ho,hb⟩
theorem pg_unpack (k:Nat) (A0:Option Addr) (c0:Nat) (l0:List Int) (A1:Option Addr) (c1 n1:Nat) (l1:List Int) (r1:List Int) (r2:Int) (w:World) (e1:l1.length=n1) (hr0:Kd.C (Kd.int .i64) w A0 l0.length l0) (hc0:l0.length≤c0) (hr1:Kd.C (Kd.int .u8) w A1 n1 l1) (hc1:n1≤c1) (h:seal_Unpack.f k l0 l1=some (r1,r2)) :
  Calls Try.prog 37 #[.slice A0 l0.length c0,.slice A1 n1 c1] w fun e w'=>∃ (A:Option Addr) (c:Nat),e=.returned (.tuple #[.slice A r1.length c,.int .i64 r2])∧r1.length≤c∧Kd.C (Kd.int .u64) w' A r1.length r1∧Below w.heap.size w w':=by
 subst e1
 refine (seal_Unpack.calls k A0 c0 l0 A1 c1 l1 r1 r2 w hr0 hc0 hr1 hc1 h).mono ?_
 rintro e w' ⟨v,rfl,ho,hb⟩
 obtain ⟨A,c,rfl,hl,hC⟩:=Kd.R_reads ho
 exact ⟨A,c,rfl,hl,hC,hb⟩
set_option maxHeartbeats 4000000 in
set_option maxRecDepth 100000 in
theorem page_Decode.calls (k:Nat) (p:List Int) (r1:Int) (r2:Int) (r3:Int) (r4:Int) (r5:List Int) (r6:Int) (w:World) (h:page_Decode.f k p=some (r1,r2,r3,r4,r5,r6)) :
  Calls Try.prog 14 #[.agg (pc p)] w fun e w'=>∃ v1_:Value,e=.returned (.tuple #[.agg #[.int .i64 r1,.int .i64 r2,.int .i64 r3,.int .i64 r4],v1_,.int .i64 r6])∧Kd.R (Kd.int .u8) 5 w' w.heap.size (fun _=>True) v1_ r5∧Below w.heap.size w w':=by
 have hu29:=Try.underlying29
 have hu23:=Try.underlying23
 have H:page_Decode.f k p=some (r1,r2,r3,r4,r5,r6):=h
 clear h
 unfold page_Decode.f at H
 have hg_:=Cw.gt_ H;clear H;obtain ⟨hp,H⟩:=hg_
 have hg_:=Option.bind_eq_some_iff.mp H;clear H;obtain ⟨b,F0,H⟩:=hg_;have hh_:=zm F0;clear F0;have F0:=hh_;clear hh_;(try dsimp only at H);have hg_:=Option.bind_eq_some_iff.mp H;clear H;obtain ⟨ec,F1,H⟩:=hg_;have hh_:=zm F1;clear F1;have F1:=hh_;clear hh_;(try dsimp only at H)
 have hh_:=zm hp;clear hp;have hp:=hh_;clear hh_;have hh_:=zm H;clear H;have H:=hh_;clear hh_
 go_enter Try.func14,Try.ntmps14
 go_wp2_with (first|((with_reducible refine gate_ (.box 29 _) rfl ?_);refine box_event rfl rfl (pg_box rfl rfl) ?_;rintro g1 hg w1 hbk hb;skip;clear hg;have hh_:=zm hbk;clear hbk;have hbk:=hh_;clear hh_;have hh_:=zm hb;clear hb;have hb:=hh_;clear hh_)|((with_reducible refine gate_ (.alloc 23) rfl ?_);refine box_event rfl rfl (pg_new23 rfl) ?_;rintro g2 hg w1 hbk hb;have hge2:Aside0 (w.heap.size≤g2):=⟨by rw [hg];exact below_size (by repeat (first|exact Below.refl _ _|with_reducible apply zlN|with_reducible apply zlA|refine below_step ?_ (Aside0.out (by assumption))))⟩;clear hg;have hh_:=zm hbk;clear hbk;have hbk:=hh_;clear hh_;have hh_:=zm hb;clear hb;have hb:=hh_;clear hh_))
 refine Cw.dstart (by as_aux_lemma=>kernel_rfl) rfl (fun wd hb=>?_)
 have hh_:=zm hb;clear hb;have hb:=hh_;clear hh_
 refine zpu 0 ?_
 refine zpu 1 ?_
 refine zpu 2 ?_
 refine zpu 3 ?_
 refine Cw.done1 (i:=4) (N:=some 14) (by simp only [List.getElem?_toArray,List.getElem?_cons_succ,List.getElem?_cons_zero];rfl) rfl (by as_aux_lemma=>kernel_rfl) (fun K hK=>?_)
 refine Cw.dnew (fun g=>.slice (some ⟨g,0,none⟩) 2 2) (by rfl) rfl (by apply pg_lit2 <;> rfl) ?_
 rintro gz hg w1 hbk hb
 clear hg
 have hh_:=zm hbk;clear hbk;have hbk:=hh_;clear hh_;have hh_:=zm hb;clear hb;have hb:=hh_;clear hh_
 refine hK.out _ _ (by repeat (first|exact Below.refl _ _|with_reducible apply zlN|with_reducible apply zlA|refine below_step ?_ (Aside0.out (by assumption)))) (fun _=>?_)
 clear hK K
 refine znm (some 14) ?_
 refine Cw.done1 (i:=5) (N:=some 15) (by simp only [List.getElem?_toArray,List.getElem?_cons_succ,List.getElem?_cons_zero];rfl) rfl (by as_aux_lemma=>kernel_rfl) (fun K hK=>?_)
 refine goes_ Try.func32 (by as_aux_lemma=>kernel_rfl) rfl _ (by rfl) rfl rfl (by go_simp;rfl) ?_
 refine (slices_Concat_byte_byte.calls k (some ⟨gz,0,none⟩) 2 [(p.drop 0).take 256,(p.drop 256).take 32] b _ (pg_two (n0:=256) (n1:=32) (by rw [List.length_take,List.length_drop,hp.out];rfl) (by rw [List.length_take,List.length_drop,hp.out];rfl) (zbB (Aside0.out (by assumption)) (by repeat (first|exact Below.refl _ _|with_reducible apply zlN|with_reducible apply zlA|refine below_step ?_ (Aside0.out (by assumption))))) (pg_C (zbB (Aside0.out (by assumption)) (by repeat (first|exact Below.refl _ _|with_reducible apply zlN|with_reducible apply zlA|refine below_step ?_ (Aside0.out (by assumption))))) (by rw [hp.out];decide) hp.out) (by decide) (pg_C (zbB (Aside0.out (by assumption)) (by repeat (first|exact Below.refl _ _|with_reducible apply zlN|with_reducible apply zlA|refine below_step ?_ (Aside0.out (by assumption))))) (by rw [hp.out];decide) hp.out) (by decide)) (by simp) F0.out).mono ?_
 rintro e w1 ⟨vb,rfl,ho,hb⟩
 obtain ⟨Ab,cbb,rfl⟩:=Kd.R_slice ho
 have hrb:=zm (Kd.R_reads' ho).2.2
 have hcb:=zm (Kd.R_reads' ho).2.1
 clear ho
 have hh_:=zm hb;clear hb;have hb:=hh_;clear hh_
 refine ⟨_,rfl,?_⟩
 refine hK.out _ _ (by repeat (first|exact Below.refl _ _|with_reducible apply zlN|with_reducible apply zlA|refine below_step ?_ (Aside0.out (by assumption)))) (fun _=>?_)
 clear hK K
 refine znm (some 15) ?_
 refine Cw.done1 (i:=6) (N:=some 16) (by simp only [List.getElem?_toArray,List.getElem?_cons_succ,List.getElem?_cons_zero];rfl) rfl (by as_aux_lemma=>kernel_rfl) (fun K hK=>?_)
 refine goes_ Try.func36 (by as_aux_lemma=>kernel_rfl) rfl _ (by rfl) rfl rfl (by go_simp;rfl) ?_
 refine (seal_State.calls k Ab cbb b ec _ (Kd.C_below (Aside0.out (by assumption)) (by repeat (first|exact Below.refl _ _|with_reducible apply zlN|with_reducible apply zlA|refine below_step ?_ (Aside0.out (by assumption))))) hcb.out F1.out).mono ?_
 rintro e w1 ⟨rfl,hb⟩
 have hh_:=zm hb;clear hb;have hb:=hh_;clear hh_
 refine ⟨_,rfl,?_⟩
 refine hK.out _ _ (by repeat (first|exact Below.refl _ _|with_reducible apply zlN|with_reducible apply zlA|refine below_step ?_ (Aside0.out (by assumption)))) (fun _=>?_)
 clear hK K
 refine znm (some 16) ?_
 refine zpu 7 ?_
 refine zdo ?_
 replace H:=H.out
 by_cases hz:ec=0
 rotate_left
 ·rw [if_neg hz] at H
  simp only [Option.some.injEq,Prod.mk.injEq] at H
  obtain ⟨rfl,rfl,rfl,rfl,rfl,rfl⟩:=H
  have hz0:(ec != 0)=true:=bne_iff_ne.mpr hz
  clear hz
  go_wp2_with (first|((with_reducible refine gate_ (.store 23 (.tmp 2) _) rfl ?_);refine Cw.put_event (g:=g2) (ys:=[.int .i64 0,.int .i64 0,.int .i64 0,.int .i64 0]) rfl rfl rfl (by apply pg_st23;exact rfl;exact rfl;exact rfl;exact (zbB (Aside0.out (by assumption)) (by repeat (first|exact Below.refl _ _|with_reducible apply zlN|with_reducible apply zlA|refine below_step ?_ (Aside0.out (by assumption)))))) ?_;rintro w2 hw2;have hb2:Aside0 (Below w.heap.size w w2):=⟨by rw [hw2];exact Cw.setL_below hge2.out _ _ _ (by repeat (first|exact Below.refl _ _|with_reducible apply zlN|with_reducible apply zlA|refine below_step ?_ (Aside0.out (by assumption))))⟩;have hzz:Aside0 (w2.heap[g2]?=some (.cells #[.int .i64 0,.int .i64 0,.int .i64 0,.int .i64 0] 23 (0,0))):=⟨by rw [hw2];exact Cw.setL_full [.int .i64 0,.int .i64 0,.int .i64 0,.int .i64 0] (show _=some (Obj.cells #[.int .i64 0,.int .i64 0,.int .i64 0,.int .i64 0] 23 (0,0)) from (zbB (Aside0.out (by assumption)) (by repeat (first|exact Below.refl _ _|with_reducible apply zlN|with_reducible apply zlA|refine below_step ?_ (Aside0.out (by assumption)))))) rfl⟩;clear hw2))
  refine bodyPost_ret (results_ctt rfl _ _ g2 23 #[.int .i64 0,.int .i64 0,.int .i64 0,.int .i64 0] (0,0) _ rfl hzz.out Try.underlying23 rfl (by kernel_rfl)) rfl ?_
  exact ⟨_,rfl,Kd.R_nil _ _ _ _ _,hb2.out⟩
 subst hz
 rw [if_pos rfl] at H
 have hg_:=Option.bind_eq_some_iff.mp H;clear H;obtain ⟨⟨l1,le⟩,F2,H⟩:=hg_;have hh_:=zm F2;clear F2;have F2:=hh_;clear hh_;(try dsimp only at H);have hg_:=Cw.gt_ H;clear H;obtain ⟨rfl,H⟩:=hg_;have hg_:=Cw.gt_ H;clear H;obtain ⟨hl5,H⟩:=hg_
 have hh_:=zm H;clear H;have H:=hh_;clear hh_;have hh_:=zm hl5;clear hl5;have hl5:=hh_;clear hh_
 go_wp2_with fail
 refine Cw.dstart (by as_aux_lemma=>kernel_rfl) rfl (fun wd hb=>?_)
 have hh_:=zm hb;clear hb;have hb:=hh_;clear hh_
 refine zpu 1 ?_
 refine zpu 2 ?_
 refine Cw.done1 (i:=0) (N:=some 22) (by simp only [List.getElem?_toArray,List.getElem?_cons_succ,List.getElem?_cons_zero];rfl) rfl (by as_aux_lemma=>kernel_rfl) (fun K hK=>?_)
 refine goes_ Try.func30 (by as_aux_lemma=>kernel_rfl) rfl _ (by rfl) rfl rfl (by go_simp;rfl) ?_
 refine (page_widths.calls [8,8,32,64,64] _ rfl).mono ?_
 rintro e w1 ⟨vJ,rfl,hoJ,hb⟩
 obtain ⟨AJ,cJ,rfl⟩:=Kd.R_slice hoJ
 have hcJ:=zm (Kd.R_reads' hoJ).2.1
 have hrJ:=zm (Kd.R_reads' hoJ).2.2
 clear hoJ
 have hh_:=zm hb;clear hb;have hb:=hh_;clear hh_
 refine ⟨_,rfl,?_⟩
 refine hK.out _ _ (by repeat (first|exact Below.refl _ _|with_reducible apply zlN|with_reducible apply zlA|refine below_step ?_ (Aside0.out (by assumption)))) (fun _=>?_)
 clear hK K
 refine znm (some 22) ?_
 refine Cw.done1 (i:=3) (N:=some 25) (by simp only [List.getElem?_toArray,List.getElem?_cons_succ,List.getElem?_cons_zero];rfl) rfl (by as_aux_lemma=>kernel_rfl) (fun K hK=>?_)
 refine goes_ Try.func37 (by as_aux_lemma=>kernel_rfl) rfl _ (by rfl) rfl rfl (by go_simp;rfl) ?_
 refine (pg_unpack k AJ cJ [8,8,32,64,64] (some ⟨g1,256,none⟩) 32 22 ((p.drop 256).take 22) l1 0 _ (by rw [List.length_take,List.length_drop,hp.out];rfl) (Kd.C_below (Aside0.out (by assumption)) (by repeat (first|exact Below.refl _ _|with_reducible apply zlN|with_reducible apply zlA|refine below_step ?_ (Aside0.out (by assumption))))) hcJ.out (pg_C (zbB (Aside0.out (by assumption)) (by repeat (first|exact Below.refl _ _|with_reducible apply zlN|with_reducible apply zlA|refine below_step ?_ (Aside0.out (by assumption))))) (by rw [hp.out];decide) hp.out) (by decide) F2.out).mono ?_
 rintro e w1 ⟨A1,c1,rfl,hc1,hr1,hb⟩
 obtain ⟨ad1,rfl,_⟩:=hr1.2.2 (by rw [hl5.out];omega)
 rw [hl5.out] at hr1 hc1 ⊢
 have hh_:=zm hc1;clear hc1;have hc1:=hh_;clear hh_;have hh_:=zm hr1;clear hr1;have hr1:=hh_;clear hh_;have hh_:=zm hb;clear hb;have hb:=hh_;clear hh_
 refine ⟨_,rfl,?_⟩
 refine hK.out _ _ (by repeat (first|exact Below.refl _ _|with_reducible apply zlN|with_reducible apply zlA|refine below_step ?_ (Aside0.out (by assumption)))) (fun _=>?_)
 clear hK K
 refine znm (some 25) ?_
 refine zpu 4 ?_
 refine zpu 5 ?_
 refine zpu 6 ?_
 refine zpu 7 ?_
 refine zpu 8 ?_
 refine zdo ?_
 replace H:=H.out
 have q5:=hl5.out
 by_cases q1:rd l1 1=0
 rotate_left
 ·rw [if_neg q1] at H
  simp only [Option.some.injEq,Prod.mk.injEq] at H
  obtain ⟨rfl,rfl,rfl,rfl,rfl,rfl⟩:=H
  have q1b:(rd l1 1 != 0)=true:=bne_iff_ne.mpr q1
  clear q1
  go_wp2_with (first|((with_reducible refine gate_ (.load 58 _) rfl ?_);refine Kd.event_run rfl (by apply pg_u64;exact rfl;exact rfl;exact (Kd.C_below (Aside0.out (by assumption)) (by repeat (first|exact Below.refl _ _|with_reducible apply zlN|with_reducible apply zlA|refine below_step ?_ (Aside0.out (by assumption)))));omega;omega) ?_)|((with_reducible refine Cw.guarded rfl ?gw ?_);(case gw=>first|rfl|(go_simp;done));dsimp only)|((with_reducible refine gate_ (.store 23 (.tmp 2) _) rfl ?_);refine Cw.put_event (g:=g2) (ys:=[.int .i64 0,.int .i64 0,.int .i64 0,.int .i64 0]) rfl rfl rfl (by apply pg_st23;exact rfl;exact rfl;exact rfl;exact (zbB (Aside0.out (by assumption)) (by repeat (first|exact Below.refl _ _|with_reducible apply zlN|with_reducible apply zlA|refine below_step ?_ (Aside0.out (by assumption)))))) ?_;rintro w2 hw2;have hb2:Aside0 (Below w.heap.size w w2):=⟨by rw [hw2];exact Cw.setL_below hge2.out _ _ _ (by repeat (first|exact Below.refl _ _|with_reducible apply zlN|with_reducible apply zlA|refine below_step ?_ (Aside0.out (by assumption))))⟩;have hzz:Aside0 (w2.heap[g2]?=some (.cells #[.int .i64 0,.int .i64 0,.int .i64 0,.int .i64 0] 23 (0,0))):=⟨by rw [hw2];exact Cw.setL_full [.int .i64 0,.int .i64 0,.int .i64 0,.int .i64 0] (show _=some (Obj.cells #[.int .i64 0,.int .i64 0,.int .i64 0,.int .i64 0] 23 (0,0)) from (zbB (Aside0.out (by assumption)) (by repeat (first|exact Below.refl _ _|with_reducible apply zlN|with_reducible apply zlA|refine below_step ?_ (Aside0.out (by assumption)))))) rfl⟩;clear hw2))
  refine bodyPost_ret (results_ctt rfl _ _ g2 23 #[.int .i64 0,.int .i64 0,.int .i64 0,.int .i64 0] (0,0) _ rfl hzz.out Try.underlying23 rfl (by kernel_rfl)) rfl ?_
  exact ⟨_,rfl,Kd.R_nil _ _ _ _ _,hb2.out⟩
 rw [if_pos q1] at H
 have q1b:(rd l1 1 != 0)=false:=by rw [q1];rfl
 clear q1
 by_cases q3:rd l1 3 > 1152921504606846976
 ·rw [if_pos q3] at H
  simp only [Option.some.injEq,Prod.mk.injEq] at H
  obtain ⟨rfl,rfl,rfl,rfl,rfl,rfl⟩:=H
  have q3b:decide (1152921504606846976 < rd l1 3)=true:=decide_eq_true q3
  clear q3
  go_wp2_with (first|((with_reducible refine gate_ (.load 58 _) rfl ?_);refine Kd.event_run rfl (by apply pg_u64;exact rfl;exact rfl;exact (Kd.C_below (Aside0.out (by assumption)) (by repeat (first|exact Below.refl _ _|with_reducible apply zlN|with_reducible apply zlA|refine below_step ?_ (Aside0.out (by assumption)))));omega;omega) ?_)|((with_reducible refine Cw.guarded rfl ?gw ?_);(case gw=>first|rfl|(go_simp;done));dsimp only)|((with_reducible refine gate_ (.store 23 (.tmp 2) _) rfl ?_);refine Cw.put_event (g:=g2) (ys:=[.int .i64 0,.int .i64 0,.int .i64 0,.int .i64 0]) rfl rfl rfl (by apply pg_st23;exact rfl;exact rfl;exact rfl;exact (zbB (Aside0.out (by assumption)) (by repeat (first|exact Below.refl _ _|with_reducible apply zlN|with_reducible apply zlA|refine below_step ?_ (Aside0.out (by assumption)))))) ?_;rintro w2 hw2;have hb2:Aside0 (Below w.heap.size w w2):=⟨by rw [hw2];exact Cw.setL_below hge2.out _ _ _ (by repeat (first|exact Below.refl _ _|with_reducible apply zlN|with_reducible apply zlA|refine below_step ?_ (Aside0.out (by assumption))))⟩;have hzz:Aside0 (w2.heap[g2]?=some (.cells #[.int .i64 0,.int .i64 0,.int .i64 0,.int .i64 0] 23 (0,0))):=⟨by rw [hw2];exact Cw.setL_full [.int .i64 0,.int .i64 0,.int .i64 0,.int .i64 0] (show _=some (Obj.cells #[.int .i64 0,.int .i64 0,.int .i64 0,.int .i64 0] 23 (0,0)) from (zbB (Aside0.out (by assumption)) (by repeat (first|exact Below.refl _ _|with_reducible apply zlN|with_reducible apply zlA|refine below_step ?_ (Aside0.out (by assumption)))))) rfl⟩;clear hw2))
  refine bodyPost_ret (results_ctt rfl _ _ g2 23 #[.int .i64 0,.int .i64 0,.int .i64 0,.int .i64 0] (0,0) _ rfl hzz.out Try.underlying23 rfl (by kernel_rfl)) rfl ?_
  exact ⟨_,rfl,Kd.R_nil _ _ _ _ _,hb2.out⟩
 rw [if_neg q3] at H
 have q3b:decide (1152921504606846976 < rd l1 3)=false:=decide_eq_false q3
 clear q3
 by_cases q4:rd l1 4 > 1152921504606846976
 ·rw [if_pos q4] at H
  simp only [Option.some.injEq,Prod.mk.injEq] at H
  obtain ⟨rfl,rfl,rfl,rfl,rfl,rfl⟩:=H
  have q4b:decide (1152921504606846976 < rd l1 4)=true:=decide_eq_true q4
  clear q4
  go_wp2_with (first|((with_reducible refine gate_ (.load 58 _) rfl ?_);refine Kd.event_run rfl (by apply pg_u64;exact rfl;exact rfl;exact (Kd.C_below (Aside0.out (by assumption)) (by repeat (first|exact Below.refl _ _|with_reducible apply zlN|with_reducible apply zlA|refine below_step ?_ (Aside0.out (by assumption)))));omega;omega) ?_)|((with_reducible refine Cw.guarded rfl ?gw ?_);(case gw=>first|rfl|(go_simp;done));dsimp only)|((with_reducible refine gate_ (.store 23 (.tmp 2) _) rfl ?_);refine Cw.put_event (g:=g2) (ys:=[.int .i64 0,.int .i64 0,.int .i64 0,.int .i64 0]) rfl rfl rfl (by apply pg_st23;exact rfl;exact rfl;exact rfl;exact (zbB (Aside0.out (by assumption)) (by repeat (first|exact Below.refl _ _|with_reducible apply zlN|with_reducible apply zlA|refine below_step ?_ (Aside0.out (by assumption)))))) ?_;rintro w2 hw2;have hb2:Aside0 (Below w.heap.size w w2):=⟨by rw [hw2];exact Cw.setL_below hge2.out _ _ _ (by repeat (first|exact Below.refl _ _|with_reducible apply zlN|with_reducible apply zlA|refine below_step ?_ (Aside0.out (by assumption))))⟩;have hzz:Aside0 (w2.heap[g2]?=some (.cells #[.int .i64 0,.int .i64 0,.int .i64 0,.int .i64 0] 23 (0,0))):=⟨by rw [hw2];exact Cw.setL_full [.int .i64 0,.int .i64 0,.int .i64 0,.int .i64 0] (show _=some (Obj.cells #[.int .i64 0,.int .i64 0,.int .i64 0,.int .i64 0] 23 (0,0)) from (zbB (Aside0.out (by assumption)) (by repeat (first|exact Below.refl _ _|with_reducible apply zlN|with_reducible apply zlA|refine below_step ?_ (Aside0.out (by assumption)))))) rfl⟩;clear hw2))
  refine bodyPost_ret (results_ctt rfl _ _ g2 23 #[.int .i64 0,.int .i64 0,.int .i64 0,.int .i64 0] (0,0) _ rfl hzz.out Try.underlying23 rfl (by kernel_rfl)) rfl ?_
  exact ⟨_,rfl,Kd.R_nil _ _ _ _ _,hb2.out⟩
 rw [if_neg q4] at H
 have q4b:decide (1152921504606846976 < rd l1 4)=false:=decide_eq_false q4
 clear q4
 have hg_:=Option.bind_eq_some_iff.mp H;clear H;obtain ⟨t,F3,H⟩:=hg_;have hh_:=zm F3;clear F3;have F3:=hh_;clear hh_;(try dsimp only at H)
 by_cases qt:t=true
 ·rw [if_pos qt] at H
  simp only [Option.some.injEq,Prod.mk.injEq] at H
  obtain ⟨rfl,rfl,rfl,rfl,rfl,rfl⟩:=H
  subst qt
  go_wp2_with (first|((with_reducible refine gate_ (.load 58 _) rfl ?_);refine Kd.event_run rfl (by apply pg_u64;exact rfl;exact rfl;exact (Kd.C_below (Aside0.out (by assumption)) (by repeat (first|exact Below.refl _ _|with_reducible apply zlN|with_reducible apply zlA|refine below_step ?_ (Aside0.out (by assumption)))));omega;omega) ?_)|((with_reducible refine Cw.guarded rfl ?gw ?_);(case gw=>first|rfl|(go_simp;done));dsimp only)|(go_at_call 38;refine (pg_contains k (some ⟨g1,278,none⟩) 10 6 ((p.drop 278).take 6) _ _ (by rw [List.length_take,List.length_drop,hp.out];rfl) (pg_C (zbB (Aside0.out (by assumption)) (by repeat (first|exact Below.refl _ _|with_reducible apply zlN|with_reducible apply zlA|refine below_step ?_ (Aside0.out (by assumption))))) (by rw [hp.out];decide) hp.out) (by decide) F3.out).mono ?_;rintro e w1 ⟨rfl,hb⟩;have hh_:=zm hb;clear hb;have hb:=hh_;clear hh_)|((with_reducible refine gate_ (.store 23 (.tmp 2) _) rfl ?_);refine Cw.put_event (g:=g2) (ys:=[.int .i64 0,.int .i64 0,.int .i64 0,.int .i64 0]) rfl rfl rfl (by apply pg_st23;exact rfl;exact rfl;exact rfl;exact (zbB (Aside0.out (by assumption)) (by repeat (first|exact Below.refl _ _|with_reducible apply zlN|with_reducible apply zlA|refine below_step ?_ (Aside0.out (by assumption)))))) ?_;rintro w2 hw2;have hb2:Aside0 (Below w.heap.size w w2):=⟨by rw [hw2];exact Cw.setL_below hge2.out _ _ _ (by repeat (first|exact Below.refl _ _|with_reducible apply zlN|with_reducible apply zlA|refine below_step ?_ (Aside0.out (by assumption))))⟩;have hzz:Aside0 (w2.heap[g2]?=some (.cells #[.int .i64 0,.int .i64 0,.int .i64 0,.int .i64 0] 23 (0,0))):=⟨by rw [hw2];exact Cw.setL_full [.int .i64 0,.int .i64 0,.int .i64 0,.int .i64 0] (show _=some (Obj.cells #[.int .i64 0,.int .i64 0,.int .i64 0,.int .i64 0] 23 (0,0)) from (zbB (Aside0.out (by assumption)) (by repeat (first|exact Below.refl _ _|with_reducible apply zlN|with_reducible apply zlA|refine below_step ?_ (Aside0.out (by assumption)))))) rfl⟩;clear hw2))
  refine bodyPost_ret (results_ctt rfl _ _ g2 23 #[.int .i64 0,.int .i64 0,.int .i64 0,.int .i64 0] (0,0) _ rfl hzz.out Try.underlying23 rfl (by kernel_rfl)) rfl ?_
  exact ⟨_,rfl,Kd.R_nil _ _ _ _ _,hb2.out⟩
 rw [if_neg qt] at H
 obtain rfl:t=false:=by simpa using qt
 clear qt
 have hg_:=Option.bind_eq_some_iff.mp H;clear H;obtain ⟨cc,F4,H⟩:=hg_;have hh_:=zm F4;clear F4;have F4:=hh_;clear hh_;(try dsimp only at H)
 have hh_:=zm H;clear H;have H:=hh_;clear hh_;have hh_:=zm q5;clear q5;have q5:=hh_;clear hh_
 go_wp2_with (first|((with_reducible refine gate_ (.load 58 _) rfl ?_);refine Kd.event_run rfl (by apply pg_u64;exact rfl;exact rfl;exact (Kd.C_below (Aside0.out (by assumption)) (by repeat (first|exact Below.refl _ _|with_reducible apply zlN|with_reducible apply zlA|refine below_step ?_ (Aside0.out (by assumption)))));(have:=hl5.out;omega);omega) ?_)|((with_reducible refine Cw.guarded rfl ?gw ?_);(case gw=>first|rfl|(go_simp;done));dsimp only)|(go_at_call 38;refine (pg_contains k (some ⟨g1,278,none⟩) 10 6 ((p.drop 278).take 6) _ _ (by rw [List.length_take,List.length_drop,hp.out];rfl) (pg_C (zbB (Aside0.out (by assumption)) (by repeat (first|exact Below.refl _ _|with_reducible apply zlN|with_reducible apply zlA|refine below_step ?_ (Aside0.out (by assumption))))) (by rw [hp.out];decide) hp.out) (by decide) F3.out).mono ?_;rintro e w1 ⟨rfl,hb⟩;have hh_:=zm hb;clear hb;have hb:=hh_;clear hh_))
 refine Cw.dstart (by as_aux_lemma=>kernel_rfl) rfl (fun wd hb=>?_)
 have hh_:=zm hb;clear hb;have hb:=hh_;clear hh_
 have q5:=hl5.out
 refine zpu 0 ?_
 refine zpu 1 ?_
 refine Cw.dtk (i:=2) (v:=?_) (a':=?_) (by simp only [List.getElem?_toArray,List.getElem?_cons_succ,List.getElem?_cons_zero];rfl) rfl (by as_aux_lemma=>kernel_rfl) (by rfl) (by exact fun _ _ _ h=>h) ?_ (by repeat (first|exact Below.refl _ _|with_reducible apply zlN|with_reducible apply zlA|refine below_step ?_ (Aside0.out (by assumption)))) ?_ ?_
 rotate_left
 ·intro w' hs_
  have hs:=zm hs_
  clear hs_
  apply Eq.trans
  ·apply pg_u64z
   ·rfl
   ·rfl
   ·exact (Kd.C_below (Aside0.out (by assumption)) (by repeat (first|exact Below.refl _ _|with_reducible apply zlN|with_reducible apply zlA|refine below_step ?_ (Aside0.out (by assumption)))))
   ·omega
  ·rfl
 rotate_left
 ·simp only [Act.put,List.setIfInBounds_toArray,List.set_cons_zero,List.set_cons_succ,i64_w,i32_w]
  rfl
 refine zpu 3 ?_
 refine zpu 4 ?_
 refine zpu 5 ?_
 refine Cw.dtk (i:=6) (v:=?_) (a':=?_) (by simp only [List.getElem?_toArray,List.getElem?_cons_succ,List.getElem?_cons_zero];rfl) rfl (by as_aux_lemma=>kernel_rfl) (by rfl) (by exact fun _ _ _ h=>h) ?_ (by repeat (first|exact Below.refl _ _|with_reducible apply zlN|with_reducible apply zlA|refine below_step ?_ (Aside0.out (by assumption)))) ?_ ?_
 rotate_left
 ·intro w' hs_
  have hs:=zm hs_
  clear hs_
  apply Eq.trans
  ·apply pg_u64
   ·rfl
   ·rfl
   ·exact (Kd.C_below (Aside0.out (by assumption)) (by repeat (first|exact Below.refl _ _|with_reducible apply zlN|with_reducible apply zlA|refine below_step ?_ (Aside0.out (by assumption)))))
   ·omega
   ·omega
  ·rfl
 rotate_left
 ·simp only [Act.put,List.setIfInBounds_toArray,List.set_cons_zero,List.set_cons_succ,i64_w,i32_w]
  rfl
 refine zpu 7 ?_
 refine zpu 8 ?_
 refine zpu 9 ?_
 refine Cw.dtk (i:=10) (v:=?_) (a':=?_) (by simp only [List.getElem?_toArray,List.getElem?_cons_succ,List.getElem?_cons_zero];rfl) rfl (by as_aux_lemma=>kernel_rfl) (by rfl) (by exact fun _ _ _ h=>h) ?_ (by repeat (first|exact Below.refl _ _|with_reducible apply zlN|with_reducible apply zlA|refine below_step ?_ (Aside0.out (by assumption)))) ?_ ?_
 rotate_left
 ·intro w' hs_
  have hs:=zm hs_
  clear hs_
  apply Eq.trans
  ·apply pg_u64
   ·rfl
   ·rfl
   ·exact (Kd.C_below (Aside0.out (by assumption)) (by repeat (first|exact Below.refl _ _|with_reducible apply zlN|with_reducible apply zlA|refine below_step ?_ (Aside0.out (by assumption)))))
   ·omega
   ·omega
  ·rfl
 rotate_left
 ·simp only [Act.put,List.setIfInBounds_toArray,List.set_cons_zero,List.set_cons_succ,i64_w,i32_w]
  rfl
 refine zpu 11 ?_
 refine zpu 12 ?_
 refine zpu 13 ?_
 refine Cw.dtk (i:=14) (v:=?_) (a':=?_) (by simp only [List.getElem?_toArray,List.getElem?_cons_succ,List.getElem?_cons_zero];rfl) rfl (by as_aux_lemma=>kernel_rfl) (by rfl) (by exact fun _ _ _ h=>h) ?_ (by repeat (first|exact Below.refl _ _|with_reducible apply zlN|with_reducible apply zlA|refine below_step ?_ (Aside0.out (by assumption)))) ?_ ?_
 rotate_left
 ·intro w' hs_
  have hs:=zm hs_
  clear hs_
  apply Eq.trans
  ·apply pg_u64
   ·rfl
   ·rfl
   ·exact (Kd.C_below (Aside0.out (by assumption)) (by repeat (first|exact Below.refl _ _|with_reducible apply zlN|with_reducible apply zlA|refine below_step ?_ (Aside0.out (by assumption)))))
   ·omega
   ·omega
  ·rfl
 rotate_left
 ·simp only [Act.put,List.setIfInBounds_toArray,List.set_cons_zero,List.set_cons_succ,i64_w,i32_w]
  rfl
 refine zpu 15 ?_
 refine zpu 16 ?_
 refine Cw.done1 (i:=17) (N:=some 8) (by simp only [List.getElem?_toArray,List.getElem?_cons_succ,List.getElem?_cons_zero];rfl) rfl (by as_aux_lemma=>kernel_rfl) (fun K hK=>?_)
 refine Cw.dnew (fun g=>.pointer (some ⟨g,0,none⟩)) (by rfl) rfl (by apply pg_new23;rfl) ?_
 rintro gx hg w1 hbk hb
 have hge:Aside0 (wd.heap.size≤gx):=⟨Nat.le_trans (below_size (by repeat (first|exact Below.refl _ _|with_reducible apply zlN|with_reducible apply zlA|refine below_step ?_ (Aside0.out (by assumption))))) (Nat.le_of_eq hg.symm)⟩
 clear hg
 have hh_:=zm hbk;clear hbk;have hbk:=hh_;clear hh_;have hh_:=zm hb;clear hb;have hb:=hh_;clear hh_
 refine hK.out _ _ (by repeat (first|exact Below.refl _ _|with_reducible apply zlN|with_reducible apply zlA|refine below_step ?_ (Aside0.out (by assumption)))) (fun _=>?_)
 clear hK K
 refine znm (some 8) ?_
 refine Cw.done1 (i:=18) (N:=none) (by simp only [List.getElem?_toArray,List.getElem?_cons_succ,List.getElem?_cons_zero];rfl) rfl (by as_aux_lemma=>kernel_rfl) (fun K hK=>?_)
 refine Cw.dput (g:=gx) (ys:=[.int .i64 (wrap64 (rd l1 0)),.int .i64 (wrap64 (rd l1 2)),.int .i64 (wrap64 (rd l1 3)),.int .i64 (wrap64 (rd l1 4))]) (by rfl) rfl ?_ ?_
 ·apply pg_st23
  ·rfl
  ·rfl
  ·rfl
  ·exact (zbB (Aside0.out (by assumption)) (by repeat (first|exact Below.refl _ _|with_reducible apply zlN|with_reducible apply zlA|refine below_step ?_ (Aside0.out (by assumption)))))
 rintro wx hwx
 have hb2:Aside0 (Below wd.heap.size wd wx):=⟨by rw [hwx];exact Cw.setL_below hge.out _ _ _ (by repeat (first|exact Below.refl _ _|with_reducible apply zlN|with_reducible apply zlA|refine below_step ?_ (Aside0.out (by assumption))))⟩
 have hbx:Aside0 (wx.heap[gx]?=some (.cells #[.int .i64 (wrap64 (rd l1 0)),.int .i64 (wrap64 (rd l1 2)),.int .i64 (wrap64 (rd l1 3)),.int .i64 (wrap64 (rd l1 4))] 23 (0,0))):=⟨by rw [hwx];exact Cw.setL_full [.int .i64 (wrap64 (rd l1 0)),.int .i64 (wrap64 (rd l1 2)),.int .i64 (wrap64 (rd l1 3)),.int .i64 (wrap64 (rd l1 4))] (show _=some (Obj.cells #[.int .i64 0,.int .i64 0,.int .i64 0,.int .i64 0] 23 (0,0)) from (zbB (Aside0.out (by assumption)) (by repeat (first|exact Below.refl _ _|with_reducible apply zlN|with_reducible apply zlA|refine below_step ?_ (Aside0.out (by assumption)))))) rfl⟩
 clear hwx
 refine hK.out _ _ hb2.out (fun _=>?_)
 clear hK K
 refine zdo ?_
 replace H:=H.out
 by_cases hz:cc=0
 rotate_left
 ·rw [if_neg hz] at H
  simp only [Option.some.injEq,Prod.mk.injEq] at H
  obtain ⟨rfl,rfl,rfl,rfl,rfl,rfl⟩:=H
  have hz0:(cc != 0)=true:=bne_iff_ne.mpr hz
  clear hz
  go_wp2_with (first|((with_reducible refine gate_ (.load 23 _) rfl ?_);refine Kd.event_run rfl (by apply pg_h23;exact rfl;exact rfl;exact (zbB (Aside0.out (by assumption)) (by repeat (first|exact Below.refl _ _|with_reducible apply zlN|with_reducible apply zlA|refine below_step ?_ (Aside0.out (by assumption)))))) ?_)|(go_at_call 12;refine (page_Check.calls k _ _ _ _ _ _ F4.out).mono ?_;rintro e wc ⟨rfl,hb⟩;have hh_:=zm hb;clear hb;have hb:=hh_;clear hh_)|((with_reducible refine gate_ (.store 23 (.tmp 2) _) rfl ?_);refine Cw.put_event (g:=g2) (ys:=[.int .i64 0,.int .i64 0,.int .i64 0,.int .i64 0]) rfl rfl rfl (by apply pg_st23;exact rfl;exact rfl;exact rfl;exact (zbB (Aside0.out (by assumption)) (by repeat (first|exact Below.refl _ _|with_reducible apply zlN|with_reducible apply zlA|refine below_step ?_ (Aside0.out (by assumption)))))) ?_;rintro w2 hw2;have hb2:Aside0 (Below w.heap.size w w2):=⟨by rw [hw2];exact Cw.setL_below hge2.out _ _ _ (by repeat (first|exact Below.refl _ _|with_reducible apply zlN|with_reducible apply zlA|refine below_step ?_ (Aside0.out (by assumption))))⟩;have hzz:Aside0 (w2.heap[g2]?=some (.cells #[.int .i64 0,.int .i64 0,.int .i64 0,.int .i64 0] 23 (0,0))):=⟨by rw [hw2];exact Cw.setL_full [.int .i64 0,.int .i64 0,.int .i64 0,.int .i64 0] (show _=some (Obj.cells #[.int .i64 0,.int .i64 0,.int .i64 0,.int .i64 0] 23 (0,0)) from (zbB (Aside0.out (by assumption)) (by repeat (first|exact Below.refl _ _|with_reducible apply zlN|with_reducible apply zlA|refine below_step ?_ (Aside0.out (by assumption)))))) rfl⟩;clear hw2))
  refine bodyPost_ret (results_ctt rfl _ _ g2 23 #[.int .i64 0,.int .i64 0,.int .i64 0,.int .i64 0] (0,0) _ rfl hzz.out Try.underlying23 rfl (by kernel_rfl)) rfl ?_
  exact ⟨_,rfl,Kd.R_nil _ _ _ _ _,hb2.out⟩
 subst hz
 rw [if_pos rfl] at H
 have hg_:=Option.bind_eq_some_iff.mp H;clear H;obtain ⟨dd,F5,H⟩:=hg_;have hh_:=zm F5;clear F5;have F5:=hh_;clear hh_;(try dsimp only at H)
 simp only [Option.some.injEq,Prod.mk.injEq] at H
 obtain ⟨rfl,rfl,rfl,rfl,rfl,rfl⟩:=H
 go_wp2_with (first|((with_reducible refine gate_ (.load 23 _) rfl ?_);refine Kd.event_run rfl (by apply pg_h23;exact rfl;exact rfl;exact (zbB (Aside0.out (by assumption)) (by repeat (first|exact Below.refl _ _|with_reducible apply zlN|with_reducible apply zlA|refine below_step ?_ (Aside0.out (by assumption)))))) ?_)|(go_at_call 12;refine (page_Check.calls k _ _ _ _ _ _ F4.out).mono ?_;rintro e wc ⟨rfl,hb⟩;have hh_:=zm hb;clear hb;have hb:=hh_;clear hh_))
 refine Cw.dstartD [4] (by as_aux_lemma=>kernel_rfl) rfl (fun we hb=>?_)
 have hh_:=zm hb;clear hb;have hb:=hh_;clear hh_
 refine Cw.dtkD (i:=0) (v:=?_) (a':=?_) (by simp only [List.getElem?_toArray,List.getElem?_cons_succ,List.getElem?_cons_zero];rfl) rfl (by as_aux_lemma=>kernel_rfl) (by rfl) (by exact fun _ _ _ h=>h) ?_ (by repeat (first|exact Below.refl _ _|with_reducible apply zlN|with_reducible apply zlA|refine below_step ?_ (Aside0.out (by assumption)))) ?_ ?_
 rotate_left
 ·intro w' hs_
  have hs:=zm hs_
  clear hs_
  apply Eq.trans
  ·apply pg_h23
   ·rfl
   ·rfl
   ·exact (zbB (Aside0.out (by assumption)) (by repeat (first|exact Below.refl _ _|with_reducible apply zlN|with_reducible apply zlA|refine below_step ?_ (Aside0.out (by assumption)))))
  ·rfl
 rotate_left
 ·simp only [Act.put,List.setIfInBounds_toArray,List.set_cons_zero,List.set_cons_succ,i64_w,i32_w]
  rfl
 refine zpu 1 ?_
 refine zpu 2 ?_
 refine Cw.done1D (i:=3) (N:=some 80) (by simp only [List.getElem?_toArray,List.getElem?_cons_succ,List.getElem?_cons_zero];rfl) rfl (by as_aux_lemma=>kernel_rfl) (by decide) (fun K hK=>?_)
 refine goes_ Try.func40 (by as_aux_lemma=>kernel_rfl) rfl _ (by rfl) rfl rfl (by go_simp;rfl) ?_
 refine (pg_clone (some ⟨g1,0,none⟩) 256 256 ((p.drop 0).take 256) dd _ (by rw [List.length_take,List.length_drop,hp.out];rfl) (pg_C (zbB (Aside0.out (by assumption)) (by repeat (first|exact Below.refl _ _|with_reducible apply zlN|with_reducible apply zlA|refine below_step ?_ (Aside0.out (by assumption))))) (by rw [hp.out];decide) hp.out) (by decide) F5.out).mono ?_
 rintro e w1 ⟨Ad,cd,rfl,hod,hb⟩
 have hh_:=zm hod;clear hod;have hod:=hh_;clear hh_;have hh_:=zm hb;clear hb;have hb:=hh_;clear hh_
 refine ⟨_,rfl,?_⟩
 refine hK.out _ _ (by repeat (first|exact Below.refl _ _|with_reducible apply zlN|with_reducible apply zlA|refine below_step ?_ (Aside0.out (by assumption)))) (fun _=>?_)
 clear hK K
 refine znm (some 80) ?_
 refine Cw.lastD (i:=4) (N:=none) (by simp only [List.getElem?_toArray,List.getElem?_cons_succ,List.getElem?_cons_zero];rfl) rfl (by as_aux_lemma=>kernel_rfl) (by decide) (fun K hK=>?_)
 refine Cw.dput (g:=g2) (ys:=[.int .i64 (wrap64 (rd l1 0)),.int .i64 (wrap64 (rd l1 2)),.int .i64 (wrap64 (rd l1 3)),.int .i64 (wrap64 (rd l1 4))]) (by rfl) rfl ?_ ?_
 ·apply pg_st23
  ·rfl
  ·rfl
  ·rfl
  ·exact (zbB (Aside0.out (by assumption)) (by repeat (first|exact Below.refl _ _|with_reducible apply zlN|with_reducible apply zlA|refine below_step ?_ (Aside0.out (by assumption)))))
 rintro w2 hw2
 have hb2:Aside0 (Below w.heap.size w w2):=⟨by rw [hw2];exact Cw.setL_below hge2.out _ _ _ (by repeat (first|exact Below.refl _ _|with_reducible apply zlN|with_reducible apply zlA|refine below_step ?_ (Aside0.out (by assumption))))⟩
 have hzz:Aside0 (w2.heap[g2]?=some (.cells #[.int .i64 (wrap64 (rd l1 0)),.int .i64 (wrap64 (rd l1 2)),.int .i64 (wrap64 (rd l1 3)),.int .i64 (wrap64 (rd l1 4))] 23 (0,0))):=⟨by rw [hw2];exact Cw.setL_full [.int .i64 (wrap64 (rd l1 0)),.int .i64 (wrap64 (rd l1 2)),.int .i64 (wrap64 (rd l1 3)),.int .i64 (wrap64 (rd l1 4))] (show _=some (Obj.cells #[.int .i64 0,.int .i64 0,.int .i64 0,.int .i64 0] 23 (0,0)) from (zbB (Aside0.out (by assumption)) (by repeat (first|exact Below.refl _ _|with_reducible apply zlN|with_reducible apply zlA|refine below_step ?_ (Aside0.out (by assumption)))))) rfl⟩
 have hR2:Aside0 (Kd.R (Kd.int .u8) 5 w2 w.heap.size (fun _=>True) (.slice Ad dd.length cd) dd):=⟨by rw [hw2];exact Cw.setL_R (Kd.R_lower hod.out (below_size (by repeat (first|exact Below.refl _ _|with_reducible apply zlN|with_reducible apply zlA|refine below_step ?_ (Aside0.out (by assumption)))))) (show _=some (Obj.cells #[.int .i64 0,.int .i64 0,.int .i64 0,.int .i64 0] 23 (0,0)) from (zbB (Aside0.out (by assumption)) (by repeat (first|exact Below.refl _ _|with_reducible apply zlN|with_reducible apply zlA|refine below_step ?_ (Aside0.out (by assumption)))))) (by intro q hq;simp [Kd.int,Kd.scalar] at hq;omega) 0 _⟩
 clear hw2
 refine hK.out _ _ ?_
 clear hK K
 refine zpu 5 ?_
 refine zpu 6 ?_
 refine zdo ?_
 go_wp2
 refine bodyPost_ret (results_ctt rfl _ _ g2 23 #[.int .i64 (wrap64 (rd l1 0)),.int .i64 (wrap64 (rd l1 2)),.int .i64 (wrap64 (rd l1 3)),.int .i64 (wrap64 (rd l1 4))] (0,0) _ rfl hzz.out Try.underlying23 rfl (by kernel_rfl)) rfl ?_
 exact ⟨_,rfl,hR2.out,hb2.out⟩
end Go.Proofs.Ytdohpjjggjehfaa.Print
end
section
namespace Go.Proofs.Ytdohpjjggjehfaa.Print
open Go.RowKit Go.Proofs.YtdohpjjggjehfaaW.PrintWords Go.Proofs.YtdohpjjggjehfaaW.PrintLast Go.Proofs.YtdohpjjggjehfaaW.PrintMore
attribute [local go_sem] max2_int min2_int max_two min_two max_three min_three max_four min_four   -- for this text's walks alone
attribute [local go_sem ↓] Go.Proofs.Ytdohpjjggjehfaa.Sem.isSome_setCell
attribute [local go_sem] Go.Instr.field Go.asAgg
set_option linter.unusedVariables false
set_option linter.unusedSimpArgs false
-- CX
-- PG
def er (i:Nat):List Int:=List.replicate i 255 ++ List.replicate (288 - i) 0
theorem er_len {i:Nat} (h:i≤288):(er i).length=288:=by unfold er;rw [List.length_append,List.length_replicate,List.length_replicate];omega
theorem er_set {i:Nat} (h:i < 288):(er i).set i 255=er (i + 1):=by
 unfold er
 obtain ⟨d,hd⟩:∃ d,288 - i=d + 1:=⟨288 - i - 1,by omega⟩
 have hd':288 - (i + 1)=d:=by omega
 rw [hd,hd',List.set_append_right _ _ (by simp),List.length_replicate,Nat.sub_self,List.replicate_succ,List.set_cons_zero,List.replicate_succ',List.append_assoc]
 rfl
theorem er_end:er 288=List.replicate 288 255:=by unfold er;rw [Nat.sub_self,List.replicate_zero,List.append_nil]
theorem er_zero:er 0=pz:=by unfold er pz;rw [List.replicate_zero,List.nil_append]
theorem er_meas {n i j:Nat} {x:Int} (hx:x=((j + 1:Nat):Int)) (h:i=j) (hj:j < n):n - (intOf (.int .i64 x)).toNat < n - (intOf (.int .i64 (i:Int))).toNat:=by
 subst hx h
 simp only [intOf,Int.toNat_natCast]
 omega
set_option maxHeartbeats 4000000 in
set_option maxRecDepth 100000 in
theorem page_Erased.calls (w:World):Calls Try.prog 24 #[] w fun e w'=>e=.returned (.agg (pc (List.replicate 288 255)))∧Below w.heap.size w w':=by
 have hu29:=Try.underlying29
 go_enter Try.func24,Try.ntmps24
 go_wp2_with (first|((with_reducible refine gate_dst (N:=0) rfl ?_);(with_reducible refine gate_ (.alloc 29) rfl ?_);refine box_event rfl rfl (pg_new rfl) ?_;rintro g0 hg w1 hbk hb;have hge0:Aside0 (w.heap.size≤g0):=⟨by rw [hg];exact below_size (by repeat (first|exact Below.refl _ _|with_reducible apply zlN|with_reducible apply zlA|refine below_step ?_ (Aside0.out (by assumption))))⟩;clear hg;have hh_:=zm hbk;clear hbk;have hbk:=hh_;clear hh_;have hh_:=zm hb;clear hb;have hb:=hh_;clear hh_)|((with_reducible refine gate_dst (N:=1) rfl ?_);(with_reducible refine gate_ (.alloc 29) rfl ?_);refine box_event rfl rfl (pg_new rfl) ?_;rintro g1 hg w1 hbk hb;have hge:Aside0 (w.heap.size≤g1):=⟨by rw [hg];exact below_size (by repeat (first|exact Below.refl _ _|with_reducible apply zlN|with_reducible apply zlA|refine below_step ?_ (Aside0.out (by assumption))))⟩;have hne:Aside0 (g0≠g1):=⟨by rw [hg];exact Nat.ne_of_lt (blk_lt (g:=g0) (o:=.cells (pc pz) 29 (0,0)) (zbB (Aside0.out (by assumption)) (by repeat (first|exact Below.refl _ _|with_reducible apply zlN|with_reducible apply zlA|refine below_step ?_ (Aside0.out (by assumption))))))⟩;clear hg;have hh_:=zm hbk;clear hbk;have hbk:=hh_;clear hh_;have hh_:=zm hb;clear hb;have hb:=hh_;clear hh_))
 have h0:Aside0 (w1.heap[g1]?=some (Obj.cells (pc (er 0)) 29 (0,0))):=⟨by rw [er_zero];exact (zbB (Aside0.out (by assumption)) (by repeat (first|exact Below.refl _ _|with_reducible apply zlN|with_reducible apply zlA|refine below_step ?_ (Aside0.out (by assumption)))))⟩
 go_loopw [4] (fun i wr=>∃ (j:Nat),i=.int .i64 (j:Int)∧Aside0 (j≤256)∧Aside0 (wr.heap[g1]?=some (.cells (pc (er j)) 29 (0,0)))∧Aside0 (wr.heap[g0]?=some (.cells (pc pz) 29 (0,0)))∧Aside0 (Below w.heap.size w wr)) (fun i _=>256 - (intOf i).toNat)
 case atStart=>exact ⟨0,by simp,⟨by omega⟩,h0,⟨(zbB (Aside0.out (by assumption)) (by repeat (first|exact Below.refl _ _|with_reducible apply zlN|with_reducible apply zlA|refine below_step ?_ (Aside0.out (by assumption)))))⟩,⟨(by repeat (first|exact Below.refl _ _|with_reducible apply zlN|with_reducible apply zlA|refine below_step ?_ (Aside0.out (by assumption))))⟩⟩
 case round =>
  obtain ⟨j,rfl,hj,hBK,hB0,hbr⟩:=hrel
  have hj:=hj.out
  clear h0 hbk hb
  by_cases hlt:j < 256
  ·have hjn:0≤(j:Int):=by omega
   have hj2:(j:Int) < 256:=by omega
   go_wp2_with (first|((with_reducible refine gate_ (.store 5 _ _) rfl ?_);refine pg_put (g:=g1) (q:=er (j + 1)) rfl rfl (by refine (pg_set (p:=er (j)) (i:=j) rfl ?_ rfl hBK.out (by rw [er_len (by omega)];omega)).trans ?_;exact rfl;rw [er_set (by omega)]) hBK.out ?_;rintro w2 hq hfar hbel;have hb2:Aside0 (Below w.heap.size w w2):=⟨hbel _ _ hbr.out hge.out⟩;have h02:Aside0 (w2.heap[g0]?=some (Obj.cells (pc pz) 29 (0,0))):=⟨by rw [hfar _ hne.out];exact hB0.out⟩;clear hfar hbel;have hh_:=zm hq;clear hq;have hq:=hh_;clear hh_))
   exact ⟨⟨j + 1,by simp,⟨by omega⟩,hq,h02,hb2⟩,er_meas (by omega) rfl (by omega)⟩
  ·obtain rfl:j=256:=by omega
   have hj2:decide (((256:Nat):Int) < 256)=false:=rfl
   go_wp2
   have h1:Aside0 (wr.heap[g1]?=some (Obj.cells (pc (er (256 + 0))) 29 (0,0))):=hBK
   clear hBK
   go_loopw [11] (fun i wr=>∃ (j:Nat),i=.int .i64 (j:Int)∧Aside0 (j≤32)∧Aside0 (wr.heap[g1]?=some (.cells (pc (er (256 + j))) 29 (0,0)))∧Aside0 (wr.heap[g0]?=some (.cells (pc pz) 29 (0,0)))∧Aside0 (Below w.heap.size w wr)) (fun i _=>32 - (intOf i).toNat)
   case atStart=>exact ⟨0,by simp,⟨by omega⟩,h1,hB0,hbr⟩
   case round =>
    clear hB0 hbr h1
    obtain ⟨j,rfl,hj,hBK,hB0,hbr⟩:=hrel
    have hj:=hj.out
    by_cases hlt:j < 32
    ·have hjn:0≤(j:Int):=by omega
     have hj2:(j:Int) < 32:=by omega
     go_wp2_with (first|((with_reducible refine gate_ (.store 5 _ _) rfl ?_);refine pg_put (g:=g1) (q:=er (256 + j + 1)) rfl rfl (by refine (pg_set (p:=er (256 + j)) (i:=256 + j) rfl ?_ rfl hBK.out (by rw [er_len (by omega)];omega)).trans ?_;exact rfl;rw [er_set (by omega)]) hBK.out ?_;rintro w2 hq hfar hbel;have hb2:Aside0 (Below w.heap.size w w2):=⟨hbel _ _ hbr.out hge.out⟩;have h02:Aside0 (w2.heap[g0]?=some (Obj.cells (pc pz) 29 (0,0))):=⟨by rw [hfar _ hne.out];exact hB0.out⟩;clear hfar hbel;have hh_:=zm hq;clear hq;have hq:=hh_;clear hh_))
     exact ⟨⟨j + 1,by simp,⟨by omega⟩,hq,h02,hb2⟩,er_meas (by omega) rfl (by omega)⟩
    ·obtain rfl:j=32:=by omega
     have hj2:decide (((32:Nat):Int) < 32)=false:=rfl
     go_wp2_with (first|((with_reducible refine gate_ (.load 29 _) rfl ?_);refine Kd.event_run rfl (pg_load rfl rfl hBK.out (er_len (by omega))) ?_)|((with_reducible refine gate_ (.store 29 _ _) rfl ?_);refine pg_put (g:=g0) (q:=er 288) rfl rfl (pg_store rfl rfl rfl hB0.out pz_len (er_len (by omega))) hB0.out ?_;rintro w2 hq hfar hbel;have hb2:Aside0 (Below w.heap.size w w2):=⟨hbel _ _ hbr.out hge0.out⟩;clear hfar hbel;have hh_:=zm hq;clear hq;have hq:=hh_;clear hh_))
     refine bodyPost_ret (results_cell_row rfl _ _ g0 29 (pc (er 288)) (0,0) _ rfl hq.out Try.underlying29 rfl (pg_size (er_len (by omega)))) rfl ?_
     exact ⟨by rw [er_end],hb2.out⟩
end Go.Proofs.Ytdohpjjggjehfaa.Print
end
section
namespace Go.Proofs.Ytdohpjjggjehfaa.Print
open Go.RowKit Go.Proofs.YtdohpjjggjehfaaW.PrintWords Go.Proofs.YtdohpjjggjehfaaW.PrintLast Go.Proofs.YtdohpjjggjehfaaW.PrintMore
attribute [local go_sem] max2_int min2_int max_two min_two max_three min_three max_four min_four   -- for this text's walks alone
attribute [local go_sem ↓] Go.Proofs.Ytdohpjjggjehfaa.Sem.isSome_setCell
attribute [local go_sem] Go.Instr.field Go.asAgg
set_option linter.unusedVariables false
set_option linter.unusedSimpArgs false
-- CX
-- PG
def page_State.f (k:Nat) (p:List Int):Option Int :=
 if p.length=288 then if p=(List.replicate 288 255) then some 10 else (page_Decode.f k p).bind fun r=>some r.2.2.2.2.2 else none
set_option maxHeartbeats 4000000 in
set_option maxRecDepth 100000 in
theorem page_State.calls (k:Nat) (p:List Int) (r:Int) (w:World) (h:page_State.f k p=some r) :
  Calls Try.prog 20 #[.agg (pc p)] w fun e w'=>e=.returned (.int .i64 r)∧Below w.heap.size w w':=by
 have hu29:=Try.underlying29
 have hu23:=Try.underlying23
 have H:page_State.f k p=some r:=h
 clear h
 unfold page_State.f at H
 have hg_:=Cw.gt_ H;clear H;obtain ⟨hp,H⟩:=hg_
 have hh_:=zm hp;clear hp;have hp:=hh_;clear hh_
 by_cases he:p=(List.replicate 288 255)
 ·rw [if_pos he] at H
  obtain rfl:=Option.some.inj H
  have heb:decide (p=(List.replicate 288 255))=true:=decide_eq_true he
  have hh_:=zm heb;clear heb;have heb:=hh_;clear hh_
  clear he H
  go_enter Try.func20,Try.ntmps20
  go_wp2_with (first|((with_reducible refine gate_ (.box 29 _) rfl ?_);refine box_event rfl rfl (pg_box rfl rfl) ?_;rintro g1 hg w1 hbk hb;skip;clear hg;have hh_:=zm hbk;clear hbk;have hbk:=hh_;clear hh_;have hh_:=zm hb;clear hb;have hb:=hh_;clear hh_))
  refine Cw.dstart (by as_aux_lemma=>kernel_rfl) rfl (fun wd hb=>?_)
  have hh_:=zm hb;clear hb;have hb:=hh_;clear hh_
  refine Cw.dtk (i:=0) (v:=?_) (a':=?_) (by simp only [List.getElem?_toArray,List.getElem?_cons_succ,List.getElem?_cons_zero];rfl) rfl (by as_aux_lemma=>kernel_rfl) (by rfl) (by exact fun _ _ _ h=>h) ?_ (by repeat (first|exact Below.refl _ _|with_reducible apply zlN|with_reducible apply zlA|refine below_step ?_ (Aside0.out (by assumption)))) ?_ ?_
  rotate_left
  ·intro w' hs_
   have hs:=zm hs_
   clear hs_
   apply Eq.trans
   ·apply pg_load
    ·rfl
    ·rfl
    ·exact (zbB (Aside0.out (by assumption)) (by repeat (first|exact Below.refl _ _|with_reducible apply zlN|with_reducible apply zlA|refine below_step ?_ (Aside0.out (by assumption)))))
    ·exact hp.out
   ·rfl
  rotate_left
  ·simp only [Act.put,List.setIfInBounds_toArray,List.set_cons_zero,List.set_cons_succ,i64_w,i32_w]
   rfl
  refine Cw.done1 (i:=1) (N:=some 7) (by simp only [List.getElem?_toArray,List.getElem?_cons_succ,List.getElem?_cons_zero];rfl) rfl (by as_aux_lemma=>kernel_rfl) (fun K hK=>?_)
  refine goes_ Try.func24 (by as_aux_lemma=>kernel_rfl) rfl _ (by rfl) rfl rfl (by go_simp;rfl) ?_
  refine (page_Erased.calls _).mono ?_
  rintro e w1 ⟨rfl,hb⟩
  have hh_:=zm hb;clear hb;have hb:=hh_;clear hh_
  refine ⟨_,rfl,?_⟩
  refine hK.out _ _ (by repeat (first|exact Below.refl _ _|with_reducible apply zlN|with_reducible apply zlA|refine below_step ?_ (Aside0.out (by assumption)))) (fun _=>?_)
  clear hK K
  refine znm (some 7) ?_
  refine Cw.dpu (i:=2) (v:=?_) (a':=?_) (by simp only [List.getElem?_toArray,List.getElem?_cons_succ,List.getElem?_cons_zero];rfl) rfl (by as_aux_lemma=>kernel_rfl) (by rfl) (by exact fun _ _ _ h=>h) ?_ ?_ ?_
  rotate_left
  ·intro w'
   apply Eq.trans
   ·apply pg_eqop (p:=p) (q:=(List.replicate 288 255))
    ·rfl
    ·rfl
    ·rfl
    ·exact hp.out
    ·exact List.length_replicate
   ·rfl
  rotate_left
  ·simp only [Act.put,List.setIfInBounds_toArray,List.set_cons_zero,List.set_cons_succ,i64_w,i32_w]
   rfl
  refine zdo ?_
  rw [heb.out]
  go_wp2
  go_ret
  exact ⟨rfl,(by repeat (first|exact Below.refl _ _|with_reducible apply zlN|with_reducible apply zlA|refine below_step ?_ (Aside0.out (by assumption))))⟩
 ·rw [if_neg he] at H
  have hg_:=Option.bind_eq_some_iff.mp H;clear H;obtain ⟨⟨d1,d2,d3,d4,d5,d6⟩,F0,H⟩:=hg_;have hh_:=zm F0;clear F0;have F0:=hh_;clear hh_;(try dsimp only at H)
  obtain rfl:=Option.some.inj H
  have heb:decide (p=(List.replicate 288 255))=false:=decide_eq_false he
  have hh_:=zm heb;clear heb;have heb:=hh_;clear hh_
  clear he H
  go_enter Try.func20,Try.ntmps20
  go_wp2_with (first|((with_reducible refine gate_ (.box 29 _) rfl ?_);refine box_event rfl rfl (pg_box rfl rfl) ?_;rintro g1 hg w1 hbk hb;skip;clear hg;have hh_:=zm hbk;clear hbk;have hbk:=hh_;clear hh_;have hh_:=zm hb;clear hb;have hb:=hh_;clear hh_))
  refine Cw.dstart (by as_aux_lemma=>kernel_rfl) rfl (fun wd hb=>?_)
  have hh_:=zm hb;clear hb;have hb:=hh_;clear hh_
  refine Cw.dtk (i:=0) (v:=?_) (a':=?_) (by simp only [List.getElem?_toArray,List.getElem?_cons_succ,List.getElem?_cons_zero];rfl) rfl (by as_aux_lemma=>kernel_rfl) (by rfl) (by exact fun _ _ _ h=>h) ?_ (by repeat (first|exact Below.refl _ _|with_reducible apply zlN|with_reducible apply zlA|refine below_step ?_ (Aside0.out (by assumption)))) ?_ ?_
  rotate_left
  ·intro w' hs_
   have hs:=zm hs_
   clear hs_
   apply Eq.trans
   ·apply pg_load
    ·rfl
    ·rfl
    ·exact (zbB (Aside0.out (by assumption)) (by repeat (first|exact Below.refl _ _|with_reducible apply zlN|with_reducible apply zlA|refine below_step ?_ (Aside0.out (by assumption)))))
    ·exact hp.out
   ·rfl
  rotate_left
  ·simp only [Act.put,List.setIfInBounds_toArray,List.set_cons_zero,List.set_cons_succ,i64_w,i32_w]
   rfl
  refine Cw.done1 (i:=1) (N:=some 7) (by simp only [List.getElem?_toArray,List.getElem?_cons_succ,List.getElem?_cons_zero];rfl) rfl (by as_aux_lemma=>kernel_rfl) (fun K hK=>?_)
  refine goes_ Try.func24 (by as_aux_lemma=>kernel_rfl) rfl _ (by rfl) rfl rfl (by go_simp;rfl) ?_
  refine (page_Erased.calls _).mono ?_
  rintro e w1 ⟨rfl,hb⟩
  have hh_:=zm hb;clear hb;have hb:=hh_;clear hh_
  refine ⟨_,rfl,?_⟩
  refine hK.out _ _ (by repeat (first|exact Below.refl _ _|with_reducible apply zlN|with_reducible apply zlA|refine below_step ?_ (Aside0.out (by assumption)))) (fun _=>?_)
  clear hK K
  refine znm (some 7) ?_
  refine Cw.dpu (i:=2) (v:=?_) (a':=?_) (by simp only [List.getElem?_toArray,List.getElem?_cons_succ,List.getElem?_cons_zero];rfl) rfl (by as_aux_lemma=>kernel_rfl) (by rfl) (by exact fun _ _ _ h=>h) ?_ ?_ ?_
  rotate_left
  ·intro w'
   apply Eq.trans
   ·apply pg_eqop (p:=p) (q:=(List.replicate 288 255))
    ·rfl
    ·rfl
    ·rfl
    ·exact hp.out
    ·exact List.length_replicate
   ·rfl
  rotate_left
  ·simp only [Act.put,List.setIfInBounds_toArray,List.set_cons_zero,List.set_cons_succ,i64_w,i32_w]
   rfl
  refine zdo ?_
  rw [heb.out]
  go_wp2_with (first|((with_reducible refine gate_ (.load 29 _) rfl ?_);refine Kd.event_run rfl (pg_load rfl rfl (zbB (Aside0.out (by assumption)) (by repeat (first|exact Below.refl _ _|with_reducible apply zlN|with_reducible apply zlA|refine below_step ?_ (Aside0.out (by assumption))))) hp.out) ?_)|(go_at_call 14;refine (page_Decode.calls k p d1 d2 d3 d4 d5 d6 _ F0.out).mono ?_;rintro e wc ⟨v1,rfl,ho,hb⟩;have hh_:=zm ho;clear ho;have ho:=hh_;clear hh_;have hh_:=zm hb;clear hb;have hb:=hh_;clear hh_)|((with_reducible refine gate_ (.alloc 23) rfl ?_);refine Cw.box_store rfl rfl rfl rfl rfl rfl (by first|(go_simp;done)|(go_simp;rfl)) (by first|(go_simp;done)|(go_simp;rfl)) ?_;rintro g hg w1 hbk hb;clear hg;have hh_:=zm hbk;clear hbk;have hbk:=hh_;clear hh_;have hh_:=zm hb;clear hb;have hb:=hh_;clear hh_))
  go_ret
  exact ⟨rfl,(by repeat (first|exact Below.refl _ _|with_reducible apply zlN|with_reducible apply zlA|refine below_step ?_ (Aside0.out (by assumption))))⟩
end Go.Proofs.Ytdohpjjggjehfaa.Print
end
section
namespace Go.Proofs.Ytdohpjjggjehfaa.Print
open Go.RowKit Go.Proofs.YtdohpjjggjehfaaW.PrintWords Go.Proofs.YtdohpjjggjehfaaW.PrintLast Go.Proofs.YtdohpjjggjehfaaW.PrintMore
attribute [local go_sem] max2_int min2_int max_two min_two max_three min_three max_four min_four   -- for this text's walks alone
attribute [local go_sem ↓] Go.Proofs.Ytdohpjjggjehfaa.Sem.isSome_setCell
attribute [local go_sem] Go.Instr.field Go.asAgg
set_option linter.unusedVariables false
set_option linter.unusedSimpArgs false
-- CX
-- PG
def slipwaylaw03_live.f (k:Nat):Option Bool :=
 (page_Encode.f k 2 5 9 9 [97]).bind fun p=>if p.1.length=288 then if p.2=0 then (bytes_Equal.f ((p.1.drop 256).take 14) [2,0,0,0,0,5,0,0,0,0,0,0,0,9]).bind fun t=>if t=true then if rd p.1 ((0:Nat):Int)=97 then (page_State.f k p.1).bind fun s=>if s=0 then (page_State.f k (List.replicate 288 255)).bind fun u=>if u=10 then some true else none
 else none else none else none else none else none
theorem pg_beq (A0:Option Addr) (c0 n0:Nat) (l0:List Int) (A1:Option Addr) (c1 n1:Nat) (l1:List Int) (r:Bool) (w:World) (e0:l0.length=n0) (e1:l1.length=n1) (hr0:Kd.C (Kd.int .u8) w A0 n0 l0) (hc0:n0≤c0) (hr1:Kd.C (Kd.int .u8) w A1 n1 l1) (hc1:n1≤c1) (h:bytes_Equal.f l0 l1=some r) :
  Calls Try.prog 16 #[.slice A0 n0 c0,.slice A1 n1 c1] w fun e w'=>e=.returned (.bool r)∧Below w.heap.size w w':=by
 subst e0 e1
 refine (bytes_Equal.calls A0 c0 l0 A1 c1 l1 r w hr0 hc0 hr1 hc1 h).mono ?_
 rintro e w' ⟨rfl,hd⟩
 exact ⟨rfl,by first|exact hd|exact Drawn0.below hd⟩
set_option maxHeartbeats 4000000 in
set_option maxRecDepth 100000 in
theorem slipwaylaw03_live.calls (k:Nat) (r:Bool) (w:World) (h:slipwaylaw03_live.f k=some r) :
  Calls Try.prog 9 #[] w fun e w'=>e=.returned (.bool r)∧Below w.heap.size w w':=by
 have hu29:=Try.underlying29
 have hu23:=Try.underlying23
 have H:slipwaylaw03_live.f k=some r:=h
 clear h
 unfold slipwaylaw03_live.f at H
 have hg_:=Option.bind_eq_some_iff.mp H;clear H;obtain ⟨⟨p,pe⟩,F0,H⟩:=hg_;have hh_:=zm F0;clear F0;have F0:=hh_;clear hh_;(try dsimp only at H);have hg_:=Cw.gt_ H;clear H;obtain ⟨hp,H⟩:=hg_;have hg_:=Cw.gt_ H;clear H;obtain ⟨rfl,H⟩:=hg_;have hg_:=Option.bind_eq_some_iff.mp H;clear H;obtain ⟨t,F1,H⟩:=hg_;have hh_:=zm F1;clear F1;have F1:=hh_;clear hh_;(try dsimp only at H);have hg_:=Cw.gt_ H;clear H;obtain ⟨rfl,H⟩:=hg_;have hg_:=Cw.gt_ H;clear H;obtain ⟨h97,H⟩:=hg_;have hg_:=Option.bind_eq_some_iff.mp H;clear H;obtain ⟨s,F2,H⟩:=hg_;have hh_:=zm F2;clear F2;have F2:=hh_;clear hh_;(try dsimp only at H);have hg_:=Cw.gt_ H;clear H;obtain ⟨rfl,H⟩:=hg_;have hg_:=Option.bind_eq_some_iff.mp H;clear H;obtain ⟨u,F3,H⟩:=hg_;have hh_:=zm F3;clear F3;have F3:=hh_;clear hh_;(try dsimp only at H);have hg_:=Cw.gt_ H;clear H;obtain ⟨rfl,H⟩:=hg_
 obtain rfl:=Option.some.inj H
 clear H
 have hh_:=zm hp;clear hp;have hp:=hh_;clear hh_;have hh_:=zm h97;clear h97;have h97:=hh_;clear hh_
 go_enter Try.func9,Try.ntmps9
 go_wp2_with (first|((with_reducible refine gate_ (.buildSlice 24 1 _) rfl ?_);refine pg_const rfl rfl rfl rfl rfl (fun _=>rfl) ?_;rintro gl hg w1 hcl hb;clear hg;have hh_:=zm hcl;clear hcl;have hcl:=hh_;clear hh_;have hh_:=zm hb;clear hb;have hb:=hh_;clear hh_)|(go_at_call 10;refine (page_Encode.calls k 2 5 9 9 (some ⟨gl,0,none⟩) 1 [97] p 0 _ hcl.out (by simp) F0.out).mono ?_;rintro e w1 ⟨rfl,hb⟩;have hh_:=zm hb;clear hb;have hb:=hh_;clear hh_)|((with_reducible refine gate_ (.alloc 29) rfl ?_);refine box_event rfl rfl (pg_new rfl) ?_;rintro g1 hg w1 hbk hb;have hge:Aside0 (w.heap.size≤g1):=⟨by rw [hg];exact below_size (by repeat (first|exact Below.refl _ _|with_reducible apply zlN|with_reducible apply zlA|refine below_step ?_ (Aside0.out (by assumption))))⟩;clear hg;have hh_:=zm hbk;clear hbk;have hbk:=hh_;clear hh_;have hh_:=zm hb;clear hb;have hb:=hh_;clear hh_)|((with_reducible refine gate_ (.store 29 _ _) rfl ?_);refine pg_put (g:=g1) (q:=p) rfl rfl (pg_store rfl rfl rfl (zbB (Aside0.out (by assumption)) (by repeat (first|exact Below.refl _ _|with_reducible apply zlN|with_reducible apply zlA|refine below_step ?_ (Aside0.out (by assumption))))) pz_len hp.out) (zbB (Aside0.out (by assumption)) (by repeat (first|exact Below.refl _ _|with_reducible apply zlN|with_reducible apply zlA|refine below_step ?_ (Aside0.out (by assumption))))) ?_;rintro w2 hq hfar hbel;have hb2:Aside0 (Below w.heap.size w w2):=⟨hbel _ _ (by repeat (first|exact Below.refl _ _|with_reducible apply zlN|with_reducible apply zlA|refine below_step ?_ (Aside0.out (by assumption)))) hge.out⟩;clear hfar hbel;have hh_:=zm hq;clear hq;have hq:=hh_;clear hh_)|((with_reducible refine gate_ (.buildSlice 24 14 _) rfl ?_);((with_reducible refine Cw.guarded rfl ?gw ?_);(case gw=>first|rfl|(go_simp;done));dsimp only);refine pg_made (fun g=>.slice (some ⟨g,0,none⟩) 14 14) rfl (cs:=#[.int .u8 2,.int .u8 0,.int .u8 0,.int .u8 0,.int .u8 0,.int .u8 5,.int .u8 0,.int .u8 0,.int .u8 0,.int .u8 0,.int .u8 0,.int .u8 0,.int .u8 0,.int .u8 9]) (t:=5) (by first|(go_simp;done)|(go_simp;rfl)) ?_;rintro gm hg w1 hbk hb;clear hg;have hh_:=zm hbk;clear hbk;have hbk:=hh_;clear hh_;have hh_:=zm hb;clear hb;have hb:=hh_;clear hh_)|((with_reducible refine gate_ (.load 5 _) rfl ?_);refine Kd.event_run rfl (v:=.int .u8 97) (by refine (pg_u8 (i:=0) rfl rfl (zbB (Aside0.out (by assumption)) (by repeat (first|exact Below.refl _ _|with_reducible apply zlN|with_reducible apply zlA|refine below_step ?_ (Aside0.out (by assumption))))) (by rw [hp.out];decide)).trans ?_;rw [h97.out]) ?_)|((with_reducible refine gate_ (.load 29 _) rfl ?_);refine Kd.event_run rfl (pg_load rfl rfl (zbB (Aside0.out (by assumption)) (by repeat (first|exact Below.refl _ _|with_reducible apply zlN|with_reducible apply zlA|refine below_step ?_ (Aside0.out (by assumption))))) hp.out) ?_)|(go_at_call 16;refine (pg_beq (some ⟨g1,256,none⟩) 32 14 ((p.drop 256).take 14) (some ⟨gm,0,none⟩) 14 14 [2,0,0,0,0,5,0,0,0,0,0,0,0,9] true _ (by rw [List.length_take,List.length_drop,hp.out];rfl) rfl (pg_C (zbB (Aside0.out (by assumption)) (by repeat (first|exact Below.refl _ _|with_reducible apply zlN|with_reducible apply zlA|refine below_step ?_ (Aside0.out (by assumption))))) (by rw [hp.out];decide) hp.out) (by decide) (Cw.C_ints (zbB (Aside0.out (by assumption)) (by repeat (first|exact Below.refl _ _|with_reducible apply zlN|with_reducible apply zlA|refine below_step ?_ (Aside0.out (by assumption))))) rfl (by simp)) (by decide) F1.out).mono ?_;rintro e w1 ⟨rfl,hb⟩;have hh_:=zm hb;clear hb;have hb:=hh_;clear hh_)|((with_reducible refine Cw.guarded rfl ?gw ?_);(case gw=>first|rfl|(go_simp;done));dsimp only))
 refine (page_State.calls k p 0 _ F2.out).mono ?_
 rintro e w1 ⟨rfl,hb⟩
 have hh_:=zm hb;clear hb;have hb:=hh_;clear hh_
 go_wp2_with (first|(go_at_call 24;refine (page_Erased.calls _).mono ?_;rintro e w1 ⟨rfl,hb⟩;have hh_:=zm hb;clear hb;have hb:=hh_;clear hh_)|((with_reducible refine Cw.guarded rfl ?gw ?_);(case gw=>first|rfl|(go_simp;done));dsimp only))
 refine (page_State.calls k (List.replicate 288 255) 10 _ F3.out).mono ?_
 rintro e w1 ⟨rfl,hb⟩
 have hh_:=zm hb;clear hb;have hb:=hh_;clear hh_
 go_wp2_with (first|((with_reducible refine Cw.guarded rfl ?gw ?_);(case gw=>first|rfl|(go_simp;done));dsimp only))
 go_ret
 exact ⟨rfl,(by repeat (first|exact Below.refl _ _|with_reducible apply zlN|with_reducible apply zlA|refine below_step ?_ (Aside0.out (by assumption))))⟩
end Go.Proofs.Ytdohpjjggjehfaa.Print
end
section
namespace Go.Proofs.Ytdohpjjggjehfaa.Print
open Go.RowKit Go.Proofs.YtdohpjjggjehfaaW.PrintWords Go.Proofs.YtdohpjjggjehfaaW.PrintLast Go.Proofs.YtdohpjjggjehfaaW.PrintMore
attribute [local go_sem] max2_int min2_int max_two min_two max_three min_three max_four min_four   -- for this text's walks alone
attribute [local go_sem ↓] Go.Proofs.Ytdohpjjggjehfaa.Sem.isSome_setCell
attribute [local go_sem] Go.Instr.field Go.asAgg
set_option linter.unusedVariables false
set_option linter.unusedSimpArgs false
-- NOT PRINTED: function 19 (slipwayref03_Decode)
-- NOT PRINTED: function 21 (slipwayref03_State)
-- NOT PRINTED: function 44 (page_each)
def seal_Mask.l0:Nat → List Int → List Int → Int → Int → Option (List Int)
 | 0,_,_,_,_=>none
 | k + 1,x1,x5,x10,x11=>if x11 < x10 then (if (x1.length:Int) > 0 then (if 0≤x11 then (if x11 < (x5.length:Int) then (if (x1.length:Int)=0 then (none) else (if 0≤(Int.tmod x11 (x1.length:Int)) then (if (Int.tmod x11 (x1.length:Int)) < (x1.length:Int) then (seal_Mask.l0 k x1 (x5.set (x11:Int).toNat (Go.bits .or .u8 (rd x5 x11) (rd x1 (Int.tmod x11 (x1.length:Int))))) x10 (wrap64 (x11 + 1))) else (none)) else (none))) else (none)) else (none)) else (seal_Mask.l0 k x1 x5 x10 (wrap64 (x11 + 1)))) else (some x5)
def seal_Mask.f (k:Nat) (l0:List Int) (l1:List Int):Option (List Int):=(slices_Clone_byte_byte.f l0).bind fun t259=>(seal_Mask.l0 k l1 t259 (t259.length:Int) 0)
def seal_Mask.T6:Bool × List (List Nat × List Nat):=(true,[([],[]),([],[]),([0,1],[0,1]),([2],[2]),([],[]),([],[]),([],[]),([6],[6]),([5,7],[5,7]),([4,8],[4,8]),([9],[9]),([3,10],[3,10]),([0,1,0,1,2,3,4,5,6,7,8,9,10,11],[0,1]),([12,11,0,1,2,3,4,5,6,7,8,9,10,11],[11,12])])
def seal_Mask.B6:List Nat:=[0,0,3,7,0,0,0,64,224,496,1008,2047,4095,8191]
theorem seal_Mask.tab6:rtab .any (opsOf Try.f45 6)=seal_Mask.T6:=by kernel_rfl
theorem seal_Mask.bits6:waitsOk seal_Mask.T6.2 seal_Mask.B6=true:=by kernel_rfl
set_option maxHeartbeats 8000000 in
set_option maxRecDepth 100000 in
theorem seal_Mask.calls (k:Nat) (A0:Option Addr) (c0:Nat) (l0:List Int) (A1:Option Addr) (c1:Nat) (l1:List Int) (r:List Int) (w:World) (hr0:Kd.C (Kd.int .u8) w A0 l0.length l0) (hc0:l0.length≤c0) (hr1:Kd.C (Kd.int .u8) w A1 l1.length l1) (hc1:l1.length≤c1) (h:seal_Mask.f k l0 l1=some r) :
  Calls Try.prog 45 #[.slice A0 l0.length c0,.slice A1 l1.length c1] w fun e w'=>∃ v0_:Value,e=.returned (v0_)∧Kd.R (Kd.int .u8) 5 w' w.heap.size (fun _=>True) v0_ r∧Below w.heap.size w w':=by
 have HR0:=zm hr0
 have HC0:=zm hc0
 clear hr0 hc0
 have HR1:=zm hr1
 have HC1:=zm hc1
 clear hr1 hc1
 have HB:=zm (Below.refl w.heap.size w)
 have H:((slices_Clone_byte_byte.f l0).bind fun t259=>(seal_Mask.l0 k l1 t259 (t259.length:Int) 0))=some r:=h
 clear h
 replace H:=Option.bind_eq_some_iff.mp H
 obtain ⟨t259,A30,H⟩:=H
 replace H:(seal_Mask.l0 k l1 t259 (t259.length:Int) 0)=some r:=H
 have A3:=zm A30
 clear A30
 have H':=zm H
 clear H
 go_enter Try.func45,Try.ntmps45
 go_wp2_with (first|((with_reducible refine gate_callee (f:=40) rfl ?_);refine goesL_ (some 8) rfl rfl Try.func40 (by kernel_rfl) rfl #[.slice A0 l0.length c0] rfl (by (try simp only [List.map_toArray,List.map_cons,List.map_nil]);first|done|rfl|(simp only [List.length_drop,List.length_take];rfl)) ?_;(with_reducible refine (slices_Clone_byte_byte.calls _ _ l0 t259 _ ?side1 ?side2 A3.out).mono ?_);(case side1=>repeat (first|exact HR0.out|(with_reducible refine Kd.C_alloc ?_ _)|(with_reducible refine Kd.C_drewN ?_ _)|(with_reducible refine Kd.C_drew ?_)));(case side2=>exact HC0.out);rintro e w4 ⟨v260,rfl,ho0,hb⟩;refine ⟨_,rfl,?_⟩;have n0_:=zm (Kd.R_lower ho0 (below_size (zb_)));have n1_:=zkH HB hb;clear HB;have HO261:=n0_;have HB:=n1_;clear n0_ n1_;(try clear hb);(try clear hb2);(try clear hk);(try clear hi);(try clear ho0);obtain ⟨Ao5,co5,eo5⟩:=Kd.R_slice HO261.out;subst eo5))
 go_loopg [11] k (fun kq v11 w'=>∃ (x5_1:List Int) (x11_1:Int),v11=.int .i64 x11_1∧Aside0 (seal_Mask.l0 kq l1 x5_1 (t259.length:Int) x11_1=some r)∧Aside0 (kq≤k)∧Aside0 (Kd.R (Kd.int .u8) 5 w' w.heap.size (fun _=>True) (.slice Ao5 t259.length co5) x5_1)∧Aside0 (Below w.heap.size w w'))
 case atStart=>exact ⟨(t259),(0),zs_,H',⟨Nat.le_refl _⟩,⟨by (with_reducible repeat (first|apply zrA|apply zrN|apply zrD));exact HO261.out⟩,⟨zb_⟩⟩
 case round =>
  clear H'
  try clear c1
  try clear p2
  try clear c4
  obtain ⟨x5_1,x11_1,rfl,HA,HK1,HO_5,HB⟩:=hrel
  have hl5_1:=(Kd.R_reads' HO_5.out).1
  rw [hl5_1] at HO_5
  (try simp only [hl5_1])
  cases gk with
  | zero=>exact absurd HA.out (by simp [seal_Mask.l0])
  | succ k1 =>
   have H:=HA.out
   clear HA
   simp only [seal_Mask.l0] at H
   by_cases c6:x11_1 < (t259.length:Int)
   ·rw [if_pos c6] at H
    have c6b0:decide (x11_1 < (t259.length:Int))=true:=decide_eq_true c6
    (try (have c6b0h:=c6b0;simp only [hl5_1] at c6b0h))
    clear c6
    by_cases c7:(l1.length:Int) > 0
    ·rw [if_pos c7] at H
     have c7b0:decide (0 < (l1.length:Int))=true:=decide_eq_true c7
     (try (have c7b0h:=c7b0;simp only [hl5_1] at c7b0h))
     have c7b1:decide (0 < l1.length)=true:=decide_eq_true (by omega)
     (try (have c7b1h:=c7b1;simp only [hl5_1] at c7b1h))
     clear c7
     by_cases c8:0≤x11_1
     ·rw [if_pos c8] at H
      have c8b0:decide (0≤x11_1)=true:=decide_eq_true c8
      clear c8
      by_cases c9:x11_1 < (x5_1.length:Int)
      ·rw [if_pos c9] at H
       have c9b0:decide (x11_1 < (x5_1.length:Int))=true:=decide_eq_true c9
       (try (have c9b0h:=c9b0;simp only [hl5_1] at c9b0h))
       clear c9
       by_cases c10:(l1.length:Int)=0
       ·rw [if_pos c10] at H
        exact absurd H (by simp)
       ·rw [if_neg c10] at H
        have c10b0:((l1.length:Int) == 0)=false:=beq_eq_false_iff_ne.mpr c10
        (try (have c10b0h:=c10b0;simp only [hl5_1] at c10b0h))
        have c10b1:((l1.length:Int) != 0)=true:=bne_iff_ne.mpr c10
        (try (have c10b1h:=c10b1;simp only [hl5_1] at c10b1h))
        have c10b2:¬ (l1=[]):=fun h_=>c10 (by rw [h_];rfl)
        obtain ⟨ji11,hji11⟩:∃ j_:Int,(Int.tmod x11_1 (l1.length:Int))=j_:=⟨_,rfl⟩
        replace H:(if 0≤(ji11) then (if (ji11) < (l1.length:Int) then (seal_Mask.l0 k1 l1 (x5_1.set (x11_1:Int).toNat (Go.bits .or .u8 (rd x5_1 x11_1) (rd l1 (ji11)))) (t259.length:Int) (wrap64 (x11_1 + 1))) else (none)) else (none))=some r:=by first|(rw [hji11] at H;exact H)|(simp only [hji11] at H ⊢;exact H)
        by_cases c12:0≤(ji11)
        ·rw [if_pos c12] at H
         have c12b0:decide (0≤(ji11))=true:=decide_eq_true c12
         clear c12
         by_cases c13:(ji11) < (l1.length:Int)
         ·rw [if_pos c13] at H
          have c13b0:decide ((ji11) < (l1.length:Int))=true:=decide_eq_true c13
          (try (have c13b0h:=c13b0;simp only [hl5_1] at c13b0h))
          clear c13
          obtain ⟨y264,hy264⟩:∃ y_:List Int,y_=(x5_1.set (x11_1:Int).toNat (Go.bits .or .u8 (rd x5_1 x11_1) (rd l1 (ji11)))):=⟨_,rfl⟩
          replace H:(seal_Mask.l0 k1 l1 y264 (t259.length:Int) (wrap64 (x11_1 + 1)))=some r:=by first|(rw [hy264];with_reducible exact H)|(have H2_:=(Option.bind_some _ _).symm.trans H;rw [hy264];with_reducible exact H2_)|(have H2_:=(Option.bind_some _ _).symm.trans H;with_reducible exact H2_)|with_reducible exact H|(rw [hy264];exact H)|exact H
          have Ny264:=zm hy264
          clear hy264
          have H':=zm H
          clear H
          try go_wp2
          have n0_:=zm (zrD HO_5.out)
          have n1_:=zm (zlD HB.out)
          clear HO_5 HB
          have HO_5:=n0_
          have HB:=n1_
          clear n0_ n1_
          have p262:0≤(x11_1:Int):=za_
          have q262:x11_1 < (x5_1.length:Int):=za_
          obtain ⟨ad262,e262,hx262_0⟩:=Kd.at_int (Kd.R_reads' HO_5.out).2.2 x11_1 p262 q262
          cases e262
          replace p262:=eq_true p262
          replace q262:=eq_true q262
          have p263:0≤((ji11):Int):=za_
          have q263:(ji11) < (l1.length:Int):=za_
          obtain ⟨ad263,e263,hx263_0⟩:=Kd.at_int HR1.out (ji11) p263 q263
          have hw263_0:=hx263_0
          cases e263
          replace hx263_0:=zhx HB hx263_0
          replace p263:=eq_true p263
          replace q263:=eq_true q263
          have p14:0≤(x11_1:Int):=za_
          have q14:(x11_1:Int) < ((x5_1.length:Int):Int):=za_
          obtain ⟨go14,co14,eo14,gb14,gl14,cl14,HG14⟩:=Kd.R_form HO_5.out (by omega)
          (first|cases eo14|(injection eo14 with ea_ en_ ec_;(first|subst ea_|(injection ea_ with ea_;subst ea_));subst ec_;clear en_))
          have GB14:=zm gb14
          have GG14:=zm HG14
          clear gb14 gl14 HG14
          (first|simp only [add_plain] at hx262_0|skip)
          obtain ⟨hx14_0,hf14_0⟩:=Kd.R_celln 0 HO_5.out (x11_1:Int) p14 q14
          replace p14:=eq_true p14
          replace q14:=eq_true q14
          have HP16:=Kd.R_putn HO_5.out (x11_1:Int) (Go.bits .or .u8 (rd x5_1 x11_1) (rd l1 (ji11)))
          rw [← Ny264.out] at HP16
          have HQ16:=zm HP16
          clear HP16
          refine start_ (n:=14) (S:=fun w'=>w'.cell? ⟨go14,(x11_1).toNat,none⟩=some (.int .u8 (rd x5_1 x11_1))∧w'.cell? (ad263.add ((ji11)).toNat)=some (.int .u8 (rd l1 (ji11)))) (ds:=[13]) (Array.replicate 14 false) (by kernel_rfl) rfl rfl ⟨hx262_0,(zhx HB hw263_0)⟩ (fun hHeld=>?_);refine with_tabW seal_Mask.tab6 seal_Mask.bits6 (fun HT_ HW_=>?_)
          generalize wr.drew=w15 at HO_5 HB GG14 HQ16 hf14_0 hx14_0 hx262_0 hx263_0 hHeld ⊢
          refine zpu 0 ?_
          refine zpu 1 ?_
          refine zpu 2 ?_
          refine zpu 4 ?_
          refine zpu 5 ?_
          refine zpu 6 ?_
          refine zpu 7 ?_
          refine zpu 8 ?_
          refine zpu 9 ?_
          refine zta 3 hHeld ?_
          refine zta 10 hHeld ?_
          refine zpu 11 ?_
          refine zpu 12 ?_
          refine zla 13 none (fun K hK=>?_)
          refine skip_ (w1:=?_) (by rfl) rfl ?_ ?_
          rotate_left
          ·go_simp
           rfl
          refine hK.out _ _ ?_
          clear hK K
          refine zdo ?_
          try go_wp2
          (try simp only [← hl5_1])
          go_roundg k1
          case measure=>have:=HK1.out;omega
          case rel=>exact ⟨(y264),(wrap64 (x11_1 + 1)),zs_,H',⟨by have:=HK1.out;omega⟩,⟨by (try simp only [hl5_1]);(with_reducible repeat (first|apply zrA|apply zrN|apply zrD));exact HQ16.out⟩,⟨by repeat (first|(with_reducible first|exact HB.out|apply zlA|apply zlN|apply zlD|refine zlS ?_ GB14.out)|exact HB.out)⟩⟩
         ·rw [if_neg c13] at H
          exact absurd H (by simp)
        ·rw [if_neg c12] at H
         exact absurd H (by simp)
      ·rw [if_neg c9] at H
       exact absurd H (by simp)
     ·rw [if_neg c8] at H
      exact absurd H (by simp)
    ·rw [if_neg c7] at H
     have c7b0:decide (0 < (l1.length:Int))=false:=decide_eq_false c7
     (try (have c7b0h:=c7b0;simp only [hl5_1] at c7b0h))
     have c7b1:decide (0 < l1.length)=false:=decide_eq_false (by omega)
     (try (have c7b1h:=c7b1;simp only [hl5_1] at c7b1h))
     clear c7
     have H':=zm H
     clear H
     go_wp2
     (try simp only [← hl5_1])
     go_roundg k1
     case measure=>have:=HK1.out;omega
     case rel=>exact ⟨(x5_1),(wrap64 (x11_1 + 1)),zs_,H',⟨by have:=HK1.out;omega⟩,⟨by (try simp only [hl5_1]);(with_reducible repeat (first|apply zrA|apply zrN|apply zrD));exact HO_5.out⟩,⟨zb_⟩⟩
   ·rw [if_neg c6] at H
    have c6b0:decide (x11_1 < (t259.length:Int))=false:=decide_eq_false c6
    (try (have c6b0h:=c6b0;simp only [hl5_1] at c6b0h))
    clear c6
    obtain rfl:=Option.some.inj H
    go_wp2
    go_ret
    exact ⟨_,ze_,by (with_reducible repeat (first|apply zrA|apply zrN|apply zrD));exact HO_5.out,zb_⟩
end Go.Proofs.Ytdohpjjggjehfaa.Print
end
section
namespace Go.Proofs.Ytdohpjjggjehfaa.Print
open Go.RowKit Go.Proofs.YtdohpjjggjehfaaW.PrintWords Go.Proofs.YtdohpjjggjehfaaW.PrintLast Go.Proofs.YtdohpjjggjehfaaW.PrintMore
attribute [local go_sem] max2_int min2_int max_two min_two max_three min_three max_four min_four   -- for this text's walks alone
attribute [local go_sem ↓] Go.Proofs.Ytdohpjjggjehfaa.Sem.isSome_setCell
attribute [local go_sem] Go.Instr.field Go.asAgg
set_option linter.unusedVariables false
set_option linter.unusedSimpArgs false
-- CX
-- PG
-- RANGEFUNC
section
open Go.Shelf
attribute [local go_sem] Oper.semAt_some
def KpO (bx br:Nat) (A B:World):Prop:=∀ g o,g≠bx → g≠br → A.heap[g]?=some o → o.isCells=true → B.heap[g]?=some o
def eenc (x:Int):Array Value:=#[.int .u8 x]
theorem pe_w {q n:Nat} (h:q < n) (h2:n=288):wrap64 ((q:Int) + 1)=(q:Int) + 1:=by
 unfold wrap64
 omega
theorem pe_m {q n:Nat} (h:q < n):n - (intOf (.int .i64 ((q:Int) + 1))).toNat < n - (intOf (.int .i64 (q:Int))).toNat:=by
 simp [intOf]
 omega
theorem pe_grown {A B:World} (h:Below A.heap.size A B):A.grownBy B none:=⟨h.os,h.tape,h.output,h.size,fun k hk _=>h.block k hk⟩
theorem pe_kept {A B:World} {bx br base:Nat} {ok:Nat → Prop} {v:Value} {xs:List Int} (hk:KpO bx br A B) (h1:bx < base) (h2:br < base) (h:(Kd.int .u8).R 5 A base ok v xs):(Kd.int .u8).R 5 B base ok v xs :=
 Kd.R_mono (Kd.R_move (Kd.R_bound h) (fun g hg=>by
  obtain ⟨_,hge,_,_,_,cells,hc⟩:=hg
  exact (hk g _ (by omega) (by omega) hc rfl).trans hc.symm)) (fun _ hg=>hg.1)
set_option maxHeartbeats 4000000 in
set_option maxRecDepth 100000 in
theorem pe_stops (k:Nat) (p bts:List Int) (hp:p.length=288) (hcat:slices_Concat_byte_byte.f k [(p.drop 0).take 256,(p.drop 256).take 32]=some bts) (hbl:bts.length=288) (n:Nat) (hn:1≤n) (Bs bx br:Nat) (w:World)
  (hBs:w.heap[Bs]?=some (.cells (pc p) 29 (0,0))) (h3:bx < w.heap.size) (h4:br < w.heap.size) :
  SeqStopsK Fence.wide n Try.prog 63 #[.pointer (some ⟨Bs,0,none⟩)] eenc (KpO bx br) (fun xs=>xs=bts) (fun _=>True) bts.length w:=fun l J Jx W hW hJ hJx hY h0=>by
 have hlt:Bs < w.heap.size:=(Array.getElem?_eq_some_iff.1 hBs).1
 have hbx:=zm ((hW.block Bs hlt).trans hBs)
 have hsz:=hW.size
 have hh_:=zm hbl;clear hbl;have hbl:=hh_;clear hh_
 have hh_:=zm hp;clear hp;have hp:=hh_;clear hh_;have hh_:=zm hcat;clear hcat;have hcat:=hh_;clear hh_
 refine callsIn_of_wp Try.func63 rfl (by trivial) ?_ rfl
 simp only [Try.ntmps63,List.size_toArray,List.length_cons,List.length_nil,Nat.reduceAdd,Nat.reduceSub,Array.replicate_succ,Array.replicate_zero,List.push_toArray,List.append_toArray,List.nil_append,List.cons_append]
 refine wpIn_seq_k (fun K0 hK0=>?_)
 refine wpIn_wide.mpr ?_
 refine Cw.dstart (by as_aux_lemma=>kernel_rfl) rfl (fun wd hb=>?_)
 have hh_:=zm hb;clear hb;have hb:=hh_;clear hh_
 refine zpu 0 ?_
 refine zpu 1 ?_
 refine zpu 2 ?_
 refine zpu 3 ?_
 refine zpu 7 ?_
 refine Cw.done1 (i:=4) (N:=some 9) (by simp only [List.getElem?_toArray,List.getElem?_cons_succ,List.getElem?_cons_zero];rfl) rfl (by as_aux_lemma=>kernel_rfl) (fun K hK=>?_)
 refine Cw.dnew (fun g=>.slice (some ⟨g,0,none⟩) 2 2) (by rfl) rfl (by apply pg_lit2 <;> rfl) ?_
 rintro gz hg w1 hbk hb
 clear hg
 have hh_:=zm hbk;clear hbk;have hbk:=hh_;clear hh_;have hh_:=zm hb;clear hb;have hb:=hh_;clear hh_
 refine hK.out _ _ (by repeat (first|exact Below.refl _ _|with_reducible apply zlN|with_reducible apply zlA|refine below_step ?_ (Aside0.out (by assumption)))) (fun _=>?_)
 clear hK K
 refine znm (some 9) ?_
 refine Cw.done1 (i:=5) (N:=some 10) (by simp only [List.getElem?_toArray,List.getElem?_cons_succ,List.getElem?_cons_zero];rfl) rfl (by as_aux_lemma=>kernel_rfl) (fun K hK=>?_)
 refine goes_ Try.func32 (by as_aux_lemma=>kernel_rfl) rfl _ (by rfl) rfl rfl (by go_simp;rfl) ?_
 refine (slices_Concat_byte_byte.calls k (some ⟨gz,0,none⟩) 2 [(p.drop 0).take 256,(p.drop 256).take 32] bts _ (pg_two (n0:=256) (n1:=32) (by rw [List.length_take,List.length_drop,hp.out];rfl) (by rw [List.length_take,List.length_drop,hp.out];rfl) (zbB (Aside0.out (by assumption)) (by repeat (first|exact Below.refl _ _|with_reducible apply zlN|with_reducible apply zlA|refine below_step ?_ (Aside0.out (by assumption))))) (pg_C (zbB (Aside0.out (by assumption)) (by repeat (first|exact Below.refl _ _|with_reducible apply zlN|with_reducible apply zlA|refine below_step ?_ (Aside0.out (by assumption))))) (by rw [hp.out];decide) hp.out) (by decide) (pg_C (zbB (Aside0.out (by assumption)) (by repeat (first|exact Below.refl _ _|with_reducible apply zlN|with_reducible apply zlA|refine below_step ?_ (Aside0.out (by assumption))))) (by rw [hp.out];decide) hp.out) (by decide)) (by simp) hcat.out).mono ?_
 rintro e w1 ⟨vb,rfl,ho,hb⟩
 obtain ⟨Ab,cbb,rfl⟩:=Kd.R_slice ho
 replace ho:=Kd.R_lower ho (show W.heap.size≤_ from below_size (w:=W) (by repeat (first|exact Below.refl _ _|with_reducible apply zlN|with_reducible apply zlA|refine below_step ?_ (Aside0.out (by assumption)))))
 have hh_:=zm ho;clear ho;have ho:=hh_;clear hh_
 have hh_:=zm hb;clear hb;have hb:=hh_;clear hh_
 refine ⟨_,rfl,?_⟩
 refine hK.out _ _ (by repeat (first|exact Below.refl _ _|with_reducible apply zlN|with_reducible apply zlA|refine below_step ?_ (Aside0.out (by assumption)))) (fun _=>?_)
 clear hK K
 refine znm (some 10) ?_
 refine zpu 6 ?_
 refine zdo ?_
 refine hK0 _ _ ?_
 clear hK0 K0
 have hJ1:=hJ [] W w1 none h0 (pe_grown (by repeat (first|exact Below.refl _ _|with_reducible apply zlN|with_reducible apply zlA|refine below_step ?_ (Aside0.out (by assumption))))) (fun r e=>by cases e)
 have hcb:bts.length≤cbb:=(Kd.R_reads' ho.out).2.1
 have hR:=ho.out
 clear h0
 gi_wp2
 gi_loopw [12] (fun i wr=>∃ q:Nat,q≤bts.length∧i=.int .i64 q∧J (bts.take q) wr∧Kd.R (Kd.int .u8) 5 wr W.heap.size (fun _=>True) (.slice Ab bts.length cbb) bts) (fun i _=>bts.length - (intOf i).toNat)
 case atStart=>exact ⟨0,Nat.zero_le _,rfl,hJ1,hR⟩
 case round =>
  obtain ⟨q,hq,rfl,hJs,hRr⟩:=hrel
  have hC:=(Kd.R_reads' hRr).2.2
  by_cases hlq:q < bts.length
  ·have hjn:0≤(q:Int):=by omega
   have hwr:wrap64 ((q:Int) + 1)=(q:Int) + 1:=pe_w hlq hbl.out
   have hj3:(q:Int) < (bts.length:Int):=by omega
   obtain ⟨ad,hA,hx⟩:=Kd.at_int hC (q:Int) hjn hj3
   subst hA
   rw [Int.toNat_natCast] at hx
   have hb0:decide ((q:Int) < (bts.length:Int))=true:=decide_eq_true hj3
   obtain ⟨fn,tmps,assign,body,hy,hR2⟩:=hY _ (rd bts (q:Int)) _ hJs (by rw [List.length_take];omega)
   dsimp only [eenc] at hy
   gi_wp2
   refine hR2.mono ?_
   rintro e w3 (⟨rfl,hJ3,hk3⟩|⟨rfl,hx3⟩)
   ·gi_wp2
    go_roundw
    case rel=>exact ⟨q + 1,by omega,by rw [hwr];rfl,by rw [List.take_add_one,List.getElem?_eq_getElem hlq];simpa [rd,List.getD_eq_getElem?_getD,hlq] using hJ3,pe_kept hk3 (by omega) (by omega) hRr⟩
    case measure=>rw [hwr];exact pe_m hlq
   ·gi_wp2
    refine bodyPost_ret (results_none rfl _ _ _) rfl ?_
    exact ⟨⟨_,rfl⟩,.inr ⟨_,trivial,hx3⟩⟩
  ·obtain rfl:q=bts.length:=by omega
   have hb0:decide ((bts.length:Int) < (bts.length:Int))=false:=decide_eq_false (by omega)
   gi_wp2
   go_end0
   exact ⟨⟨_,rfl⟩,.inl ⟨_,rfl,by rw [List.take_length] at hJs;exact hJs⟩⟩
set_option maxHeartbeats 4000000 in
set_option maxRecDepth 100000 in
theorem pt_each (p:List Int) (hp:p.length=288) (W:World):Calls Try.prog 44 #[.agg (pc p)] W fun e w'=>∃ g:Nat,e=.returned (.func (.func 63) #[] #[.pointer (some ⟨g,0,none⟩)])∧g=W.heap.size∧w'.heap[g]?=some (.cells (pc p) 29 (0,0))∧Below W.heap.size W w':=by
 go_enter Try.func44,Try.ntmps44
 go_wp2_with (first|((with_reducible refine gate_ (.box 29 _) rfl ?_);refine box_event rfl rfl (pg_box rfl rfl) ?_;rintro g1 hg w1 hbk hb;have hh_:=zm hg;clear hg;have hg:=hh_;clear hh_;have hh_:=zm hbk;clear hbk;have hbk:=hh_;clear hh_;have hh_:=zm hb;clear hb;have hb:=hh_;clear hh_))
 go_ret
 exact ⟨g1,rfl,hg.out,hbk.out,hb.out⟩
theorem pt_info:(Try.prog.info? 5).map (fun i=>(i.zero,i.size,i.bytes))=some (some (.int .u8 0),1,1):=by kernel_rfl
theorem pt_zero:madeCells (Value.int .u8 0).cells (288 * 1)=pc pz:=by kernel_rfl
theorem pt_make {o:Oper} {a:Act} {W:World} (hop:o.op=.makeSlice 24 (.const (.int .i64 0)) (.const (.int .i64 288))):(execOp a.eval o).run Try.prog W=.ok (.value (.slice (some ⟨W.heap.size,0,none⟩) 0 288)) (W.alloc (.cells (pc pz) 5 (0,0))):=by
 obtain ⟨i,hi,e⟩:=Option.map_eq_some_iff.1 pt_info
 obtain ⟨hz,hs,hby⟩:i.zero=some (.int .u8 0)∧i.size=1∧i.bytes=1:=by
  simp only [Prod.mk.injEq] at e
  exact e
 have h:=run_makeSlice (P:=Try.prog) W 24 5 i (.int .u8 0) Try.underlying24 hi hz .i64 .i64 0 288 (by decide) (by decide) (by rw [hs];decide) (by rw [hby];decide) (by decide)
 rw [hs] at h
 have e2:madeCells (Value.int .u8 0).cells ((288:Int).toNat * 1)=pc pz:=pt_zero
 rw [e2] at h
 simp only [execOp,hop]
 have e0:a.eval (.const (.int .i64 0))=.int .i64 0:=rfl
 have e1:a.eval (.const (.int .i64 288))=.int .i64 288:=rfl
 simp [e0,e1,h]
 done
def fz (l:List Int):List Int:=l ++ List.replicate (288 - l.length) 0
theorem fz_full {l:List Int} (h:l.length=288):fz l=l:=by unfold fz;rw [h,Nat.sub_self,List.replicate_zero,List.append_nil]
theorem fz_get {l:List Int} (h:l.length < 288):(fz l)[l.length]?=some 0:=by
 unfold fz
 rw [List.getElem?_append_right (Nat.le_refl _),Nat.sub_self,List.getElem?_replicate,if_pos (by omega)]
theorem fz_set {l:List Int} {x:Int} (h:l.length < 288):(fz l).set l.length x=fz (l ++ [x]):=by
 unfold fz
 obtain ⟨d,hd⟩:∃ d,288 - l.length=d + 1:=⟨288 - l.length - 1,by omega⟩
 have hd':288 - (l ++ [x]).length=d:=by rw [List.length_append,List.length_singleton];omega
 rw [hd,hd',List.set_append_right _ _ (Nat.le_refl _),Nat.sub_self,List.replicate_succ,List.set_cons_zero,List.append_assoc]
 rfl
theorem pt_ld24 {o:Oper} {a:Act} {W:World} {x:Operand} {g n c:Nat} {A:Option Addr} (hop:o.op=.load 24 x) (hx:a.eval x=.pointer (some ⟨g,0,none⟩)) (hb:W.heap[g]?=some (.cells #[.slice A n c] 24 (0,0))):(execOp a.eval o).run Try.prog W=.ok (.value (.slice A n c)) W:=by
 have c0:W.cell? ⟨g,0,none⟩=some (.slice A n c):=(blk_cell hb 0).trans rfl
 have hu:=Try.underlying24
 simp only [execOp,hop,hx]
 go_simp
theorem pt_farO {w:World} {g:Nat} {o:Obj} (h:w.heap[g]?=some o) {p:Addr} (hp:g≠p.block) (u:Value):(w.setCell p u).heap[g]?=some o:=(RowKit.Below.heap_setCell _ _ _ _ hp).trans h
theorem pt_gen {c:Code} {P:Program} {Q:Exit → Act → World → Prop} {a:Act} {W:World} (F:World → Prop) (hF:F W) (h:∀ W0,F W0 → c.wp P Q a W0):c.wp P Q a W:=h _ hF
theorem pt_genIn {c:Code} {n:Nat} {P:Program} {Q:Exit → Act → World → Prop} {a:Act} {W:World} (F:World → Prop) (hF:F W) (h:∀ W0,F W0 → c.wpIn Fence.wide n P Q a W0):c.wpIn Fence.wide n P Q a W:=h _ hF
def pt_onlyN (G:Exit → Act → World → Prop):Exit → Act → World → Prop
 | .normal,a,w=>G .normal a w
 | _,_,_=>False
theorem pt_only {P:Program} {c:Code} {a:Act} {w:World} {G:Exit → Act → World → Prop} (h:c.wp P (pt_onlyN G) a w):c.wp P G a w :=
 (wpIn_wide (n:=1)).mp (wpIn_mono ((wpIn_wide (n:=1)).mpr h) (fun e a w hq=>by cases e <;> first|exact hq|exact hq.elim))
theorem pt_splice {p d:List Int} (hp:p.length=288) (hd:d.length=288):splice (splice p 0 (d.take 256)) 256 ((d.drop 256).take 32)=d:=by
 have h1:(d.take 256).length=256:=by rw [List.length_take];omega
 have h2:(d.drop 256).take 32=d.drop 256:=List.take_of_length_le (by rw [List.length_drop];omega)
 have h3:(d.drop 256).length=32:=by rw [List.length_drop];omega
 have h4:(p.drop 256).length=32:=by rw [List.length_drop];omega
 have e1:(d.take 256 ++ p.drop 256).take 256=d.take 256:=by
  rw [List.take_append_of_le_length (by omega)]
  exact List.take_of_length_le (by omega)
 have e2:(d.take 256 ++ p.drop 256).drop (256 + 32)=[]:=List.drop_eq_nil_of_le (by rw [List.length_append];omega)
 simp only [splice,h1,h2,h3,List.take_zero,List.nil_append,Nat.zero_add]
 rw [e1,e2,List.append_nil,List.take_append_drop]
def page_Tear.f (k:Nat) (p l1:List Int):Option (List Int) :=
 if p.length=288 then (slices_Concat_byte_byte.f k [(p.drop 0).take 256,(p.drop 256).take 32]).bind fun b=>if b.length=288 then (seal_Mask.f k b l1).bind fun d=>if d.length=288 then some d else none else none else none
set_option maxHeartbeats 4000000 in
set_option maxRecDepth 100000 in
theorem page_Tear.calls (k:Nat) (p:List Int) (A1:Option Addr) (c1:Nat) (l1:List Int) (r:List Int) (w:World) (hr1:Kd.C (Kd.int .u8) w A1 l1.length l1) (hc1:l1.length≤c1) (h:page_Tear.f k p l1=some r) :
  Calls Try.prog 22 #[.agg (pc p),.slice A1 l1.length c1] w fun e w'=>e=.returned (.agg (pc r))∧Below w.heap.size w w':=by
 have hu29:=Try.underlying29
 have hu24:=Try.underlying24
 have H:page_Tear.f k p l1=some r:=h
 clear h
 have hh_:=zm hr1;clear hr1;have hr1:=hh_;clear hh_;have hh_:=zm hc1;clear hc1;have hc1:=hh_;clear hh_
 unfold page_Tear.f at H
 have hg_:=Cw.gt_ H;clear H;obtain ⟨hp,H⟩:=hg_;have hg_:=Option.bind_eq_some_iff.mp H;clear H;obtain ⟨b,F0,H⟩:=hg_;have hh_:=zm F0;clear F0;have F0:=hh_;clear hh_;(try dsimp only at H);have hg_:=Cw.gt_ H;clear H;obtain ⟨hb9,H⟩:=hg_;have hg_:=Option.bind_eq_some_iff.mp H;clear H;obtain ⟨d,F1,H⟩:=hg_;have hh_:=zm F1;clear F1;have F1:=hh_;clear hh_;(try dsimp only at H);have hg_:=Cw.gt_ H;clear H;obtain ⟨hd,H⟩:=hg_
 obtain rfl:=Option.some.inj H
 clear H
 have hh_:=zm hp;clear hp;have hp:=hh_;clear hh_;have hh_:=zm hb9;clear hb9;have hb9:=hh_;clear hh_;have hh_:=zm hd;clear hd;have hd:=hh_;clear hh_
 refine (callsIn_wide (n:=3)).mp ?_
 refine callsIn_of_wp_marks Try.func22 rfl (by trivial) ?_ rfl
 refine wpIn_wide.mpr ?_
 simp only [Try.ntmps22,List.size_toArray,List.length_cons,List.length_nil,Nat.reduceAdd,Nat.reduceSub,Array.replicate_succ,Array.replicate_zero,List.push_toArray,List.append_toArray,List.nil_append,List.cons_append]
 go_wp2_with (first|((with_reducible refine gate_ (.box 29 _) rfl ?_);refine box_event rfl rfl (pg_box rfl rfl) ?_;rintro g2 hg w1 hbk hb;have hgeg2:Aside0 (w.heap.size≤g2):=⟨by rw [hg];exact below_size (by repeat (first|exact Below.refl _ _|with_reducible apply zlN|with_reducible apply zlA|refine below_step ?_ (Aside0.out (by assumption))))⟩;clear hg;have hh_:=zm hbk;clear hbk;have hbk:=hh_;clear hh_;have hh_:=zm hb;clear hb;have hb:=hh_;clear hh_)|((with_reducible refine gate_dst (N:=4) rfl ?_);(with_reducible refine gate_ (.alloc 29) rfl ?_);refine box_event rfl rfl (pg_new rfl) ?_;rintro g4 hg w1 hbk hb;have hgeg4:Aside0 (w.heap.size≤g4):=⟨by rw [hg];exact below_size (by repeat (first|exact Below.refl _ _|with_reducible apply zlN|with_reducible apply zlA|refine below_step ?_ (Aside0.out (by assumption))))⟩;have hltg4:Aside0 (g2 < g4):=⟨by rw [hg];exact blk_lt (g:=g2) (zbB (Aside0.out (by assumption)) (by repeat (first|exact Below.refl _ _|with_reducible apply zlN|with_reducible apply zlA|refine below_step ?_ (Aside0.out (by assumption)))))⟩;clear hg;have hh_:=zm hbk;clear hbk;have hbk:=hh_;clear hh_;have hh_:=zm hb;clear hb;have hb:=hh_;clear hh_)|((with_reducible refine gate_dst (N:=7) rfl ?_);refine pg_made (fun g=>.slice (some ⟨g,0,none⟩) 0 288) rfl (pt_make rfl) ?_;rintro gb hg w1 hbk hb;have hgegb:Aside0 (w.heap.size≤gb):=⟨by rw [hg];exact below_size (by repeat (first|exact Below.refl _ _|with_reducible apply zlN|with_reducible apply zlA|refine below_step ?_ (Aside0.out (by assumption))))⟩;have hltgb:Aside0 (g4 < gb):=⟨by rw [hg];exact blk_lt (g:=g4) (zbB (Aside0.out (by assumption)) (by repeat (first|exact Below.refl _ _|with_reducible apply zlN|with_reducible apply zlA|refine below_step ?_ (Aside0.out (by assumption)))))⟩;clear hg;have hh_:=zm hbk;clear hbk;have hbk:=hh_;clear hh_;have hh_:=zm hb;clear hb;have hb:=hh_;clear hh_)|((with_reducible refine gate_ (.alloc 24) rfl ?_);refine Cw.box_store rfl rfl rfl rfl rfl rfl (by first|(go_simp;done)|(go_simp;rfl)) (by first|(go_simp;done)|(go_simp;rfl)) ?_;rintro g5 hg w1 hbk hb;have hgeg5:Aside0 (w.heap.size≤g5):=⟨by rw [hg];exact below_size (by repeat (first|exact Below.refl _ _|with_reducible apply zlN|with_reducible apply zlA|refine below_step ?_ (Aside0.out (by assumption))))⟩;have hltg5:Aside0 (gb < g5):=⟨by rw [hg];exact blk_lt (g:=gb) (zbB (Aside0.out (by assumption)) (by repeat (first|exact Below.refl _ _|with_reducible apply zlN|with_reducible apply zlA|refine below_step ?_ (Aside0.out (by assumption)))))⟩;clear hg;have hh_:=zm hbk;clear hbk;have hbk:=hh_;clear hh_;have hh_:=zm hb;clear hb;have hb:=hh_;clear hh_)|((with_reducible refine gate_ (.load 29 _) rfl ?_);refine Kd.event_run rfl (pg_load rfl rfl (zbB (Aside0.out (by assumption)) (by repeat (first|exact Below.refl _ _|with_reducible apply zlN|with_reducible apply zlA|refine below_step ?_ (Aside0.out (by assumption))))) hp.out) ?_)|(go_at_call 44;refine (pt_each p hp.out _).mono ?_;rintro e w1 ⟨gA,rfl,hg,hbk,hb⟩;have hgegA:Aside0 (w.heap.size≤gA):=⟨by rw [hg];exact below_size (by repeat (first|exact Below.refl _ _|with_reducible apply zlN|with_reducible apply zlA|refine below_step ?_ (Aside0.out (by assumption))))⟩;have hltgA:Aside0 (g5 < gA):=⟨by rw [hg];exact blk_lt (g:=g5) (zbB (Aside0.out (by assumption)) (by repeat (first|exact Below.refl _ _|with_reducible apply zlN|with_reducible apply zlA|refine below_step ?_ (Aside0.out (by assumption)))))⟩;clear hg;have hh_:=zm hbk;clear hbk;have hbk:=hh_;clear hh_;have hh_:=zm hb;clear hb;have hb:=hh_;clear hh_))
 refine (wpIn_wide (n:=3)).mp ?_
 refine pt_genIn (fun W0=>W0.heap[g2]?=some (.cells (pc p) 29 (0,0))∧W0.heap[g4]?=some (.cells (pc pz) 29 (0,0))∧W0.heap[gb]?=some (.cells (pc (fz [])) 5 (0,0))∧W0.heap[g5]?=some (.cells #[.slice (some ⟨gb,0,none⟩) 0 288] 24 (0,0))∧W0.heap[gA]?=some (.cells (pc p) 29 (0,0))∧Below w.heap.size w W0) ⟨(zbB (Aside0.out (by assumption)) (by repeat (first|exact Below.refl _ _|with_reducible apply zlN|with_reducible apply zlA|refine below_step ?_ (Aside0.out (by assumption))))),(zbB (Aside0.out (by assumption)) (by repeat (first|exact Below.refl _ _|with_reducible apply zlN|with_reducible apply zlA|refine below_step ?_ (Aside0.out (by assumption))))),(show _=some (Obj.cells (pc pz) 5 (0,0)) from (zbB (Aside0.out (by assumption)) (by repeat (first|exact Below.refl _ _|with_reducible apply zlN|with_reducible apply zlA|refine below_step ?_ (Aside0.out (by assumption)))))),(zbB (Aside0.out (by assumption)) (by repeat (first|exact Below.refl _ _|with_reducible apply zlN|with_reducible apply zlA|refine below_step ?_ (Aside0.out (by assumption))))),(zbB (Aside0.out (by assumption)) (by repeat (first|exact Below.refl _ _|with_reducible apply zlN|with_reducible apply zlA|refine below_step ?_ (Aside0.out (by assumption))))),(by repeat (first|exact Below.refl _ _|with_reducible apply zlN|with_reducible apply zlA|refine below_step ?_ (Aside0.out (by assumption))))⟩ ?_
 rintro W0 ⟨K2,K4,Kb,K5,KA,KB⟩
 have n24:=hltg4.out
 have n4b:=hltgb.out
 have nb5:=hltg5.out
 have n5A:=hltgA.out
 have ge2:=hgeg2.out
 have sA:gA < W0.heap.size:=blk_lt KA
 refine wpIn_rangeFunc_ownH (F:=Fence.wide) rfl (by decide) (gf:=63) (lb:=#[.pointer (some ⟨gA,0,none⟩)]) rfl (by trivial) (enters_of Try.func63 (by kernel_rfl) rfl) (pe_stops k p b hp.out F0.out hb9.out 2 (by decide) gA g5 gb W0 KA (by omega) (by omega))
  (fun h1 h2 g o ha hb' hg ho=>h2 g o ha hb' (h1 g o ha hb' hg ho) ho) (fun W l o o' hl ho hc _ g q ha hb' hg hq=>by
   by_cases e:g=l
   ·subst e
    rw [ho] at hg
    cases hg
    rw [hc] at hq
    cases hq
   ·rw [World.putObj_heap_other (by omega)]
    exact hg) (Below.refl _ _) (fun _=>rfl)
  (fun pre W=>W.heap[g2]?=some (.cells (pc p) 29 (0,0))∧W.heap[g4]?=some (.cells (pc pz) 29 (0,0))∧W.heap[gb]?=some (.cells (pc (fz pre)) 5 (0,0))∧W.heap[g5]?=some (.cells #[.slice (some ⟨gb,0,none⟩) pre.length 288] 24 (0,0))∧Below w.heap.size w W∧W0.heap.size≤W.heap.size)
  (fun _ _ _=>False)
  (fun s A B row hs hg' hr=>by
   have blk:∀ (g:Nat) (o:Obj),g < W0.heap.size → A.heap[g]?=some o → B.heap[g]?=some o:=fun g o hl h=>(hg'.block _ (Array.getElem?_eq_some_iff.1 h).1 (fun e=>by have:=(hr _ e.symm).1;omega)).trans h
   exact ⟨blk _ _ (by omega) hs.1,blk _ _ (by omega) hs.2.1,blk _ _ (by omega) hs.2.2.1,blk _ _ (by omega) hs.2.2.2.1,hs.2.2.2.2.1.grown hg' hs.2.2.2.2.1.size (fun q e=>by have:=(hr q e).1;have:=KB.size;omega),Nat.le_trans hs.2.2.2.2.2 hg'.size⟩)
  (fun _ _ _ _ _ hs _ _=>hs)
  ⟨K2,K4,Kb,K5,KB,Nat.le_refl _⟩
  (fun x a' W=>a'={ tmps:=#[Value.agg (pc p),Value.slice A1 l1.length c1,Value.pointer (some ⟨g2,0,none⟩),undef,Value.pointer (some ⟨g4,0,none⟩),Value.pointer (some ⟨g5,0,none⟩),Value.int .u8 x,Value.slice (some ⟨gb,0,none⟩) 0 288,Value.agg (pc p),Value.func (Fn.func 63) #[] #[Value.pointer (some ⟨gA,0,none⟩)],Value.int .u8 x,undef,undef,undef,undef,undef,undef,undef,undef,undef,undef,undef,undef,undef,undef,undef,undef,undef],defers:=[] })
  (fun x a' s A B row hs hg' hr=>hs)
  ?assign ?body ?done ?stop
 case assign =>
  intro l pre x W K hI hK
  dsimp only [eenc]
  gi_wp2
  exact hK _ _ (KeepsFrom.refl _ _) (fun _ _ _ _ h _=>h) hI rfl
 case body =>
  rintro l pre x a' W hl hlr ⟨h2,h4,hb',h5,hBl,hsz⟩ rfl hpl
  rw [hb9.out] at hpl
  have hc5:W.cell? ⟨g5,0,none⟩=some (.slice (some ⟨gb,0,none⟩) pre.length 288):=(blk_cell h5 0).trans rfl
  have hf5:=blk_frozen h5 0
  have n5:g5 < W.heap.size:=blk_lt h5
  have hcb:W.cell? ⟨gb,pre.length,none⟩=some (.int .u8 0):=(blk_cell hb' pre.length).trans (by rw [pc_get,fz_get hpl];rfl)
  have hfb:=blk_frozen hb' pre.length
  have nb:gb < W.heap.size:=blk_lt hb'
  have hlr:pre.length + 1≤288:=hpl
  gi_wp2
  have hK3:=((KeepsOthers.setCell W ⟨gb,pre.length,none⟩ (.int .u8 x)).trans (KeepsOthers.setCell _ ⟨g5,0,none⟩ (.slice (some ⟨gb,0,none⟩) (pre.length + 1) 288))).trans (KeepsOthers.alloc _ (.cells #[.int .u8 x] 5 (0,0)))
  refine ⟨hK3.from _,fun g o ha hb hg _=>zbB (pt_farO (pt_farO hg hb _) ha _) (zlA (Below.refl _ _) _),zbA (blk_far (blk_far h2 (show g2≠gb by omega) _) (show g2≠g5 by omega) _) _,zbA (blk_far (blk_far h4 (show g4≠gb by omega) _) (show g4≠g5 by omega) _) _,?_,?_,zlA (zlS (zlS hBl hgegb.out) hgeg5.out) _,Nat.le_trans hsz hK3.size⟩
  ·rw [← fz_set hpl,← pc_set]
   exact zbA (blk_far (blk_put hb' _ _ rfl) (show gb≠g5 by omega) _) _
  ·rw [List.length_append]
   exact zbA (blk_put (blk_far h5 (show g5≠gb by omega) _) 0 _ rfl) _
 case done =>
  rintro D xs W hD hxs ⟨h2,h4,hb',h5,hBl,hsz⟩ hKD
  obtain rfl:b=xs:=hxs.symm
  rw [fz_full hb9.out] at hb'
  have hCb:Kd.C (Kd.int .u8) W (some ⟨gb,0,none⟩) b.length b:=by
   have:=pg_C (lo:=0) (m:=288) hb' (by rw [hb9.out];decide) hb9.out
   rw [List.drop_zero,List.take_of_length_le (by rw [hb9.out];decide)] at this
   rw [hb9.out]
   exact this
  have hDw:=hD
  have hc5:W.cell? ⟨g5,0,none⟩=some (.slice (some ⟨gb,0,none⟩) b.length 288):=(blk_cell h5 0).trans rfl
  clear K2 K4 Kb K5
  have s5:g5 < D:=by omega
  have hh_:=zm h2;clear h2;have h2:=hh_;clear hh_;have hh_:=zm h4;clear h4;have h4:=hh_;clear hh_;have hh_:=zm h5;clear h5;have h5:=hh_;clear hh_;have hh_:=zm hBl;clear hBl;have hBl:=hh_;clear hh_;have hh_:=zm hCb;clear hCb;have hCb:=hh_;clear hh_;have hh_:=zm hKD;clear hKD;have hKD:=hh_;clear hh_
  go_wp2_with (first|(go_at_call 45;refine (seal_Mask.calls k _ 288 b _ _ l1 d _ (Kd.C_below (Aside0.out (by assumption)) (by repeat (first|exact Below.refl _ _|with_reducible apply zlN|with_reducible apply zlA|refine below_step ?_ (Aside0.out (by assumption))))) (by have:=hb9.out;omega) (Kd.C_below (Aside0.out (by assumption)) (by repeat (first|exact Below.refl _ _|with_reducible apply zlN|with_reducible apply zlA|refine below_step ?_ (Aside0.out (by assumption))))) (Aside0.out (by assumption)) F1.out).mono ?_;rintro e w2 ⟨v,rfl,ho,hb⟩;obtain ⟨Ad,cd,rfl⟩:=Kd.R_slice ho;have hh_:=zm ho;clear ho;have ho:=hh_;clear hh_;have hh_:=zm hb;clear hb;have hb:=hh_;clear hh_;have hc5':w2.cell? ⟨g5,0,none⟩=some (.slice (some ⟨gb,0,none⟩) b.length 288):=(blk_cell (g:=g5) (zbB (Aside0.out (by assumption)) (by repeat (first|exact Below.refl _ _|with_reducible apply zlN|with_reducible apply zlA|refine below_step ?_ (Aside0.out (by assumption))))) 0).trans rfl;have hf5':=blk_frozen (w:=w2) (g:=g5) (cs:=#[.slice (some ⟨gb,0,none⟩) b.length 288]) (t:=24) (zbB (Aside0.out (by assumption)) (by repeat (first|exact Below.refl _ _|with_reducible apply zlN|with_reducible apply zlA|refine below_step ?_ (Aside0.out (by assumption))))) 0))
  have hgb:=zm (show w.heap.size≤D by omega)
  refine pt_gen (fun W3=>W3.heap[g2]?=some (.cells (pc p) 29 (0,0))∧W3.heap[g4]?=some (.cells (pc pz) 29 (0,0))∧W3.heap[g5]?=some (.cells #[.slice Ad d.length cd] 24 (0,0))∧Kd.R (Kd.int .u8) 5 W3 0 (fun _=>True) (.slice Ad d.length cd) d∧W3.heap[D]?=some (.deferred (some []))∧Below w.heap.size w W3) ⟨blk_far (zbB (Aside0.out (by assumption)) (by repeat (first|exact Below.refl _ _|with_reducible apply zlN|with_reducible apply zlA|refine below_step ?_ (Aside0.out (by assumption))))) (show g2≠g5 by omega) _,blk_far (zbB (Aside0.out (by assumption)) (by repeat (first|exact Below.refl _ _|with_reducible apply zlN|with_reducible apply zlA|refine below_step ?_ (Aside0.out (by assumption))))) (show g4≠g5 by omega) _,blk_put (cs:=#[.slice (some ⟨gb,0,none⟩) b.length 288]) (zbB (Aside0.out (by assumption)) (by repeat (first|exact Below.refl _ _|with_reducible apply zlN|with_reducible apply zlA|refine below_step ?_ (Aside0.out (by assumption))))) 0 _ rfl,Kd.R_lower (Kd.R_set ho.out (g:=g5) (t:=24) (cells:=#[.slice (some ⟨gb,0,none⟩) b.length 288]) (zbB (Aside0.out (by assumption)) (by repeat (first|exact Below.refl _ _|with_reducible apply zlN|with_reducible apply zlA|refine below_step ?_ (Aside0.out (by assumption))))) (by intro q hq;simp [Kd.int,Kd.scalar] at hq;omega) 0 _) (Nat.zero_le _),pt_farO (zbB hKD.out (by repeat (first|exact Below.refl _ _|with_reducible apply zlN|with_reducible apply zlA|refine below_step ?_ (Aside0.out (by assumption))))) (show D≠g5 by omega) _,zlS (by repeat (first|exact Below.refl _ _|with_reducible apply zlN|with_reducible apply zlA|refine below_step ?_ (Aside0.out (by assumption)))) hgeg5.out⟩ ?_
  clear hc5 hc5' hf5' hb h2 h4 h5 hBl hKD ho
  rintro W3 ⟨h2,h4,h5,hR,hKD,hBl⟩
  have hcd:=zm (Kd.R_reads' hR).2.1
  have hCd:=zm (Kd.R_reads' hR).2.2
  have hh_:=zm h2;clear h2;have h2:=hh_;clear hh_;have hh_:=zm h4;clear h4;have h4:=hh_;clear hh_;have hh_:=zm h5;clear h5;have h5:=hh_;clear hh_;have hh_:=zm hR;clear hR;have hR:=hh_;clear hh_;have hh_:=zm hKD;clear hKD;have hKD:=hh_;clear hh_;have hh_:=zm hBl;clear hBl;have hBl:=hh_;clear hh_
  refine pt_only ?_
  refine Cw.dstartD [3] (by as_aux_lemma=>kernel_rfl) rfl (fun wd hb=>?_)
  have hh_:=zm hb;clear hb;have hb:=hh_;clear hh_
  refine zpu 0 ?_
  refine zpu 1 ?_
  refine Cw.dtkD (i:=2) (v:=?_) (a':=?_) (by simp only [List.getElem?_toArray,List.getElem?_cons_succ,List.getElem?_cons_zero];rfl) rfl (by as_aux_lemma=>kernel_rfl) (by rfl) (by exact fun _ _ _ h=>h) ?_ (by repeat (first|exact Below.refl _ _|with_reducible apply zlN|with_reducible apply zlA|refine below_step ?_ (Aside0.out (by assumption)))) ?_ ?_
  rotate_left
  ·intro w' hs_
   have hs:=zm hs_
   clear hs_
   apply Eq.trans
   ·apply pt_ld24
    ·rfl
    ·rfl
    ·exact (zbB (Aside0.out (by assumption)) (by repeat (first|exact Below.refl _ _|with_reducible apply zlN|with_reducible apply zlA|refine below_step ?_ (Aside0.out (by assumption)))))
   ·rfl
  rotate_left
  ·simp only [Act.put,List.setIfInBounds_toArray,List.set_cons_zero,List.set_cons_succ,i64_w,i32_w]
   rfl
  refine Cw.lastD (i:=3) (N:=some 21) (by simp only [List.getElem?_toArray,List.getElem?_cons_succ,List.getElem?_cons_zero];rfl) rfl (by as_aux_lemma=>kernel_rfl) (by decide) (fun K hK=>?_)
  refine pg_putd (g:=g2) (by rfl) rfl (pg_copy (p:=p) (ys:=d) rfl rfl rfl (Kd.C_below (Aside0.out (by assumption)) (by repeat (first|exact Below.refl _ _|with_reducible apply zlN|with_reducible apply zlA|refine below_step ?_ (Aside0.out (by assumption))))) (zbB (Aside0.out (by assumption)) (by repeat (first|exact Below.refl _ _|with_reducible apply zlN|with_reducible apply zlA|refine below_step ?_ (Aside0.out (by assumption))))) (by rw [hp.out,hd.out];decide)) (zbB (Aside0.out (by assumption)) (by repeat (first|exact Below.refl _ _|with_reducible apply zlN|with_reducible apply zlA|refine below_step ?_ (Aside0.out (by assumption))))) ?_
  rintro w4 hq hfar hbel
  have hb4:Aside0 (Below w.heap.size w w4):=⟨hbel _ _ (by repeat (first|exact Below.refl _ _|with_reducible apply zlN|with_reducible apply zlA|refine below_step ?_ (Aside0.out (by assumption)))) hgeg2.out⟩
  have k4:Aside0 (w4.heap[g4]?=some (.cells (pc pz) 29 (0,0))):=⟨by rw [hfar _ (by omega)];exact (zbB (Aside0.out (by assumption)) (by repeat (first|exact Below.refl _ _|with_reducible apply zlN|with_reducible apply zlA|refine below_step ?_ (Aside0.out (by assumption)))))⟩
  have k5:Aside0 (w4.heap[g5]?=some (.cells #[.slice Ad d.length cd] 24 (0,0))):=⟨by rw [hfar _ (by omega)];exact (zbB (Aside0.out (by assumption)) (by repeat (first|exact Below.refl _ _|with_reducible apply zlN|with_reducible apply zlA|refine below_step ?_ (Aside0.out (by assumption)))))⟩
  have kD:Aside0 (w4.heap[D]?=some (.deferred (some []))):=⟨by rw [hfar _ (by omega)];exact zbB hKD.out (by repeat (first|exact Below.refl _ _|with_reducible apply zlN|with_reducible apply zlA|refine below_step ?_ (Aside0.out (by assumption))))⟩
  have kR:Aside0 (Kd.R (Kd.int .u8) 5 w4 0 (fun _=>True) (.slice Ad d.length cd) d):=⟨Kd.R_mono (Kd.R_step (Kd.R_types (Kd.R_below hR.out (by repeat (first|exact Below.refl _ _|with_reducible apply zlN|with_reducible apply zlA|refine below_step ?_ (Aside0.out (by assumption))))) (g:=g2) (t:=29) (cells:=pc p) (zbB (Aside0.out (by assumption)) (by repeat (first|exact Below.refl _ _|with_reducible apply zlN|with_reducible apply zlA|refine below_step ?_ (Aside0.out (by assumption))))) (by intro q hq;simp [Kd.int,Kd.scalar] at hq;omega)) (fun k hk _=>hfar k hk.2)) (fun _ h=>h.1)⟩
  have kC:=zm (Kd.R_reads' kR.out).2.2
  clear hfar hbel
  have hh_:=zm hq;clear hq;have hq:=hh_;clear hh_
  refine hK.out _ _ ?_
  clear hK K
  refine znm (some 21) ?_
  refine zdo ?_
  unfold pt_onlyN
  clear h2 h4 h5 hR hKD hBl hb hCd
  go_wp2_with fail
  refine pt_only ?_
  refine Cw.dstartD [4] (by as_aux_lemma=>kernel_rfl) rfl (fun wd hb=>?_)
  have hh_:=zm hb;clear hb;have hb:=hh_;clear hh_
  refine zpu 0 ?_
  refine zpu 1 ?_
  refine Cw.dtkD (i:=2) (v:=?_) (a':=?_) (by simp only [List.getElem?_toArray,List.getElem?_cons_succ,List.getElem?_cons_zero];rfl) rfl (by as_aux_lemma=>kernel_rfl) (by rfl) (by exact fun _ _ _ h=>h) ?_ (by repeat (first|exact Below.refl _ _|with_reducible apply zlN|with_reducible apply zlA|refine below_step ?_ (Aside0.out (by assumption)))) ?_ ?_
  rotate_left
  ·intro w' hs_
   have hs:=zm hs_
   clear hs_
   apply Eq.trans
   ·apply pt_ld24
    ·rfl
    ·rfl
    ·exact (zbB (Aside0.out (by assumption)) (by repeat (first|exact Below.refl _ _|with_reducible apply zlN|with_reducible apply zlA|refine below_step ?_ (Aside0.out (by assumption)))))
   ·rfl
  rotate_left
  ·simp only [Act.put,List.setIfInBounds_toArray,List.set_cons_zero,List.set_cons_succ,i64_w,i32_w]
   rfl
  refine Cw.dpu (i:=3) (v:=?_) (a':=?_) (by simp only [List.getElem?_toArray,List.getElem?_cons_succ,List.getElem?_cons_zero];rfl) rfl (by as_aux_lemma=>kernel_rfl) (by rfl) (by exact fun _ _ _ h=>h) ?_ ?_ ?_
  rotate_left
  ·intro w'
   apply Eq.trans
   ·apply pg_tail (m:=256)
    ·rfl
    ·rfl
    ·rfl
    ·rfl
    ·rw [hd.out];decide
    ·exact hcd.out
   ·rfl
  rotate_left
  ·simp only [Act.put,List.setIfInBounds_toArray,List.set_cons_zero,List.set_cons_succ,i64_w,i32_w]
   rfl
  refine Cw.lastD (i:=4) (N:=some 26) (by simp only [List.getElem?_toArray,List.getElem?_cons_succ,List.getElem?_cons_zero];rfl) rfl (by as_aux_lemma=>kernel_rfl) (by decide) (fun K hK=>?_)
  refine pg_putd (g:=g2) (by rfl) rfl (pg_copy (p:=splice p 0 (d.take 256)) (ys:=d.drop 256) rfl rfl rfl (pg_Ctail rfl (Kd.C_below (Aside0.out (by assumption)) (by repeat (first|exact Below.refl _ _|with_reducible apply zlN|with_reducible apply zlA|refine below_step ?_ (Aside0.out (by assumption))))) (by rw [hd.out];decide) hcd.out) (zbB (Aside0.out (by assumption)) (by repeat (first|exact Below.refl _ _|with_reducible apply zlN|with_reducible apply zlA|refine below_step ?_ (Aside0.out (by assumption))))) (by rw [splice_len (by rw [List.length_take,hd.out,hp.out];decide),hp.out,List.length_drop,hd.out];decide)) (zbB (Aside0.out (by assumption)) (by repeat (first|exact Below.refl _ _|with_reducible apply zlN|with_reducible apply zlA|refine below_step ?_ (Aside0.out (by assumption))))) ?_
  rintro w5 hq5 hfar hbel
  rw [pt_splice hp.out hd.out] at hq5
  have hb5:Aside0 (Below w.heap.size w w5):=⟨hbel _ _ (by repeat (first|exact Below.refl _ _|with_reducible apply zlN|with_reducible apply zlA|refine below_step ?_ (Aside0.out (by assumption)))) hgeg2.out⟩
  have j4:Aside0 (w5.heap[g4]?=some (.cells (pc pz) 29 (0,0))):=⟨by rw [hfar _ (by omega)];exact (zbB (Aside0.out (by assumption)) (by repeat (first|exact Below.refl _ _|with_reducible apply zlN|with_reducible apply zlA|refine below_step ?_ (Aside0.out (by assumption)))))⟩
  have jD:Aside0 (w5.heap[D]?=some (.deferred (some []))):=⟨by rw [hfar _ (by omega)];exact zbB kD.out (by repeat (first|exact Below.refl _ _|with_reducible apply zlN|with_reducible apply zlA|refine below_step ?_ (Aside0.out (by assumption))))⟩
  clear hfar hbel
  have hh_:=zm hq5;clear hq5;have hq5:=hh_;clear hh_
  refine hK.out _ _ ?_
  clear hK K
  refine znm (some 26) ?_
  refine zdo ?_
  unfold pt_onlyN
  go_wp2_with (first|((with_reducible refine gate_ (.load 29 _) rfl ?_);refine Kd.event_run rfl (pg_load rfl rfl hq5.out hd.out) ?_)|((with_reducible refine gate_ (.store 29 _ _) rfl ?_);refine pg_put (g:=g4) (q:=d) rfl rfl (pg_store rfl rfl rfl j4.out pz_len hd.out) j4.out ?_;rintro w6 hq6 hfar hbel;have hb6:Aside0 (Below w.heap.size w w6):=⟨hbel _ _ hb5.out hgeg4.out⟩;have lD:Aside0 (w6.heap[D]?=some (.deferred (some []))):=⟨by rw [hfar _ (by omega)];exact jD.out⟩;clear hfar hbel;have hh_:=zm hq6;clear hq6;have hq6:=hh_;clear hh_))
  all_goals
   refine ⟨by simp,.inl ⟨_,_,rfl,run_takeDeferred lD.out,?_⟩⟩
   exact ⟨_,results_cell_row rfl _ _ g4 29 (pc d) (0,0) _ rfl ((World.putObj_heap_other (show g4≠D by omega)).trans hq6.out) Try.underlying29 rfl (pg_size hd.out),rfl,hb6.out.grown (grownBy_putObj' _ D _) hb6.out.size (fun q e=>by cases e;exact hgb.out)⟩
 case stop =>
  rintro D c pre W hD _ h
  exact h.elim
end
end Go.Proofs.Ytdohpjjggjehfaa.Print
end
section
namespace Go.Proofs.Ytdohpjjggjehfaa.Print
open Go.RowKit Go.Proofs.YtdohpjjggjehfaaW.PrintWords Go.Proofs.YtdohpjjggjehfaaW.PrintLast Go.Proofs.YtdohpjjggjehfaaW.PrintMore
attribute [local go_sem] max2_int min2_int max_two min_two max_three min_three max_four min_four   -- for this text's walks alone
attribute [local go_sem ↓] Go.Proofs.Ytdohpjjggjehfaa.Sem.isSome_setCell
attribute [local go_sem] Go.Instr.field Go.asAgg
set_option linter.unusedVariables false
set_option linter.unusedSimpArgs false
-- CX
-- PG
def slipwaylaw03_PageTorn.f (k:Nat) (a0_0:Int) (a0_1:Int) (a0_2:Int) (a0_3:Int) (l1:List Int) (l2:List Int):Option (Bool) :=
 (slipwaylaw03_live.f k).bind fun t=>if t=true then (page_Encode.f k a0_0 a0_1 a0_2 a0_3 l1).bind fun p=>if p.1.length=288 then if p.2=0 then
 (page_Tear.f k p.1 l2).bind fun q=>if q.length=288 then if q=p.1 then some true else (page_State.f k q).bind fun s=>if s=10 then some true else some (s == 11)
 else none
 else some true else none else none
set_option maxHeartbeats 4000000 in
set_option maxRecDepth 100000 in
theorem slipwaylaw03_PageTorn.calls (k:Nat) (a0_0:Int) (a0_1:Int) (a0_2:Int) (a0_3:Int) (A1:Option Addr) (c1:Nat) (l1:List Int) (A2:Option Addr) (c2:Nat) (l2:List Int) (r:Bool) (w:World) (hr1:Kd.C (Kd.int .u8) w A1 l1.length l1) (hc1:l1.length≤c1) (hr2:Kd.C (Kd.int .u8) w A2 l2.length l2) (hc2:l2.length≤c2) (h:slipwaylaw03_PageTorn.f k a0_0 a0_1 a0_2 a0_3 l1 l2=some r) :
  Calls Try.prog 7 #[.agg #[.int .i64 a0_0,.int .i64 a0_1,.int .i64 a0_2,.int .i64 a0_3],.slice A1 l1.length c1,.slice A2 l2.length c2] w fun e w'=>e=.returned (.bool r)∧Below w.heap.size w w':=by
 have hu29:=Try.underlying29
 have hu23:=Try.underlying23
 have H:slipwaylaw03_PageTorn.f k a0_0 a0_1 a0_2 a0_3 l1 l2=some r:=h
 clear h
 have hh_:=zm hr1;clear hr1;have hr1:=hh_;clear hh_;have hh_:=zm hc1;clear hc1;have hc1:=hh_;clear hh_;have hh_:=zm hr2;clear hr2;have hr2:=hh_;clear hh_;have hh_:=zm hc2;clear hc2;have hc2:=hh_;clear hh_
 unfold slipwaylaw03_PageTorn.f at H
 have hg_:=Option.bind_eq_some_iff.mp H;clear H;obtain ⟨t,F0,H⟩:=hg_;have hh_:=zm F0;clear F0;have F0:=hh_;clear hh_;(try dsimp only at H);have hg_:=Cw.gt_ H;clear H;obtain ⟨rfl,H⟩:=hg_;have hg_:=Option.bind_eq_some_iff.mp H;clear H;obtain ⟨⟨p1,pe⟩,F1,H⟩:=hg_;have hh_:=zm F1;clear F1;have F1:=hh_;clear hh_;(try dsimp only at H);have hg_:=Cw.gt_ H;clear H;obtain ⟨hp,H⟩:=hg_
 have hh_:=zm hp;clear hp;have hp:=hh_;clear hh_;have hh_:=zm H;clear H;have H:=hh_;clear hh_
 go_enter Try.func7,Try.ntmps7
 go_wp2_with (first|((with_reducible refine gate_ (.box 23 _) rfl ?_);refine box_event rfl rfl (cs:=_) (t:=23) (by first|(go_simp;done)|(go_simp;rfl)) ?_;rintro g3 hg w1 hbk hb;skip;clear hg;have hh_:=zm hbk;clear hbk;have hbk:=hh_;clear hh_;have hh_:=zm hb;clear hb;have hb:=hh_;clear hh_)|(go_at_call 9;refine (slipwaylaw03_live.calls k true _ F0.out).mono ?_;rintro e w1 ⟨rfl,hb⟩;have hh_:=zm hb;clear hb;have hb:=hh_;clear hh_)|((with_reducible refine gate_ (.load 23 _) rfl ?_);refine Kd.event_run rfl (by apply pg_h23;exact rfl;exact rfl;exact (zbB (Aside0.out (by assumption)) (by repeat (first|exact Below.refl _ _|with_reducible apply zlN|with_reducible apply zlA|refine below_step ?_ (Aside0.out (by assumption)))))) ?_))
 refine (page_Encode.calls k _ _ _ _ _ _ _ p1 pe _ (Kd.C_below (Aside0.out (by assumption)) (by repeat (first|exact Below.refl _ _|with_reducible apply zlN|with_reducible apply zlA|refine below_step ?_ (Aside0.out (by assumption))))) (Aside0.out (by assumption)) F1.out).mono ?_
 rintro e w1 ⟨rfl,hb⟩
 have hh_:=zm hb;clear hb;have hb:=hh_;clear hh_
 replace H:=H.out
 by_cases hz:pe=0
 rotate_left
 ·rw [if_neg hz] at H
  obtain rfl:=Option.some.inj H
  have hzb:(pe != 0)=true:=bne_iff_ne.mpr hz
  clear hz
  go_wp2_with (first|((with_reducible refine gate_ (.alloc 29) rfl ?_);refine Cw.box_store rfl rfl rfl rfl rfl rfl (pg_new rfl) (pg_store_new rfl rfl rfl hp.out) ?_;rintro g7 hg w1 hbk hb;clear hg;have hh_:=zm hbk;clear hbk;have hbk:=hh_;clear hh_;have hh_:=zm hb;clear hb;have hb:=hh_;clear hh_))
  go_ret
  exact ⟨rfl,(by repeat (first|exact Below.refl _ _|with_reducible apply zlN|with_reducible apply zlA|refine below_step ?_ (Aside0.out (by assumption))))⟩
 subst hz
 rw [if_pos rfl] at H
 have hg_:=Option.bind_eq_some_iff.mp H;clear H;obtain ⟨q,F2,H⟩:=hg_;have hh_:=zm F2;clear F2;have F2:=hh_;clear hh_;(try dsimp only at H);have hg_:=Cw.gt_ H;clear H;obtain ⟨hq,H⟩:=hg_
 have hh_:=zm hq;clear hq;have hq:=hh_;clear hh_;have hh_:=zm H;clear H;have H:=hh_;clear hh_
 go_wp2_with (first|((with_reducible refine gate_ (.alloc 29) rfl ?_);refine Cw.box_store rfl rfl rfl rfl rfl rfl (pg_new rfl) (pg_store_new rfl rfl rfl hp.out) ?_;rintro g7 hg w1 hbk hb;clear hg;have hh_:=zm hbk;clear hbk;have hbk:=hh_;clear hh_;have hh_:=zm hb;clear hb;have hb:=hh_;clear hh_)|((with_reducible refine gate_ (.load 29 _) rfl ?_);refine Kd.event_run rfl (pg_load rfl rfl (zbB (Aside0.out (by assumption)) (by repeat (first|exact Below.refl _ _|with_reducible apply zlN|with_reducible apply zlA|refine below_step ?_ (Aside0.out (by assumption))))) hp.out) ?_))
 refine (page_Tear.calls k p1 _ _ l2 q _ (Kd.C_below (Aside0.out (by assumption)) (by repeat (first|exact Below.refl _ _|with_reducible apply zlN|with_reducible apply zlA|refine below_step ?_ (Aside0.out (by assumption))))) (Aside0.out (by assumption)) F2.out).mono ?_
 rintro e w1 ⟨rfl,hb⟩
 have hh_:=zm hb;clear hb;have hb:=hh_;clear hh_
 replace H:=H.out
 by_cases hqp:q=p1
 ·rw [if_pos hqp] at H
  obtain rfl:=Option.some.inj H
  subst hqp
  clear H
  go_wp2_with (first|((with_reducible refine gate_ (.alloc 29) rfl ?_);refine Cw.box_store rfl rfl rfl rfl rfl rfl (pg_new rfl) (pg_store_new rfl rfl rfl hq.out) ?_;rintro g9 hg w1 hbk hb;clear hg;have hh_:=zm hbk;clear hbk;have hbk:=hh_;clear hh_;have hh_:=zm hb;clear hb;have hb:=hh_;clear hh_)|((with_reducible refine gate_ (.load 29 _) rfl ?_);refine Kd.event_run rfl (pg_load rfl rfl (zbB (Aside0.out (by assumption)) (by repeat (first|exact Below.refl _ _|with_reducible apply zlN|with_reducible apply zlA|refine below_step ?_ (Aside0.out (by assumption))))) (by first|exact hp.out|exact hq.out)) ?_)|((with_reducible refine gate_ (.binOp .eql 29 _ _ 29) rfl ?_);refine Kd.event_run rfl (v:=.bool true) (by refine (pg_eqop (p:=q) (q:=q) rfl rfl rfl hq.out hq.out).trans ?_;rw [decide_eq_true (rfl:q=q)]) ?_)|((with_reducible refine Cw.guarded rfl ?gw ?_);(case gw=>first|rfl|(go_simp;done));dsimp only))
  go_ret
  exact ⟨rfl,(by repeat (first|exact Below.refl _ _|with_reducible apply zlN|with_reducible apply zlA|refine below_step ?_ (Aside0.out (by assumption))))⟩
 rw [if_neg hqp] at H
 have hqn:=zm hqp
 clear hqp
 have hg_:=Option.bind_eq_some_iff.mp H;clear H;obtain ⟨s,F3,H⟩:=hg_;have hh_:=zm F3;clear F3;have F3:=hh_;clear hh_;(try dsimp only at H)
 by_cases hs:s=10
 ·rw [if_pos hs] at H
  obtain rfl:=Option.some.inj H
  subst hs
  clear H
  go_wp2_with (first|((with_reducible refine gate_ (.alloc 29) rfl ?_);refine Cw.box_store rfl rfl rfl rfl rfl rfl (pg_new rfl) (pg_store_new rfl rfl rfl hq.out) ?_;rintro g9 hg w1 hbk hb;clear hg;have hh_:=zm hbk;clear hbk;have hbk:=hh_;clear hh_;have hh_:=zm hb;clear hb;have hb:=hh_;clear hh_)|((with_reducible refine gate_ (.load 29 _) rfl ?_);refine Kd.event_run rfl (pg_load rfl rfl (zbB (Aside0.out (by assumption)) (by repeat (first|exact Below.refl _ _|with_reducible apply zlN|with_reducible apply zlA|refine below_step ?_ (Aside0.out (by assumption))))) (by first|exact hp.out|exact hq.out)) ?_)|((with_reducible refine gate_ (.binOp .eql 29 _ _ 29) rfl ?_);refine Kd.event_run rfl (v:=.bool false) (by refine (pg_eqop (p:=q) (q:=p1) rfl rfl rfl hq.out hp.out).trans ?_;rw [decide_eq_false hqn.out]) ?_)|((with_reducible refine Cw.guarded rfl ?gw ?_);(case gw=>first|rfl|(go_simp;done));dsimp only)|(go_at_call 20;refine (page_State.calls k q _ _ F3.out).mono ?_;rintro e w1 ⟨rfl,hb⟩;have hh_:=zm hb;clear hb;have hb:=hh_;clear hh_))
  go_ret
  exact ⟨rfl,(by repeat (first|exact Below.refl _ _|with_reducible apply zlN|with_reducible apply zlA|refine below_step ?_ (Aside0.out (by assumption))))⟩
 ·rw [if_neg hs] at H
  obtain rfl:=Option.some.inj H
  have hsb:(s == 10)=false:=by simpa using hs
  clear H hs
  go_wp2_with (first|((with_reducible refine gate_ (.alloc 29) rfl ?_);refine Cw.box_store rfl rfl rfl rfl rfl rfl (pg_new rfl) (pg_store_new rfl rfl rfl hq.out) ?_;rintro g9 hg w1 hbk hb;clear hg;have hh_:=zm hbk;clear hbk;have hbk:=hh_;clear hh_;have hh_:=zm hb;clear hb;have hb:=hh_;clear hh_)|((with_reducible refine gate_ (.load 29 _) rfl ?_);refine Kd.event_run rfl (pg_load rfl rfl (zbB (Aside0.out (by assumption)) (by repeat (first|exact Below.refl _ _|with_reducible apply zlN|with_reducible apply zlA|refine below_step ?_ (Aside0.out (by assumption))))) (by first|exact hp.out|exact hq.out)) ?_)|((with_reducible refine gate_ (.binOp .eql 29 _ _ 29) rfl ?_);refine Kd.event_run rfl (v:=.bool false) (by refine (pg_eqop (p:=q) (q:=p1) rfl rfl rfl hq.out hp.out).trans ?_;rw [decide_eq_false hqn.out]) ?_)|((with_reducible refine Cw.guarded rfl ?gw ?_);(case gw=>first|rfl|(go_simp;done));dsimp only)|(go_at_call 20;refine (page_State.calls k q _ _ F3.out).mono ?_;rintro e w1 ⟨rfl,hb⟩;have hh_:=zm hb;clear hb;have hb:=hh_;clear hh_))
  go_ret
  exact ⟨rfl,(by repeat (first|exact Below.refl _ _|with_reducible apply zlN|with_reducible apply zlA|refine below_step ?_ (Aside0.out (by assumption))))⟩
def slipwaylaw03_PageTorn.Pure:Prop:=∀ (a0_0:Int) (a0_1:Int) (a0_2:Int) (a0_3:Int) (l1:List Int) (l2:List Int),(Lit.int .i64 a0_0).wf=true → (Lit.int .i64 a0_1).wf=true → (Lit.int .i64 a0_2).wf=true → (Lit.int .i64 a0_3).wf=true → (l1.length≤maxLen∧l1.length * 1≤140737488351232∧∀ x ∈ l1,(Lit.int .u8 x).wf=true) → (l2.length≤maxLen∧l2.length * 1≤140737488351232∧∀ x ∈ l2,(Lit.int .u8 x).wf=true) → ∃ k,slipwaylaw03_PageTorn.f k a0_0 a0_1 a0_2 a0_3 l1 l2=some true
theorem slipwaylaw03_PageTorn.walk (P:slipwaylaw03_PageTorn.Pure) (a0_0:Int) (a0_1:Int) (a0_2:Int) (a0_3:Int) (A1:Option Addr) (c1:Nat) (l1:List Int) (A2:Option Addr) (c2:Nat) (l2:List Int) (w:World) (hr1:Kd.C (Kd.int .u8) w A1 l1.length l1) (hc1:l1.length≤c1) (hr2:Kd.C (Kd.int .u8) w A2 l2.length l2) (hc2:l2.length≤c2) (w0_0:(Lit.int .i64 a0_0).wf=true) (w0_1:(Lit.int .i64 a0_1).wf=true) (w0_2:(Lit.int .i64 a0_2).wf=true) (w0_3:(Lit.int .i64 a0_3).wf=true) (w1:(l1.length≤maxLen∧l1.length * 1≤140737488351232∧∀ x ∈ l1,(Lit.int .u8 x).wf=true)) (w2:(l2.length≤maxLen∧l2.length * 1≤140737488351232∧∀ x ∈ l2,(Lit.int .u8 x).wf=true)) :
  Calls Try.prog 7 #[.agg #[.int .i64 a0_0,.int .i64 a0_1,.int .i64 a0_2,.int .i64 a0_3],.slice A1 l1.length c1,.slice A2 l2.length c2] w fun e w'=>e=.returned (.bool true)∧Below w.heap.size w w':=by
 obtain ⟨k,h⟩:=P a0_0 a0_1 a0_2 a0_3 l1 l2 w0_0 w0_1 w0_2 w0_3 w1 w2
 refine (slipwaylaw03_PageTorn.calls k a0_0 a0_1 a0_2 a0_3 A1 c1 l1 A2 c2 l2 true w hr1 hc1 hr2 hc2 h).mono ?_
 rintro e w' ⟨rfl,hd⟩
 exact ⟨rfl,hd⟩
end Go.Proofs.Ytdohpjjggjehfaa.Print
end
