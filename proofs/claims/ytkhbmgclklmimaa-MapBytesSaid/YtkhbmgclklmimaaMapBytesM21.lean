/- Texts of the proof of MapBytes, part 21. -/
import Derived.Test.YtkhbmgclklmimaaMapBytesMA
import Derived.Test.YtkhbmgclklmimaaMapBytesM15
import Derived.Test.YtkhbmgclklmimaaMapBytesM19
import Derived.Test.YtkhbmgclklmimaaMapBytesM18
import Derived.Test.YtkhbmgclklmimaaMapBytesM20
section
namespace Go.Proofs.Ytkhbmgclklmimaa.Print
open Go.RowKit Go.Proofs.YtkhbmgclklmimaaW.PrintWords Go.Proofs.YtkhbmgclklmimaaW.PrintLast Go.Proofs.YtkhbmgclklmimaaW.PrintMore
attribute [local go_sem] max2_int min2_int max_two min_two max_three min_three max_four min_four   -- for this text's walks alone
attribute [local go_sem ↓] Go.Proofs.Ytkhbmgclklmimaa.Sem.isSome_setCell
attribute [local go_sem] Go.Instr.field Go.asAgg
set_option linter.unusedVariables false
set_option linter.unusedSimpArgs false
-- CX
-- SQ
def slipwayref06_Bytes.f (k:Nat) (a0 a1 a2 a3:Int) (l4:List Bool) (l5:List Int) (l6:List S55):Option (List Int × Int) :=
 (slipwayref06_page.f k a0 a1 a2 a3 l4 l5 l6).bind fun t=>if t=true then if okB a0 l4 l5 l6 then some (mbo a0 a1 a2 a3 l4 l5 l6,0) else none else some ([],62)
theorem mb_tq {q:Nat}:((q:Int) / 8).toNat=q / 8:=by omega
theorem mb_orb {q:Nat} {L:List Int}:Go.bits .or .u8 (rdOf 0 L ((q:Int) / 8)) (2 ^ (q % 8) % 256)=orb (rd L ((q / 8:Nat):Int)) q:=by
 unfold orb rd rdOf
 have e1:(IntKind.u8.wrap (2 ^ ((q:Int) % 8).toNat))=2 ^ (q % 8) % 256:=by
  rw [show ((q:Int) % 8).toNat=q % 8 from by omega]
  rfl
 rw [e1,show ((q / 8:Nat):Int)=(q:Int) / 8 from rfl]
theorem mb_cap5 {b:List Int} {l:List Int} {q:Nat} (h:b.length≤32) (hq:q < l.length) (hl:l.length≤64):((b ++ (l.take q).flatMap (be 3)).length + 3) * 1≤140737488355328:=by
 rw [List.length_append,flat_len (be 3) 3 (be_len 3),List.length_take]
 omega
def slen:Value → Nat
 | .slice _ n _=>n
 | _=>0
theorem mb_more {b:List Int} {q:Nat}:b ++ List.replicate q 0 ++ [0]=b ++ List.replicate (q + 1) 0:=by rw [List.append_assoc,List.replicate_succ']
theorem mb_morel {b:List Int} {q:Nat}:(b ++ List.replicate q (0:Int)).length=b.length + q:=by rw [List.length_append,List.length_replicate]
theorem mb_cap8 {b2:List Int} {l:List S55} {q:Nat} {x y:Int} (h:b2.length + 10 * l.length≤256) (hq:q < l.length):((b2 ++ (l.take q).flatMap mbRec ++ [x,y]).length + 8) * 1≤140737488355328:=by
 rw [List.length_append,mb_bl hq]
 simp only [List.length_cons,List.length_nil]
 omega
theorem mb_head (x y:Int) (n:Nat) (g:Int):[x % 256,y % 256,(n:Int) % 256,0,0,0,0,0] ++ be 8 g=mb1 x g y n:=by
 unfold mb1
 rfl
set_option maxHeartbeats 4000000 in
set_option maxRecDepth 100000 in
theorem slipwayref06_Bytes.calls (k:Nat) (a0 a1 a2 a3:Int) (A4:Option Addr) (c4:Nat) (l4:List Bool) (A5:Option Addr) (c5:Nat) (l5:List Int) (A6:Option Addr) (c6:Nat) (l6:List S55) (r1:List Int) (r2:Int) (w:World) (hr4:Kd.C Kd.bool w A4 l4.length l4) (hc4:l4.length≤c4) (hr5:Kd.C (Kd.int .i64) w A5 l5.length l5) (hc5:l5.length≤c5) (hr6:Kd.C k55 w A6 l6.length l6) (hc6:l6.length≤c6) (h:slipwayref06_Bytes.f k a0 a1 a2 a3 l4 l5 l6=some (r1,r2)) :
  Calls Try.prog 45 #[.agg #[.int .i64 a0,.int .i64 a1,.int .i64 a2,.int .i64 a3,.slice A4 l4.length c4,.slice A5 l5.length c5,.slice A6 l6.length c6]] w fun e w'=>∃ v0_:Value,e=.returned (.tuple #[v0_,.int .i64 r2])∧Kd.R (Kd.int .u8) 5 w' w.heap.size (fun _=>True) v0_ r1∧Below w.heap.size w w':=by
 have hu42:=Try.underlying42
 have H:slipwayref06_Bytes.f k a0 a1 a2 a3 l4 l5 l6=some (r1,r2):=h
 clear h
 have hh_:=zm hr4;clear hr4;have hr4:=hh_;clear hh_;have hh_:=zm hc4;clear hc4;have hc4:=hh_;clear hh_;have hh_:=zm hr5;clear hr5;have hr5:=hh_;clear hh_;have hh_:=zm hc5;clear hc5;have hc5:=hh_;clear hh_;have hh_:=zm hr6;clear hr6;have hr6:=hh_;clear hh_;have hh_:=zm hc6;clear hc6;have hc6:=hh_;clear hh_
 unfold slipwayref06_Bytes.f at H
 have hg_:=Option.bind_eq_some_iff.mp H;clear H;obtain ⟨t,F0,H⟩:=hg_;have hh_:=zm F0;clear F0;have F0:=hh_;clear hh_;(try dsimp only at H)
 have hh_:=zm H;clear H;have H:=hh_;clear hh_
 go_enter Try.func45,Try.ntmps45
 go_wp2_with (first|((with_reducible refine gate_dst (N:=1) rfl ?_);refine box_event rfl (N:=1) rfl (cs:=_) (t:=42) (by first|(go_simp;done)|(go_simp;rfl)) ?_;rintro g1 hg w1 hbk hb;clear hg;have hh_:=zm hbk;clear hbk;have hbk:=hh_;clear hh_;have hh_:=zm hb;clear hb;have hb:=hh_;clear hh_)|((with_reducible refine gate_ (.load 42 _) rfl ?_);refine Kd.event_run rfl (mb_ld42 rfl rfl (zbB (Aside0.out (by assumption)) (by repeat (first|exact Below.refl _ _|with_reducible apply zlN|with_reducible apply zlA|refine below_step ?_ (Aside0.out (by assumption)))))) ?_))
 refine (slipwayref06_page.calls k a0 a1 a2 a3 _ _ _ _ _ _ _ _ _ _ _ (Kd.C_below (Aside0.out (by assumption)) (by repeat (first|exact Below.refl _ _|with_reducible apply zlN|with_reducible apply zlA|refine below_step ?_ (Aside0.out (by assumption))))) (Aside0.out (by assumption)) (Kd.C_below (Aside0.out (by assumption)) (by repeat (first|exact Below.refl _ _|with_reducible apply zlN|with_reducible apply zlA|refine below_step ?_ (Aside0.out (by assumption))))) (Aside0.out (by assumption)) (Kd.C_below (Aside0.out (by assumption)) (by repeat (first|exact Below.refl _ _|with_reducible apply zlN|with_reducible apply zlA|refine below_step ?_ (Aside0.out (by assumption))))) (Aside0.out (by assumption)) F0.out).mono ?_
 rintro e wf ⟨rfl,hb⟩
 have hh_:=zm hb;clear hb;have hb:=hh_;clear hh_
 have H:=H.out
 by_cases ht:t=true
 rotate_left
 ·have ht2:t=false:=by simpa using ht
  subst ht2
  rw [if_neg (by decide)] at H
  simp only [Option.some.injEq,Prod.mk.injEq] at H
  obtain ⟨rfl,rfl⟩:=H
  go_wp2
  go_ret2
  exact ⟨_,rfl,Kd.R_nil _ _ _ _ _,(by repeat (first|exact Below.refl _ _|with_reducible apply zlN|with_reducible apply zlA|refine below_step ?_ (Aside0.out (by assumption))))⟩
 subst ht
 rw [if_pos rfl] at H
 have hg_:=Cw.gt_ H;clear H;obtain ⟨hok,H⟩:=hg_
 simp only [Option.some.injEq,Prod.mk.injEq] at H
 obtain ⟨rfl,rfl⟩:=H
 have hh_:=zm hok;clear hok;have hok:=hh_;clear hh_
 go_wp2_with (first|((with_reducible refine gate_ (.load 3 _) rfl ?_);refine Kd.event_run rfl (mb_c3 rfl rfl (zbB (Aside0.out (by assumption)) (by repeat (first|exact Below.refl _ _|with_reducible apply zlN|with_reducible apply zlA|refine below_step ?_ (Aside0.out (by assumption))))) rfl) ?_)|((with_reducible refine gate_ (.load 2 _) rfl ?_);refine Kd.event_run rfl (mb_c2 rfl rfl (zbB (Aside0.out (by assumption)) (by repeat (first|exact Below.refl _ _|with_reducible apply zlN|with_reducible apply zlA|refine below_step ?_ (Aside0.out (by assumption))))) rfl) ?_)|((with_reducible refine gate_ (.load 22 _) rfl ?_);refine Kd.event_run rfl (mb_c22 rfl rfl (zbB (Aside0.out (by assumption)) (by repeat (first|exact Below.refl _ _|with_reducible apply zlN|with_reducible apply zlA|refine below_step ?_ (Aside0.out (by assumption))))) rfl) ?_)|((with_reducible refine gate_ (.load 23 _) rfl ?_);refine Kd.event_run rfl (mb_c23 rfl rfl (zbB (Aside0.out (by assumption)) (by repeat (first|exact Below.refl _ _|with_reducible apply zlN|with_reducible apply zlA|refine below_step ?_ (Aside0.out (by assumption))))) rfl) ?_)|((with_reducible refine gate_ (.load 34 _) rfl ?_);refine Kd.event_run rfl (mb_c34 rfl rfl (zbB (Aside0.out (by assumption)) (by repeat (first|exact Below.refl _ _|with_reducible apply zlN|with_reducible apply zlA|refine below_step ?_ (Aside0.out (by assumption))))) rfl) ?_))
 rw [mb_wn hok.out]
 refine mb_start (wf:=wf) (by as_aux_lemma=>kernel_rfl) rfl (Below.refl _ _) (fun wd hb=>?_)
 have hh_:=zm hb;clear hb;have hb:=hh_;clear hh_
 refine Cw.dpu (i:=0) (v:=?_) (a':=?_) (by simp only [List.getElem?_toArray,List.getElem?_cons_succ,List.getElem?_cons_zero];rfl) rfl (by as_aux_lemma=>kernel_rfl) (by rfl) (by exact fun _ _ _ h=>h) ?_ ?_ ?_
 rotate_left
 ·intro w'
  go_simp
  with_reducible rfl
 rotate_left
 ·simp only [Act.put,List.setIfInBounds_toArray,List.set_cons_zero,List.set_cons_succ,i64_w,i32_w]
  rfl
 refine Cw.dtk (i:=1) (v:=?_) (a':=?_) (by simp only [List.getElem?_toArray,List.getElem?_cons_succ,List.getElem?_cons_zero];rfl) rfl (by as_aux_lemma=>kernel_rfl) (by rfl) (by exact fun _ _ _ h=>h) ?_ (by repeat (first|exact Below.refl _ _|with_reducible apply zlN|with_reducible apply zlA|refine below_step ?_ (Aside0.out (by assumption)))) ?_ ?_
 rotate_left
 ·intro w' hs_
  have hs:=zm hs_
  clear hs_
  apply Eq.trans
  ·apply mb_c3
   ·rfl
   ·rfl
   ·exact (zbB (Aside0.out (by assumption)) (by repeat (first|exact Below.refl _ _|with_reducible apply zlN|with_reducible apply zlA|refine below_step ?_ (Aside0.out (by assumption)))))
   ·rfl
  ·rfl
 rotate_left
 ·simp only [Act.put,List.setIfInBounds_toArray,List.set_cons_zero,List.set_cons_succ,i64_w,i32_w]
  rfl
 refine Cw.dpu (i:=2) (v:=?_) (a':=?_) (by simp only [List.getElem?_toArray,List.getElem?_cons_succ,List.getElem?_cons_zero];rfl) rfl (by as_aux_lemma=>kernel_rfl) (by rfl) (by exact fun _ _ _ h=>h) ?_ ?_ ?_
 rotate_left
 ·intro w'
  go_simp
  with_reducible rfl
 rotate_left
 ·simp only [Act.put,List.setIfInBounds_toArray,List.set_cons_zero,List.set_cons_succ,i64_w,i32_w]
  rfl
 refine Cw.dpu (i:=3) (v:=?_) (a':=?_) (by simp only [List.getElem?_toArray,List.getElem?_cons_succ,List.getElem?_cons_zero];rfl) rfl (by as_aux_lemma=>kernel_rfl) (by rfl) (by exact fun _ _ _ h=>h) ?_ ?_ ?_
 rotate_left
 ·intro w'
  go_simp
  with_reducible rfl
 rotate_left
 ·simp only [Act.put,List.setIfInBounds_toArray,List.set_cons_zero,List.set_cons_succ,i64_w,i32_w]
  rfl
 refine Cw.dtk (i:=4) (v:=?_) (a':=?_) (by simp only [List.getElem?_toArray,List.getElem?_cons_succ,List.getElem?_cons_zero];rfl) rfl (by as_aux_lemma=>kernel_rfl) (by rfl) (by exact fun _ _ _ h=>h) ?_ (by repeat (first|exact Below.refl _ _|with_reducible apply zlN|with_reducible apply zlA|refine below_step ?_ (Aside0.out (by assumption)))) ?_ ?_
 rotate_left
 ·intro w' hs_
  have hs:=zm hs_
  clear hs_
  apply Eq.trans
  ·apply mb_c3
   ·rfl
   ·rfl
   ·exact (zbB (Aside0.out (by assumption)) (by repeat (first|exact Below.refl _ _|with_reducible apply zlN|with_reducible apply zlA|refine below_step ?_ (Aside0.out (by assumption)))))
   ·rfl
  ·rfl
 rotate_left
 ·simp only [Act.put,List.setIfInBounds_toArray,List.set_cons_zero,List.set_cons_succ,i64_w,i32_w]
  rfl
 refine Cw.dpu (i:=5) (v:=?_) (a':=?_) (by simp only [List.getElem?_toArray,List.getElem?_cons_succ,List.getElem?_cons_zero];rfl) rfl (by as_aux_lemma=>kernel_rfl) (by rfl) (by exact fun _ _ _ h=>h) ?_ ?_ ?_
 rotate_left
 ·intro w'
  go_simp
  with_reducible rfl
 rotate_left
 ·simp only [Act.put,List.setIfInBounds_toArray,List.set_cons_zero,List.set_cons_succ,i64_w,i32_w]
  rfl
 refine Cw.dpu (i:=6) (v:=?_) (a':=?_) (by simp only [List.getElem?_toArray,List.getElem?_cons_succ,List.getElem?_cons_zero];rfl) rfl (by as_aux_lemma=>kernel_rfl) (by rfl) (by exact fun _ _ _ h=>h) ?_ ?_ ?_
 rotate_left
 ·intro w'
  go_simp
  with_reducible rfl
 rotate_left
 ·simp only [Act.put,List.setIfInBounds_toArray,List.set_cons_zero,List.set_cons_succ,i64_w,i32_w]
  rfl
 refine Cw.dpu (i:=7) (v:=?_) (a':=?_) (by simp only [List.getElem?_toArray,List.getElem?_cons_succ,List.getElem?_cons_zero];rfl) rfl (by as_aux_lemma=>kernel_rfl) (by rfl) (by exact fun _ _ _ h=>h) ?_ ?_ ?_
 rotate_left
 ·intro w'
  go_simp
  with_reducible rfl
 rotate_left
 ·simp only [Act.put,List.setIfInBounds_toArray,List.set_cons_zero,List.set_cons_succ,i64_w,i32_w]
  rfl
 refine Cw.dpu (i:=9) (v:=?_) (a':=?_) (by simp only [List.getElem?_toArray,List.getElem?_cons_succ,List.getElem?_cons_zero];rfl) rfl (by as_aux_lemma=>kernel_rfl) (by rfl) (by exact fun _ _ _ h=>h) ?_ ?_ ?_
 rotate_left
 ·intro w'
  go_simp
  with_reducible rfl
 rotate_left
 ·simp only [Act.put,List.setIfInBounds_toArray,List.set_cons_zero,List.set_cons_succ,i64_w,i32_w]
  rfl
 refine Cw.dtk (i:=10) (v:=?_) (a':=?_) (by simp only [List.getElem?_toArray,List.getElem?_cons_succ,List.getElem?_cons_zero];rfl) rfl (by as_aux_lemma=>kernel_rfl) (by rfl) (by exact fun _ _ _ h=>h) ?_ (by repeat (first|exact Below.refl _ _|with_reducible apply zlN|with_reducible apply zlA|refine below_step ?_ (Aside0.out (by assumption)))) ?_ ?_
 rotate_left
 ·intro w' hs_
  have hs:=zm hs_
  clear hs_
  apply Eq.trans
  ·apply mb_c2
   ·rfl
   ·rfl
   ·exact (zbB (Aside0.out (by assumption)) (by repeat (first|exact Below.refl _ _|with_reducible apply zlN|with_reducible apply zlA|refine below_step ?_ (Aside0.out (by assumption)))))
   ·rfl
  ·rfl
 rotate_left
 ·simp only [Act.put,List.setIfInBounds_toArray,List.set_cons_zero,List.set_cons_succ,i64_w,i32_w]
  rfl
 refine zboth 8 11 29 32 (fun v W=>(Kd.int .u8).R 5 W wf.heap.size (fun _=>True) v [a0 % 256,a2 % 256,((l4.length + l6.length:Nat):Int) % 256,0,0,0,0,0]) (fun u W=>∃ A c,u=.slice A 8 c∧(Kd.int .u8).C W A 8 (be 8 a1)) hb.out ?_ ?_ ?_
 ·intro a' W K hS ha hk
  rcases ha with rfl|⟨u,rfl⟩
  all_goals
   refine Kd.R_lit_step (Kd.int .u8) (w0:=wf) wf.heap.size 5 (by rfl) (N:=29) rfl (xs:=[a0 % 256,a2 % 256,((l4.length + l6.length:Nat):Int) % 256,0,0,0,0,0]) (inner:=[.int .u8 (a0 % 256),.int .u8 (a2 % 256),.int .u8 (((l4.length + l6.length:Nat):Int) % 256),.int .u8 0,.int .u8 0,.int .u8 0,.int .u8 0,.int .u8 0]) (ok:=fun _=>True) (okp:=fun _=>True) ?hr (Kd.reps_scalar _) (fun _ h=>h) trivial hS (below_size hS) (by simp) ?_
   case hr=>first|(go_simp;done)|(go_simp;rfl)
   intro v1 w1 ho hbb hgr _
   exact hk v1 w1 hbb ho (by rintro u' ⟨A,c,rfl,hc⟩;exact ⟨A,c,rfl,Kd.C_below hc (below_grown0 hgr)⟩)
 ·intro a' W K hS ha hk
  rcases ha with rfl|⟨u,rfl⟩
  all_goals
   refine goes_ Try.func77 (by as_aux_lemma=>kernel_rfl) rfl _ (by rfl) rfl rfl (by go_simp;rfl) ?_
   refine (mb_rnum8 a1).mono ?_
   rintro e w1 ⟨A,c,rfl,hc,hC,hbb⟩
   exact ⟨_,rfl,hk _ w1 (below_step hS hbb) ⟨A,c,rfl,hC⟩ (fun u' hu=>Kd.R_below hu hbb)⟩
 rintro v32 u w32 hS hv ⟨Au,cu,rfl,hCu⟩
 refine norm_ (a':=?_) ?_ ?_
 rotate_left
 ·simp only [Act.put,List.setIfInBounds_toArray,List.set_cons_zero,List.set_cons_succ,i64_w,i32_w]
  rfl
 refine Cw.done1 (i:=12) (N:=some 33) (by simp only [List.getElem?_toArray,List.getElem?_cons_succ,List.getElem?_cons_zero];rfl) rfl (by as_aux_lemma=>kernel_rfl) (fun K hK=>?_)
 apply Kd.R_append_rows_step (Kd.int .u8) (w0:=wf) wf.heap.size (by rfl) (.tmp 29) (.tmp 32) 67 5 (.int .u8 0) 1 rfl Try.underlying67 info5 rfl (by decide) (by decide) (m:=8) (A:=Au) (c:=cu) (ys:=be 8 a1) (ok:=fun _=>True) (okp:=fun _=>False) (HO:=hv) (HR:=hCu) (hKM:=fun _ _ h=>h) (hokp:=fun _ h=>h.elim) (hfresh:=fun _ _=>trivial) (HB:=hS) (hbase:=below_size hS)
 case hs=>rfl
 case hx=>rfl
 case hl=>simp only [List.length_cons,List.length_nil];omega
 intro v8 w8 ho hb8 hg hat
 clear hg hat hv hS
 rw [mb_head] at ho
 refine hK.out _ _ hb8 (fun _=>?_)
 clear hK K
 refine norm_ (a':=?_) ?_ ?_
 rotate_left
 ·show Act.put _ (some 33) _=_
  simp only [Act.put,List.setIfInBounds_toArray,List.set_cons_zero,List.set_cons_succ,i64_w,i32_w]
  rfl
 have hh_:=zm ho;clear ho;have ho:=hh_;clear hh_;have hh_:=zm hb8;clear hb8;have hb8:=hh_;clear hh_
 refine Cw.dpu (i:=13) (v:=?_) (a':=?_) (by simp only [List.getElem?_toArray,List.getElem?_cons_succ,List.getElem?_cons_zero];rfl) rfl (by as_aux_lemma=>kernel_rfl) (by rfl) (by exact fun _ _ _ h=>h) ?_ ?_ ?_
 rotate_left
 ·intro w'
  go_simp
  with_reducible rfl
 rotate_left
 ·simp only [Act.put,List.setIfInBounds_toArray,List.set_cons_zero,List.set_cons_succ,i64_w,i32_w]
  rfl
 refine done_ (by as_aux_lemma=>kernel_rfl) ?_
 by_cases h1:a0=1
 ·have h1b:(a0 == 1)=true:=beq_iff_eq.mpr h1
  go_wp2_with (first|((with_reducible refine gate_ (.load 3 _) rfl ?_);refine Kd.event_run rfl (mb_c3 rfl rfl (zbB (Aside0.out (by assumption)) (by repeat (first|exact Below.refl _ _|with_reducible apply zlN|with_reducible apply zlA|refine below_step ?_ (Aside0.out (by assumption))))) rfl) ?_)|((with_reducible refine gate_ (.load 2 _) rfl ?_);refine Kd.event_run rfl (mb_c2 rfl rfl (zbB (Aside0.out (by assumption)) (by repeat (first|exact Below.refl _ _|with_reducible apply zlN|with_reducible apply zlA|refine below_step ?_ (Aside0.out (by assumption))))) rfl) ?_)|((with_reducible refine gate_ (.load 22 _) rfl ?_);refine Kd.event_run rfl (mb_c22 rfl rfl (zbB (Aside0.out (by assumption)) (by repeat (first|exact Below.refl _ _|with_reducible apply zlN|with_reducible apply zlA|refine below_step ?_ (Aside0.out (by assumption))))) rfl) ?_)|((with_reducible refine gate_ (.load 23 _) rfl ?_);refine Kd.event_run rfl (mb_c23 rfl rfl (zbB (Aside0.out (by assumption)) (by repeat (first|exact Below.refl _ _|with_reducible apply zlN|with_reducible apply zlA|refine below_step ?_ (Aside0.out (by assumption))))) rfl) ?_)|((with_reducible refine gate_ (.load 34 _) rfl ?_);refine Kd.event_run rfl (mb_c34 rfl rfl (zbB (Aside0.out (by assumption)) (by repeat (first|exact Below.refl _ _|with_reducible apply zlN|with_reducible apply zlA|refine below_step ?_ (Aside0.out (by assumption))))) rfl) ?_)|(go_at_call 77;refine (mb_rnum8 a3).mono ?_;rintro e w9 ⟨A9,c9,rfl,hc9,hC9,hb9⟩;clear hc9;have hh_:=zm hC9;clear hC9;have hC9:=hh_;clear hh_;have hh_:=zm hb9;clear hb9;have hb9:=hh_;clear hh_)|((with_reducible refine gate_builtin (b:=.append) (xs:=#[.tmp 37,.tmp 40]) rfl ?_);at_builtin;refine Kd.R_append_rows (Kd.int .u8) (w0:=wf) wf.heap.size rfl (.tmp 37) (.tmp 40) 67 5 (.int .u8 0) 1 rfl Try.underlying67 info5 rfl (by decide) (by omega) _ (mb1 a0 a1 a2 (l4.length + l6.length)) (be 8 a3) _ 8 _ (fun _=>True) (fun _=>False) rfl rfl (Kd.R_below ho.out hb9.out) hC9.out (fun _ _ h=>h) (fun _ h=>h.elim) (fun _ _=>trivial) (by repeat (first|exact Below.refl _ _|with_reducible apply zlN|with_reducible apply zlA|refine below_step ?_ (Aside0.out (by assumption)))) (below_size (by repeat (first|exact Below.refl _ _|with_reducible apply zlN|with_reducible apply zlA|refine below_step ?_ (Aside0.out (by assumption))))) (by rw [mb1_len];omega) ?_;intro va w11 hoa hba hg hat;clear hg hat ho;have hh_:=zm hoa;clear hoa;have hoa:=hh_;clear hh_;have hh_:=zm hba;clear hba;have hba:=hh_;clear hh_;clear hb8 hb9 hC9)|((with_reducible refine gate_dst (N:=42) rfl ?_);refine Kd.R_make (Kd.int .u8) (w0:=w11) w11.heap.size 5 rfl (N:=42) rfl 67 _ _ rfl 8 rfl rfl Try.underlying67 (.int .u8 0) 1 info5 rfl (by decide) (by omega) 0 (ok:=fun _=>True) (okp:=fun _=>True) rfl (fun _ hk=>hk) trivial (by omega) (by omega) (Below.refl _ _) (Nat.le_refl _) ?_;intro vo w10 hoo hb10 hgo hno;clear hgo hno;obtain ⟨g5,c5_,he5,hg5,_,cs5,hbk5⟩:=Kd.R_form hoo (by decide);(first|cases he5|subst he5);clear hbk5;have hh_:=zm hoo;clear hoo;have hoo:=hh_;clear hh_;have hh_:=zm hb10;clear hb10;have hb10:=hh_;clear hh_;have hh_:=zm hg5;clear hg5;have hg5:=hh_;clear hh_))
  have hC4:=zm (show Kd.C Kd.bool w11 A4 l4.length l4 from (Kd.C_below (Aside0.out (by assumption)) (by repeat (first|exact Below.refl _ _|with_reducible apply zlN|with_reducible apply zlA|refine below_step ?_ (Aside0.out (by assumption))))))
  go_loopw [7] (fun v wi=>∃ q:Nat,v=.int .i64 (q:Int)∧Aside0 (q≤l4.length)∧Aside0 ((Kd.int .u8).R 5 wi w11.heap.size (fun _=>True) (.slice (some ⟨g5,0,none⟩) 8 c5_) (mkN l4 q))∧Aside0 (Below w11.heap.size w11 wi)) (fun v _=>l4.length - (intOf v).toNat)
  case atStart=>exact ⟨0,rfl,⟨Nat.zero_le _⟩,hoo,hb10⟩
  case round =>
   clear hoo hb10
   obtain ⟨q,rfl,hq,ho,hb⟩:=hrel
   by_cases hql:q < l4.length
   ·have hd:decide ((q:Int) < (l4.length:Int))=true:=decide_eq_true (by omega)
    have hq0:0≤(q:Int):=Int.natCast_nonneg q
    have hq3:(q:Int) < (l4.length:Int):=Int.ofNat_lt.mpr hql
    obtain ⟨ad4,hA4,hx4⟩:=Kd.at_bool (show Kd.C Kd.bool wr A4 l4.length l4 from (Kd.C_below (Aside0.out (by assumption)) (by repeat (first|exact Below.refl _ _|with_reducible apply zlN|with_reducible apply zlA|refine below_step ?_ (Aside0.out (by assumption)))))) (q:Int) hq0 hq3
    subst hA4
    rw [Int.toNat_natCast] at hx4
    rw [mb_rdOf] at hx4
    have hqw:=mb_w (show q≤300 by have:=hok.out;unfold okB at this;omega)
    by_cases hbq:l4.getD q false=true
    ·rw [hbq] at hx4
     have hq8:wrap64 ((q:Int) / 8)=(q:Int) / 8:=by
      have:(q:Int) < 300:=by have:=hok.out;unfold okB at this;omega
      unfold wrap64
      omega
     have hm0:0≤(q:Int) / 8:=by omega
     have hm8:(q:Int) / 8 < 8:=by have:=hok.out;unfold okB at this;omega
     obtain ⟨hx10,hf10⟩:=Kd.R_celln 0 ho.out ((q:Int) / 8) hm0 hm8
     have HP11:=Kd.R_putg ho.out ((q:Int) / 8) (orb (rd (mkN l4 q) ((q / 8:Nat):Int)) q)
     rw [mb_tq] at hx10 hf10 HP11
     have hh_:=zm HP11;clear HP11;have HP11:=hh_;clear hh_
     go_wp2_with (first|((with_reducible refine gate_ (.load 3 _) rfl ?_);refine Kd.event_run rfl (mb_c3 rfl rfl (zbB (Aside0.out (by assumption)) (by repeat (first|exact Below.refl _ _|with_reducible apply zlN|with_reducible apply zlA|refine below_step ?_ (Aside0.out (by assumption))))) rfl) ?_)|((with_reducible refine gate_ (.load 2 _) rfl ?_);refine Kd.event_run rfl (mb_c2 rfl rfl (zbB (Aside0.out (by assumption)) (by repeat (first|exact Below.refl _ _|with_reducible apply zlN|with_reducible apply zlA|refine below_step ?_ (Aside0.out (by assumption))))) rfl) ?_)|((with_reducible refine gate_ (.load 22 _) rfl ?_);refine Kd.event_run rfl (mb_c22 rfl rfl (zbB (Aside0.out (by assumption)) (by repeat (first|exact Below.refl _ _|with_reducible apply zlN|with_reducible apply zlA|refine below_step ?_ (Aside0.out (by assumption))))) rfl) ?_)|((with_reducible refine gate_ (.load 23 _) rfl ?_);refine Kd.event_run rfl (mb_c23 rfl rfl (zbB (Aside0.out (by assumption)) (by repeat (first|exact Below.refl _ _|with_reducible apply zlN|with_reducible apply zlA|refine below_step ?_ (Aside0.out (by assumption))))) rfl) ?_)|((with_reducible refine gate_ (.load 34 _) rfl ?_);refine Kd.event_run rfl (mb_c34 rfl rfl (zbB (Aside0.out (by assumption)) (by repeat (first|exact Below.refl _ _|with_reducible apply zlN|with_reducible apply zlA|refine below_step ?_ (Aside0.out (by assumption))))) rfl) ?_))
     go_roundw
     case rel=>exact ⟨q + 1,by first|with_reducible rfl|(rw [hqw];done)|rfl,⟨hql⟩,⟨by rw [mkN_yes hbq,mb_orb];exact HP11.out.1⟩,⟨zlS hb.out hg5.out⟩⟩
     case measure=>first|exact mb_m hql|(rw [hqw];exact mb_m hql)
    ·have hbq2:l4.getD q false=false:=by simpa using hbq
     rw [hbq2] at hx4
     go_wp2_with (first|((with_reducible refine gate_ (.load 3 _) rfl ?_);refine Kd.event_run rfl (mb_c3 rfl rfl (zbB (Aside0.out (by assumption)) (by repeat (first|exact Below.refl _ _|with_reducible apply zlN|with_reducible apply zlA|refine below_step ?_ (Aside0.out (by assumption))))) rfl) ?_)|((with_reducible refine gate_ (.load 2 _) rfl ?_);refine Kd.event_run rfl (mb_c2 rfl rfl (zbB (Aside0.out (by assumption)) (by repeat (first|exact Below.refl _ _|with_reducible apply zlN|with_reducible apply zlA|refine below_step ?_ (Aside0.out (by assumption))))) rfl) ?_)|((with_reducible refine gate_ (.load 22 _) rfl ?_);refine Kd.event_run rfl (mb_c22 rfl rfl (zbB (Aside0.out (by assumption)) (by repeat (first|exact Below.refl _ _|with_reducible apply zlN|with_reducible apply zlA|refine below_step ?_ (Aside0.out (by assumption))))) rfl) ?_)|((with_reducible refine gate_ (.load 23 _) rfl ?_);refine Kd.event_run rfl (mb_c23 rfl rfl (zbB (Aside0.out (by assumption)) (by repeat (first|exact Below.refl _ _|with_reducible apply zlN|with_reducible apply zlA|refine below_step ?_ (Aside0.out (by assumption))))) rfl) ?_)|((with_reducible refine gate_ (.load 34 _) rfl ?_);refine Kd.event_run rfl (mb_c34 rfl rfl (zbB (Aside0.out (by assumption)) (by repeat (first|exact Below.refl _ _|with_reducible apply zlN|with_reducible apply zlA|refine below_step ?_ (Aside0.out (by assumption))))) rfl) ?_))
     go_roundw
     case rel=>exact ⟨q + 1,by first|with_reducible rfl|(rw [hqw];done)|rfl,⟨hql⟩,⟨by rw [mkN_no hbq2];exact ho.out⟩,hb⟩
     case measure=>first|exact mb_m hql|(rw [hqw];exact mb_m hql)
   ·obtain rfl:q=l4.length:=by have:=hq.out;omega
    have hd:decide ((l4.length:Int) < (l4.length:Int))=false:=decide_eq_false (by omega)
    go_wp2_with (first|((with_reducible refine gate_ (.load 3 _) rfl ?_);refine Kd.event_run rfl (mb_c3 rfl rfl (zbB (Aside0.out (by assumption)) (by repeat (first|exact Below.refl _ _|with_reducible apply zlN|with_reducible apply zlA|refine below_step ?_ (Aside0.out (by assumption))))) rfl) ?_)|((with_reducible refine gate_ (.load 2 _) rfl ?_);refine Kd.event_run rfl (mb_c2 rfl rfl (zbB (Aside0.out (by assumption)) (by repeat (first|exact Below.refl _ _|with_reducible apply zlN|with_reducible apply zlA|refine below_step ?_ (Aside0.out (by assumption))))) rfl) ?_)|((with_reducible refine gate_ (.load 22 _) rfl ?_);refine Kd.event_run rfl (mb_c22 rfl rfl (zbB (Aside0.out (by assumption)) (by repeat (first|exact Below.refl _ _|with_reducible apply zlN|with_reducible apply zlA|refine below_step ?_ (Aside0.out (by assumption))))) rfl) ?_)|((with_reducible refine gate_ (.load 23 _) rfl ?_);refine Kd.event_run rfl (mb_c23 rfl rfl (zbB (Aside0.out (by assumption)) (by repeat (first|exact Below.refl _ _|with_reducible apply zlN|with_reducible apply zlA|refine below_step ?_ (Aside0.out (by assumption))))) rfl) ?_)|((with_reducible refine gate_ (.load 34 _) rfl ?_);refine Kd.event_run rfl (mb_c34 rfl rfl (zbB (Aside0.out (by assumption)) (by repeat (first|exact Below.refl _ _|with_reducible apply zlN|with_reducible apply zlA|refine below_step ?_ (Aside0.out (by assumption))))) rfl) ?_)|((with_reducible refine gate_builtin (b:=.append) (xs:=#[.tmp 66,.tmp 67]) rfl ?_);at_builtin;refine Kd.R_append_rows (Kd.int .u8) (w0:=wf) wf.heap.size rfl (.tmp 66) (.tmp 67) 67 5 (.int .u8 0) 1 rfl Try.underlying67 info5 rfl (by decide) (by omega) _ (mb1 a0 a1 a2 (l4.length + l6.length) ++ be 8 a3) (mkN l4 l4.length) _ 8 _ (fun _=>True) (fun _=>False) rfl rfl (Kd.R_below hoa.out hb.out) (by have h_:=(Kd.R_reads' ho.out).2.2;rw [mkN_len] at h_;exact h_) (fun _ _ h=>h) (fun _ h=>h.elim) (fun _ _=>trivial) (by repeat (first|exact Below.refl _ _|with_reducible apply zlN|with_reducible apply zlA|refine below_step ?_ (Aside0.out (by assumption)))) (below_size (by repeat (first|exact Below.refl _ _|with_reducible apply zlN|with_reducible apply zlA|refine below_step ?_ (Aside0.out (by assumption))))) (by rw [List.length_append,mb1_len,be_len];omega) ?_;intro vb w12 ho1 hb1 hg hat;clear hg hat ho;have hh_:=zm ho1;clear ho1;have ho1:=hh_;clear hh_;have hh_:=zm hb1;clear hb1;have hb1:=hh_;clear hh_;clear hb hoa hC4))
    have hb1l:((mb1 a0 a1 a2 (l4.length + l6.length) ++ be 8 a3) ++ mkN l4 l4.length).length≤32:=by rw [List.length_append,List.length_append,mb1_len,be_len,mkN_len];omega
    have hb1e:((mb1 a0 a1 a2 (l4.length + l6.length) ++ be 8 a3) ++ mkN l4 l4.length) ++ l5.flatMap (be 3)=mb2 a0 a1 a2 a3 l4 l5 (l4.length + l6.length):=by unfold mb2;rw [if_pos h1]
    generalize ((mb1 a0 a1 a2 (l4.length + l6.length) ++ be 8 a3) ++ mkN l4 l4.length)=b1 at ho1 hb1l hb1e
    have hh_:=zm hb1l;clear hb1l;have hb1l:=hh_;clear hh_;have hh_:=zm hb1e;clear hb1e;have hb1e:=hh_;clear hh_
    have hC5:=zm (show Kd.C (Kd.int .i64) wf A5 l5.length l5 from (Kd.C_below (Aside0.out (by assumption)) (by repeat (first|exact Below.refl _ _|with_reducible apply zlN|with_reducible apply zlA|refine below_step ?_ (Aside0.out (by assumption))))))
    have hl5:l5.length≤64:=by
     have hw5:=hok.out
     unfold okB at hw5
     omega
    have ho2:=zm (show (Kd.int .u8).R 5 _ wf.heap.size (fun _=>True) _ (b1 ++ (l5.take 0).flatMap (be 3)) from by rw [List.take_zero,List.flatMap_nil,List.append_nil];exact ho1.out)
    clear ho1
    go_loopw [5,8] (fun u v wi=>∃ q:Nat,v=.int .i64 (q:Int)∧Aside0 (q≤l5.length)∧Aside0 ((Kd.int .u8).R 5 wi wf.heap.size (fun _=>True) u (b1 ++ (l5.take q).flatMap (be 3)))∧Aside0 (Below wf.heap.size wf wi)) (fun _ v _=>l5.length - (intOf v).toNat)
    case atStart=>exact ⟨0,rfl,⟨Nat.zero_le _⟩,ho2,hb1⟩
    case round =>
     clear ho2 hb1
     obtain ⟨q,rfl,hq,ho,hb⟩:=hrel
     by_cases hql:q < l5.length
     ·have hd:decide ((q:Int) < (l5.length:Int))=true:=decide_eq_true (by omega)
      have hq0:0≤(q:Int):=Int.natCast_nonneg q
      have hq3:(q:Int) < (l5.length:Int):=Int.ofNat_lt.mpr hql
      obtain ⟨ad5,hA5,hx5⟩:=Kd.at_int (show Kd.C (Kd.int .i64) wr A5 l5.length l5 from (Kd.C_below (Aside0.out (by assumption)) (by repeat (first|exact Below.refl _ _|with_reducible apply zlN|with_reducible apply zlA|refine below_step ?_ (Aside0.out (by assumption)))))) (q:Int) hq0 hq3
      subst hA5
      rw [Int.toNat_natCast,mb_rd hql] at hx5
      have hqw:=mb_w (show q≤300 by omega)
      go_wp2_with (first|((with_reducible refine gate_ (.load 3 _) rfl ?_);refine Kd.event_run rfl (mb_c3 rfl rfl (zbB (Aside0.out (by assumption)) (by repeat (first|exact Below.refl _ _|with_reducible apply zlN|with_reducible apply zlA|refine below_step ?_ (Aside0.out (by assumption))))) rfl) ?_)|((with_reducible refine gate_ (.load 2 _) rfl ?_);refine Kd.event_run rfl (mb_c2 rfl rfl (zbB (Aside0.out (by assumption)) (by repeat (first|exact Below.refl _ _|with_reducible apply zlN|with_reducible apply zlA|refine below_step ?_ (Aside0.out (by assumption))))) rfl) ?_)|((with_reducible refine gate_ (.load 22 _) rfl ?_);refine Kd.event_run rfl (mb_c22 rfl rfl (zbB (Aside0.out (by assumption)) (by repeat (first|exact Below.refl _ _|with_reducible apply zlN|with_reducible apply zlA|refine below_step ?_ (Aside0.out (by assumption))))) rfl) ?_)|((with_reducible refine gate_ (.load 23 _) rfl ?_);refine Kd.event_run rfl (mb_c23 rfl rfl (zbB (Aside0.out (by assumption)) (by repeat (first|exact Below.refl _ _|with_reducible apply zlN|with_reducible apply zlA|refine below_step ?_ (Aside0.out (by assumption))))) rfl) ?_)|((with_reducible refine gate_ (.load 34 _) rfl ?_);refine Kd.event_run rfl (mb_c34 rfl rfl (zbB (Aside0.out (by assumption)) (by repeat (first|exact Below.refl _ _|with_reducible apply zlN|with_reducible apply zlA|refine below_step ?_ (Aside0.out (by assumption))))) rfl) ?_)|(go_at_call 77;refine (mb_rnum3 l5[q]).mono ?_;rintro e w9 ⟨A9,c9,rfl,hc9,hC9,hb9⟩;clear hc9;have hh_:=zm hC9;clear hC9;have hC9:=hh_;clear hh_;have hh_:=zm hb9;clear hb9;have hb9:=hh_;clear hh_)|((with_reducible refine gate_builtin (b:=.append) (xs:=#[.tmp 76,.tmp 82]) rfl ?_);at_builtin;refine Kd.R_append_rows (Kd.int .u8) (w0:=wf) wf.heap.size rfl (.tmp 76) (.tmp 82) 67 5 (.int .u8 0) 1 rfl Try.underlying67 info5 rfl (by decide) (by omega) _ (b1 ++ (l5.take q).flatMap (be 3)) (be 3 l5[q]) _ 3 _ (fun _=>True) (fun _=>False) rfl rfl (Kd.R_below ho.out hb9.out) hC9.out (fun _ _ h=>h) (fun _ h=>h.elim) (fun _ _=>trivial) (by repeat (first|exact Below.refl _ _|with_reducible apply zlN|with_reducible apply zlA|refine below_step ?_ (Aside0.out (by assumption)))) (below_size (by repeat (first|exact Below.refl _ _|with_reducible apply zlN|with_reducible apply zlA|refine below_step ?_ (Aside0.out (by assumption))))) (mb_cap5 hb1l.out hql hl5) ?_;intro vb w12 ho2 hb2 hg hat;clear hg hat ho;rw [List.append_assoc,← flat_snoc _ _ _ hql] at ho2;have hh_:=zm ho2;clear ho2;have ho2:=hh_;clear hh_;have hh_:=zm hb2;clear hb2;have hb2:=hh_;clear hh_;clear hb9 hC9))
      go_roundw
      case rel=>exact ⟨q + 1,by first|with_reducible rfl|(rw [hqw];done)|rfl,⟨hql⟩,ho2,hb2⟩
      case measure=>first|exact mb_m hql|(rw [hqw];exact mb_m hql)
     ·obtain rfl:q=l5.length:=by have:=hq.out;omega
      have hd:decide ((l5.length:Int) < (l5.length:Int))=false:=decide_eq_false (by omega)
      rw [List.take_length,hb1e.out] at ho
      go_wp2_with (first|((with_reducible refine gate_ (.load 3 _) rfl ?_);refine Kd.event_run rfl (mb_c3 rfl rfl (zbB (Aside0.out (by assumption)) (by repeat (first|exact Below.refl _ _|with_reducible apply zlN|with_reducible apply zlA|refine below_step ?_ (Aside0.out (by assumption))))) rfl) ?_)|((with_reducible refine gate_ (.load 2 _) rfl ?_);refine Kd.event_run rfl (mb_c2 rfl rfl (zbB (Aside0.out (by assumption)) (by repeat (first|exact Below.refl _ _|with_reducible apply zlN|with_reducible apply zlA|refine below_step ?_ (Aside0.out (by assumption))))) rfl) ?_)|((with_reducible refine gate_ (.load 22 _) rfl ?_);refine Kd.event_run rfl (mb_c22 rfl rfl (zbB (Aside0.out (by assumption)) (by repeat (first|exact Below.refl _ _|with_reducible apply zlN|with_reducible apply zlA|refine below_step ?_ (Aside0.out (by assumption))))) rfl) ?_)|((with_reducible refine gate_ (.load 23 _) rfl ?_);refine Kd.event_run rfl (mb_c23 rfl rfl (zbB (Aside0.out (by assumption)) (by repeat (first|exact Below.refl _ _|with_reducible apply zlN|with_reducible apply zlA|refine below_step ?_ (Aside0.out (by assumption))))) rfl) ?_)|((with_reducible refine gate_ (.load 34 _) rfl ?_);refine Kd.event_run rfl (mb_c34 rfl rfl (zbB (Aside0.out (by assumption)) (by repeat (first|exact Below.refl _ _|with_reducible apply zlN|with_reducible apply zlA|refine below_step ?_ (Aside0.out (by assumption))))) rfl) ?_))
      have hbl:=mb2_len hok.out a1 a2 a3
      generalize hb2e:mb2 a0 a1 a2 a3 l4 l5 (l4.length + l6.length)=b2 at ho hbl
      clear hb1e hb1l hC5 hl5
      have hh_:=zm hbl;clear hbl;have hbl:=hh_;clear hh_
      have hC6:=zm (show Kd.C k55 wf A6 l6.length l6 from (Kd.C_below (Aside0.out (by assumption)) (by repeat (first|exact Below.refl _ _|with_reducible apply zlN|with_reducible apply zlA|refine below_step ?_ (Aside0.out (by assumption))))))
      have hr0:=zm (show (Kd.int .u8).R 5 _ wf.heap.size (fun _=>True) _ (b2 ++ (l6.take 0).flatMap mbRec) from by rw [List.take_zero,List.flatMap_nil,List.append_nil];exact ho.out)
      clear ho
      have hl6:=mb_l6 hok.out
      go_loopw [5,9] (fun u v wi=>∃ q:Nat,v=.int .i64 (q:Int)∧Aside0 (q≤l6.length)∧Aside0 ((Kd.int .u8).R 5 wi wf.heap.size (fun _=>True) u (b2 ++ (l6.take q).flatMap mbRec))∧Aside0 (Below wf.heap.size wf wi)) (fun _ v _=>l6.length - (intOf v).toNat)
      case atStart=>exact ⟨0,rfl,⟨Nat.zero_le _⟩,hr0,hb⟩
      case round =>
       clear hr0 hb
       obtain ⟨q,rfl,hq,ho,hb⟩:=hrel
       by_cases hql:q < l6.length
       ·have hd:decide ((q:Int) < (l6.length:Int))=true:=decide_eq_true (by omega)
        have hq0:0≤(q:Int):=Int.natCast_nonneg q
        have hq3:(q:Int) < (l6.length:Int):=Int.ofNat_lt.mpr hql
        obtain ⟨ad6,hA6,hx0,hx1,hx2⟩:=at_T55 (show Kd.C k55 wr A6 l6.length l6 from (Kd.C_below (Aside0.out (by assumption)) (by repeat (first|exact Below.refl _ _|with_reducible apply zlN|with_reducible apply zlA|refine below_step ?_ (Aside0.out (by assumption)))))) (q:Int) hq0 hq3
        subst hA6
        rw [Int.toNat_natCast,mb_rdT hql] at hx0 hx1 hx2
        have hh_:=zm hx0;clear hx0;have hx0:=hh_;clear hh_;have hh_:=zm hx1;clear hx1;have hx1:=hh_;clear hh_;have hh_:=zm hx2;clear hx2;have hx2:=hh_;clear hh_
        have hqw:=mb_w (show q≤300 by omega)
        have hu55:=Try.underlying55
        go_wp2_with (first|((with_reducible refine gate_ (.load 3 _) rfl ?_);refine Kd.event_run rfl (mb_c3 rfl rfl (zbB (Aside0.out (by assumption)) (by repeat (first|exact Below.refl _ _|with_reducible apply zlN|with_reducible apply zlA|refine below_step ?_ (Aside0.out (by assumption))))) rfl) ?_)|((with_reducible refine gate_ (.load 2 _) rfl ?_);refine Kd.event_run rfl (mb_c2 rfl rfl (zbB (Aside0.out (by assumption)) (by repeat (first|exact Below.refl _ _|with_reducible apply zlN|with_reducible apply zlA|refine below_step ?_ (Aside0.out (by assumption))))) rfl) ?_)|((with_reducible refine gate_ (.load 22 _) rfl ?_);refine Kd.event_run rfl (mb_c22 rfl rfl (zbB (Aside0.out (by assumption)) (by repeat (first|exact Below.refl _ _|with_reducible apply zlN|with_reducible apply zlA|refine below_step ?_ (Aside0.out (by assumption))))) rfl) ?_)|((with_reducible refine gate_ (.load 23 _) rfl ?_);refine Kd.event_run rfl (mb_c23 rfl rfl (zbB (Aside0.out (by assumption)) (by repeat (first|exact Below.refl _ _|with_reducible apply zlN|with_reducible apply zlA|refine below_step ?_ (Aside0.out (by assumption))))) rfl) ?_)|((with_reducible refine gate_ (.load 34 _) rfl ?_);refine Kd.event_run rfl (mb_c34 rfl rfl (zbB (Aside0.out (by assumption)) (by repeat (first|exact Below.refl _ _|with_reducible apply zlN|with_reducible apply zlA|refine below_step ?_ (Aside0.out (by assumption))))) rfl) ?_)|((with_reducible refine gate_ (.alloc 55) rfl ?_);refine Cw.box_store rfl rfl rfl rfl rfl rfl (by first|(go_simp;done)|(go_simp;rfl)) (by first|(go_simp;done)|(go_simp;rfl)) ?_;rintro g11 hg wk hbk_ hb_;clear hg;have hh_:=zm hbk_;clear hbk_;have hbk_:=hh_;clear hh_;have hh_:=zm hb_;clear hb_;have hb_:=hh_;clear hh_)|((with_reducible refine gate_dst (N:=95) rfl ?_);refine Kd.event_run rfl (by apply mb_ld55;exact rfl;exact rfl;exact hx0.out;exact hx1.out;exact hx2.out) ?_))
        have hbw:=hb_.out
        refine mb_startS (fun w'=>Below wf.heap.size wf w'∧w'.heap[g11]?=some (.cells #[.int .i64 l6[q].f0,.int .i64 l6[q].f1,.int .i64 l6[q].f2] 55 (0,0))) [12] (by as_aux_lemma=>kernel_rfl) rfl (fun wd h_=>⟨below_step (below_step hb.out hbw) h_,zbB hbk_.out h_⟩) (fun wd h_=>?_)
        have hS:=(⟨below_step (below_step hb.out hbw) h_,zbB hbk_.out h_⟩:Below wf.heap.size wf wd∧wd.heap[g11]?=some (.cells #[.int .i64 l6[q].f0,.int .i64 l6[q].f1,.int .i64 l6[q].f2] 55 (0,0)))
        have hod:=zm (Kd.R_below ho.out (below_step hbw h_))
        clear hbw hbk_ hb_ h_
        refine Cw.dpu (i:=0) (v:=?_) (a':=?_) (by simp only [List.getElem?_toArray,List.getElem?_cons_succ,List.getElem?_cons_zero];rfl) rfl (by as_aux_lemma=>kernel_rfl) (by rfl) (by exact fun _ _ _ h=>h) ?_ ?_ ?_
        rotate_left
        ·intro w'
         go_simp
         with_reducible rfl
        rotate_left
        ·simp only [Act.put,List.setIfInBounds_toArray,List.set_cons_zero,List.set_cons_succ,i64_w,i32_w]
         rfl
        refine Cw.dpu (i:=1) (v:=?_) (a':=?_) (by simp only [List.getElem?_toArray,List.getElem?_cons_succ,List.getElem?_cons_zero];rfl) rfl (by as_aux_lemma=>kernel_rfl) (by rfl) (by exact fun _ _ _ h=>h) ?_ ?_ ?_
        rotate_left
        ·intro w'
         go_simp
         with_reducible rfl
        rotate_left
        ·simp only [Act.put,List.setIfInBounds_toArray,List.set_cons_zero,List.set_cons_succ,i64_w,i32_w]
         rfl
        refine Cw.dtkD (i:=2) (v:=?_) (a':=?_) (by simp only [List.getElem?_toArray,List.getElem?_cons_succ,List.getElem?_cons_zero];rfl) rfl (by as_aux_lemma=>kernel_rfl) (by rfl) (by exact fun _ _ _ h=>h) ?_ hS ?_ ?_
        rotate_left
        ·intro w' hs_
         apply Eq.trans
         ·apply mb_c3
          ·rfl
          ·rfl
          ·exact hs_.2
          ·rfl
         ·rfl
        rotate_left
        ·simp only [Act.put,List.setIfInBounds_toArray,List.set_cons_zero,List.set_cons_succ,i64_w,i32_w]
         rfl
        refine Cw.dpu (i:=3) (v:=?_) (a':=?_) (by simp only [List.getElem?_toArray,List.getElem?_cons_succ,List.getElem?_cons_zero];rfl) rfl (by as_aux_lemma=>kernel_rfl) (by rfl) (by exact fun _ _ _ h=>h) ?_ ?_ ?_
        rotate_left
        ·intro w'
         go_simp
         with_reducible rfl
        rotate_left
        ·simp only [Act.put,List.setIfInBounds_toArray,List.set_cons_zero,List.set_cons_succ,i64_w,i32_w]
         rfl
        refine Cw.dpu (i:=4) (v:=?_) (a':=?_) (by simp only [List.getElem?_toArray,List.getElem?_cons_succ,List.getElem?_cons_zero];rfl) rfl (by as_aux_lemma=>kernel_rfl) (by rfl) (by exact fun _ _ _ h=>h) ?_ ?_ ?_
        rotate_left
        ·intro w'
         go_simp
         with_reducible rfl
        rotate_left
        ·simp only [Act.put,List.setIfInBounds_toArray,List.set_cons_zero,List.set_cons_succ,i64_w,i32_w]
         rfl
        refine Cw.dtkD (i:=5) (v:=?_) (a':=?_) (by simp only [List.getElem?_toArray,List.getElem?_cons_succ,List.getElem?_cons_zero];rfl) rfl (by as_aux_lemma=>kernel_rfl) (by rfl) (by exact fun _ _ _ h=>h) ?_ hS ?_ ?_
        rotate_left
        ·intro w' hs_
         apply Eq.trans
         ·apply mb_c3
          ·rfl
          ·rfl
          ·exact hs_.2
          ·rfl
         ·rfl
        rotate_left
        ·simp only [Act.put,List.setIfInBounds_toArray,List.set_cons_zero,List.set_cons_succ,i64_w,i32_w]
         rfl
        refine Cw.dpu (i:=6) (v:=?_) (a':=?_) (by simp only [List.getElem?_toArray,List.getElem?_cons_succ,List.getElem?_cons_zero];rfl) rfl (by as_aux_lemma=>kernel_rfl) (by rfl) (by exact fun _ _ _ h=>h) ?_ ?_ ?_
        rotate_left
        ·intro w'
         go_simp
         with_reducible rfl
        rotate_left
        ·simp only [Act.put,List.setIfInBounds_toArray,List.set_cons_zero,List.set_cons_succ,i64_w,i32_w]
         rfl
        refine Cw.dpu (i:=9) (v:=?_) (a':=?_) (by simp only [List.getElem?_toArray,List.getElem?_cons_succ,List.getElem?_cons_zero];rfl) rfl (by as_aux_lemma=>kernel_rfl) (by rfl) (by exact fun _ _ _ h=>h) ?_ ?_ ?_
        rotate_left
        ·intro w'
         go_simp
         with_reducible rfl
        rotate_left
        ·simp only [Act.put,List.setIfInBounds_toArray,List.set_cons_zero,List.set_cons_succ,i64_w,i32_w]
         rfl
        refine Cw.dtkD (i:=10) (v:=?_) (a':=?_) (by simp only [List.getElem?_toArray,List.getElem?_cons_succ,List.getElem?_cons_zero];rfl) rfl (by as_aux_lemma=>kernel_rfl) (by rfl) (by exact fun _ _ _ h=>h) ?_ hS ?_ ?_
        rotate_left
        ·intro w' hs_
         apply Eq.trans
         ·apply mb_c2
          ·rfl
          ·rfl
          ·exact hs_.2
          ·rfl
         ·rfl
        rotate_left
        ·simp only [Act.put,List.setIfInBounds_toArray,List.set_cons_zero,List.set_cons_succ,i64_w,i32_w]
         rfl
        refine Cw.done1D (i:=7) (N:=some 103) (by simp only [List.getElem?_toArray,List.getElem?_cons_succ,List.getElem?_cons_zero];rfl) rfl (by as_aux_lemma=>kernel_rfl) (by decide) (fun K hK=>?_)
        refine Cw.dnew (fun g=>.slice (some ⟨g,0,none⟩) 2 2) (cs:=#[.int .u8 (l6[q].f0 % 256),.int .u8 (l6[q].f1 % 256)]) (t:=5) (by rfl) rfl (by first|(go_simp;done)|(go_simp;rfl)) ?_
        rintro g90 hg w90 hbk9 hb9
        have hS9:Below wf.heap.size wf w90∧w90.heap[g11]?=some (.cells #[.int .i64 l6[q].f0,.int .i64 l6[q].f1,.int .i64 l6[q].f2] 55 (0,0)):=⟨below_step hS.1 hb9,zbB hS.2 hb9⟩
        have ho9:=zm (Kd.R_below hod.out hb9)
        clear hS hod hg hb9
        refine hK.out _ _ hS9 (fun _=>?_)
        clear hK K
        refine norm_ (a':=?_) ?_ ?_
        rotate_left
        ·show Act.put _ (some 103) _=_
         simp only [Act.put,List.setIfInBounds_toArray,List.set_cons_zero,List.set_cons_succ,i64_w,i32_w]
         rfl
        refine Cw.done1D (i:=8) (N:=some 104) (by simp only [List.getElem?_toArray,List.getElem?_cons_succ,List.getElem?_cons_zero];rfl) rfl (by as_aux_lemma=>kernel_rfl) (by decide) (fun K hK=>?_)
        have hC9:=Cw.C_ints (k:=.u8) (xs:=[l6[q].f0 % 256,l6[q].f1 % 256]) hbk9 rfl (by simp)
        have hlq:=mb_bl (b2:=b2) hql
        apply Kd.R_append_rows_step (Kd.int .u8) (w0:=wf) wf.heap.size (by rfl) (.tmp 96) (.tmp 103) 67 5 (.int .u8 0) 1 rfl Try.underlying67 info5 rfl (by decide) (by decide) (xs:=b2 ++ (l6.take q).flatMap mbRec) (ys:=[l6[q].f0 % 256,l6[q].f1 % 256]) (ok:=fun _=>True) (okp:=fun _=>False) (HO:=ho9.out) (HR:=hC9) (hKM:=fun _ _ h=>h) (hokp:=fun _ h=>h.elim) (hfresh:=fun _ _=>trivial) (HB:=hS9.1) (hbase:=below_size hS9.1)
        case hs=>rfl
        case hx=>rfl
        case hl=>rw [hlq];exact mb_cap hbl.out hql
        clear hC9 hlq
        intro v91 w91 ho91 hb91 hg91 hat
        have hS91:Below wf.heap.size wf w91∧w91.heap[g11]?=some (.cells #[.int .i64 l6[q].f0,.int .i64 l6[q].f1,.int .i64 l6[q].f2] 55 (0,0)):=⟨hb91,(hg91.block g11 (blk_lt hS9.2) (Kd.R_ne ho9.out hS9.2 (by decide))).trans hS9.2⟩
        refine hK.out _ _ hS91 (fun _=>?_)
        clear hK K hat hg91 hS9 ho9 hbk9 hb91
        refine norm_ (a':=?_) ?_ ?_
        rotate_left
        ·show Act.put _ (some 104) _=_
         simp only [Act.put,List.setIfInBounds_toArray,List.set_cons_zero,List.set_cons_succ,i64_w,i32_w]
         rfl
        refine Cw.done1D (i:=11) (N:=some 107) (by simp only [List.getElem?_toArray,List.getElem?_cons_succ,List.getElem?_cons_zero];rfl) rfl (by as_aux_lemma=>kernel_rfl) (by decide) (fun K hK=>?_)
        refine goes_ Try.func77 (by as_aux_lemma=>kernel_rfl) rfl _ (by rfl) rfl rfl (by go_simp;rfl) ?_
        refine (mb_rnum8 l6[q].f2).mono ?_
        rintro e w92 ⟨A92,c92,rfl,hc92,hC92,hb92⟩
        refine ⟨_,rfl,?_⟩
        have hS92:Below wf.heap.size wf w92∧w92.heap[g11]?=some (.cells #[.int .i64 l6[q].f0,.int .i64 l6[q].f1,.int .i64 l6[q].f2] 55 (0,0)):=⟨below_step hS91.1 hb92,zbB hS91.2 hb92⟩
        have ho92:=zm (Kd.R_below ho91 hb92)
        clear hS91 hb92 ho91 hc92
        refine hK.out _ _ hS92 (fun _=>?_)
        clear hK K
        refine norm_ (a':=?_) ?_ ?_
        rotate_left
        ·show Act.put _ (some 107) _=_
         simp only [Act.put,List.setIfInBounds_toArray,List.set_cons_zero,List.set_cons_succ,i64_w,i32_w]
         rfl
        refine Cw.lastD (i:=12) (N:=some 108) (by simp only [List.getElem?_toArray,List.getElem?_cons_succ,List.getElem?_cons_zero];rfl) rfl (by as_aux_lemma=>kernel_rfl) (by decide) (fun K hK=>?_)
        apply Kd.R_append_rows_step (Kd.int .u8) (w0:=wf) wf.heap.size (by rfl) (.tmp 104) (.tmp 107) 67 5 (.int .u8 0) 1 rfl Try.underlying67 info5 rfl (by decide) (by decide) (xs:=b2 ++ (l6.take q).flatMap mbRec ++ [l6[q].f0 % 256,l6[q].f1 % 256]) (ys:=be 8 l6[q].f2) (m:=8) (A:=A92) (c:=c92) (ok:=fun _=>True) (okp:=fun _=>False) (HO:=ho92.out) (HR:=hC92) (hKM:=fun _ _ h=>h) (hokp:=fun _ h=>h.elim) (hfresh:=fun _ _=>trivial) (HB:=hS92.1) (hbase:=below_size hS92.1)
        case hs=>rfl
        case hx=>rfl
        case hl=>exact mb_cap8 hbl.out hql
        clear hC92 hS92 ho92
        intro v93 w93 ho93 hb93 hg93 hat
        clear hat hg93
        rw [mb_snoc hql] at ho93
        have hh_:=zm ho93;clear ho93;have ho93:=hh_;clear hh_;have hh_:=zm hb93;clear hb93;have hb93:=hh_;clear hh_
        refine hK.out _ _ ?_
        clear hK K
        refine norm_ (a':=?_) ?_ ?_
        rotate_left
        ·show Act.put _ (some 108) _=_
         simp only [Act.put,List.setIfInBounds_toArray,List.set_cons_zero,List.set_cons_succ,i64_w,i32_w]
         rfl
        refine Cw.dpu (i:=13) (v:=?_) (a':=?_) (by simp only [List.getElem?_toArray,List.getElem?_cons_succ,List.getElem?_cons_zero];rfl) rfl (by as_aux_lemma=>kernel_rfl) (by rfl) (by exact fun _ _ _ h=>h) ?_ ?_ ?_
        rotate_left
        ·intro w'
         go_simp
         with_reducible rfl
        rotate_left
        ·simp only [Act.put,List.setIfInBounds_toArray,List.set_cons_zero,List.set_cons_succ,i64_w,i32_w]
         rfl
        refine done_ (by as_aux_lemma=>kernel_rfl) ?_
        go_wp2
        go_roundw
        case rel=>exact ⟨q + 1,by first|with_reducible rfl|(rw [hqw];done)|rfl,⟨hql⟩,ho93,hb93⟩
        case measure=>first|exact mb_m hql|(rw [hqw];exact mb_m hql)
       ·obtain rfl:q=l6.length:=by have:=hq.out;omega
        have hd:decide ((l6.length:Int) < (l6.length:Int))=false:=decide_eq_false (by omega)
        rw [List.take_length] at ho
        have hl3:(b2 ++ l6.flatMap mbRec).length≤256:=mb3_len hbl.out
        generalize hb3e:b2 ++ l6.flatMap mbRec=b3 at ho hl3
        have hh_:=zm hl3;clear hl3;have hl3:=hh_;clear hh_
        obtain ⟨A3,c3,rfl⟩:=Kd.R_slice ho.out
        go_wp2_with (first|((with_reducible refine gate_ (.load 3 _) rfl ?_);refine Kd.event_run rfl (mb_c3 rfl rfl (zbB (Aside0.out (by assumption)) (by repeat (first|exact Below.refl _ _|with_reducible apply zlN|with_reducible apply zlA|refine below_step ?_ (Aside0.out (by assumption))))) rfl) ?_)|((with_reducible refine gate_ (.load 2 _) rfl ?_);refine Kd.event_run rfl (mb_c2 rfl rfl (zbB (Aside0.out (by assumption)) (by repeat (first|exact Below.refl _ _|with_reducible apply zlN|with_reducible apply zlA|refine below_step ?_ (Aside0.out (by assumption))))) rfl) ?_)|((with_reducible refine gate_ (.load 22 _) rfl ?_);refine Kd.event_run rfl (mb_c22 rfl rfl (zbB (Aside0.out (by assumption)) (by repeat (first|exact Below.refl _ _|with_reducible apply zlN|with_reducible apply zlA|refine below_step ?_ (Aside0.out (by assumption))))) rfl) ?_)|((with_reducible refine gate_ (.load 23 _) rfl ?_);refine Kd.event_run rfl (mb_c23 rfl rfl (zbB (Aside0.out (by assumption)) (by repeat (first|exact Below.refl _ _|with_reducible apply zlN|with_reducible apply zlA|refine below_step ?_ (Aside0.out (by assumption))))) rfl) ?_)|((with_reducible refine gate_ (.load 34 _) rfl ?_);refine Kd.event_run rfl (mb_c34 rfl rfl (zbB (Aside0.out (by assumption)) (by repeat (first|exact Below.refl _ _|with_reducible apply zlN|with_reducible apply zlA|refine below_step ?_ (Aside0.out (by assumption))))) rfl) ?_))
        have hr0:=zm (show (Kd.int .u8).R 5 wr wf.heap.size (fun _=>True) (.slice A3 (b3.length + 0) c3) (b3 ++ List.replicate 0 0) from by rw [List.replicate_zero,List.append_nil];exact ho.out)
        clear ho
        go_loopw [5] (fun u wi=>∃ (q:Nat) (A:Option Addr) (c:Nat),u=.slice A (b3.length + q) c∧Aside0 (b3.length + q≤256)∧Aside0 ((Kd.int .u8).R 5 wi wf.heap.size (fun _=>True) (.slice A (b3.length + q) c) (b3 ++ List.replicate q 0))∧Aside0 (Below wf.heap.size wf wi)) (fun u _=>256 - slen u)
        case atStart=>exact ⟨0,A3,c3,rfl,⟨hl3.out⟩,hr0,hb⟩
        case round =>
         clear hr0 hb hl3
         obtain ⟨q,A,c,rfl,hq,ho,hb⟩:=hrel
         by_cases hql:b3.length + q < 256
         ·have hd:decide (((b3.length + q:Nat):Int) < 256)=true:=decide_eq_true (by omega)
          go_wp2_with (first|((with_reducible refine gate_builtin (b:=.append) (xs:=#[.tmp 112,.tmp 113]) rfl ?_);at_builtin;refine Kd.R_append (Kd.int .u8) (w0:=wf) wf.heap.size rfl (.tmp 112) (.tmp 113) 67 5 (.int .u8 0) 1 rfl Try.underlying67 info5 rfl (by decide) (by omega) _ (b3 ++ List.replicate q 0) 0 [.int .u8 0] (fun _=>True) (fun _=>False) rfl rfl rfl (fun _ h=>h.elim) (fun _ _=>trivial) ho.out hb.out (below_size hb.out) (by rw [List.length_append,List.length_replicate];omega) ?_;intro vb w12 ho2 hb2 hg hat;clear hg hat ho;rw [mb_more] at ho2;obtain ⟨A2,c2,rfl⟩:=Kd.R_slice ho2;rw [mb_morel] at ho2;have hh_:=zm ho2;clear ho2;have ho2:=hh_;clear hh_;have hh_:=zm hb2;clear hb2;have hb2:=hh_;clear hh_))
          go_roundw
          case rel=>exact ⟨q + 1,A2,c2,rfl,⟨by omega⟩,ho2,hb2⟩
          case measure=>show 256 - (b3.length + (q + 1)) < 256 - (b3.length + q);omega
         ·have hd:decide (((b3.length + q:Nat):Int) < 256)=false:=decide_eq_false (by omega)
          go_wp2
          go_ret2
          refine ⟨_,rfl,?_,(by repeat (first|exact Below.refl _ _|with_reducible apply zlN|with_reducible apply zlA|refine below_step ?_ (Aside0.out (by assumption))))⟩
          show Kd.R (Kd.int .u8) 5 _ w.heap.size (fun _=>True) _ (mbo a0 a1 a2 a3 l4 l5 l6)
          have e3:mb3 a0 a1 a2 a3 l4 l5 l6=b3:=by rw [← hb3e,← hb2e];rfl
          unfold mbo
          rw [e3,show 256 - b3.length=q from by have:=hq.out;omega]
          exact Kd.R_lower (d:=Kd.int .u8) ho.out (below_size (by repeat (first|exact Below.refl _ _|with_reducible apply zlN|with_reducible apply zlA|refine below_step ?_ (Aside0.out (by assumption)))))
 ·have h1b:(a0 == 1)=false:=beq_eq_false_iff_ne.mpr h1
  go_wp2_with (first|((with_reducible refine gate_ (.load 3 _) rfl ?_);refine Kd.event_run rfl (mb_c3 rfl rfl (zbB (Aside0.out (by assumption)) (by repeat (first|exact Below.refl _ _|with_reducible apply zlN|with_reducible apply zlA|refine below_step ?_ (Aside0.out (by assumption))))) rfl) ?_)|((with_reducible refine gate_ (.load 2 _) rfl ?_);refine Kd.event_run rfl (mb_c2 rfl rfl (zbB (Aside0.out (by assumption)) (by repeat (first|exact Below.refl _ _|with_reducible apply zlN|with_reducible apply zlA|refine below_step ?_ (Aside0.out (by assumption))))) rfl) ?_)|((with_reducible refine gate_ (.load 22 _) rfl ?_);refine Kd.event_run rfl (mb_c22 rfl rfl (zbB (Aside0.out (by assumption)) (by repeat (first|exact Below.refl _ _|with_reducible apply zlN|with_reducible apply zlA|refine below_step ?_ (Aside0.out (by assumption))))) rfl) ?_)|((with_reducible refine gate_ (.load 23 _) rfl ?_);refine Kd.event_run rfl (mb_c23 rfl rfl (zbB (Aside0.out (by assumption)) (by repeat (first|exact Below.refl _ _|with_reducible apply zlN|with_reducible apply zlA|refine below_step ?_ (Aside0.out (by assumption))))) rfl) ?_)|((with_reducible refine gate_ (.load 34 _) rfl ?_);refine Kd.event_run rfl (mb_c34 rfl rfl (zbB (Aside0.out (by assumption)) (by repeat (first|exact Below.refl _ _|with_reducible apply zlN|with_reducible apply zlA|refine below_step ?_ (Aside0.out (by assumption))))) rfl) ?_))
  have hb1l:(mb1 a0 a1 a2 (l4.length + l6.length)).length≤32:=by rw [mb1_len];omega
  have hb1e:mb1 a0 a1 a2 (l4.length + l6.length) ++ l5.flatMap (be 3)=mb2 a0 a1 a2 a3 l4 l5 (l4.length + l6.length):=by
   have h5:=hok.out
   unfold okB at h5
   have:l5=[]:=List.eq_nil_of_length_eq_zero (by omega)
   unfold mb2
   rw [if_neg h1,this,List.flatMap_nil,List.append_nil]
  have ho1:=ho
  have hb1:=hb8
  clear ho hb8
  generalize mb1 a0 a1 a2 (l4.length + l6.length)=b1 at ho1 hb1l hb1e
  have hh_:=zm hb1l;clear hb1l;have hb1l:=hh_;clear hh_;have hh_:=zm hb1e;clear hb1e;have hb1e:=hh_;clear hh_
  have hC5:=zm (show Kd.C (Kd.int .i64) wf A5 l5.length l5 from (Kd.C_below (Aside0.out (by assumption)) (by repeat (first|exact Below.refl _ _|with_reducible apply zlN|with_reducible apply zlA|refine below_step ?_ (Aside0.out (by assumption))))))
  have hl5:l5.length≤64:=by
   have hw5:=hok.out
   unfold okB at hw5
   omega
  have ho2:=zm (show (Kd.int .u8).R 5 _ wf.heap.size (fun _=>True) _ (b1 ++ (l5.take 0).flatMap (be 3)) from by rw [List.take_zero,List.flatMap_nil,List.append_nil];exact ho1.out)
  clear ho1
  go_loopw [5,8] (fun u v wi=>∃ q:Nat,v=.int .i64 (q:Int)∧Aside0 (q≤l5.length)∧Aside0 ((Kd.int .u8).R 5 wi wf.heap.size (fun _=>True) u (b1 ++ (l5.take q).flatMap (be 3)))∧Aside0 (Below wf.heap.size wf wi)) (fun _ v _=>l5.length - (intOf v).toNat)
  case atStart=>exact ⟨0,rfl,⟨Nat.zero_le _⟩,ho2,hb1⟩
  case round =>
   clear ho2 hb1
   obtain ⟨q,rfl,hq,ho,hb⟩:=hrel
   by_cases hql:q < l5.length
   ·have hd:decide ((q:Int) < (l5.length:Int))=true:=decide_eq_true (by omega)
    have hq0:0≤(q:Int):=Int.natCast_nonneg q
    have hq3:(q:Int) < (l5.length:Int):=Int.ofNat_lt.mpr hql
    obtain ⟨ad5,hA5,hx5⟩:=Kd.at_int (show Kd.C (Kd.int .i64) wr A5 l5.length l5 from (Kd.C_below (Aside0.out (by assumption)) (by repeat (first|exact Below.refl _ _|with_reducible apply zlN|with_reducible apply zlA|refine below_step ?_ (Aside0.out (by assumption)))))) (q:Int) hq0 hq3
    subst hA5
    rw [Int.toNat_natCast,mb_rd hql] at hx5
    have hqw:=mb_w (show q≤300 by omega)
    go_wp2_with (first|((with_reducible refine gate_ (.load 3 _) rfl ?_);refine Kd.event_run rfl (mb_c3 rfl rfl (zbB (Aside0.out (by assumption)) (by repeat (first|exact Below.refl _ _|with_reducible apply zlN|with_reducible apply zlA|refine below_step ?_ (Aside0.out (by assumption))))) rfl) ?_)|((with_reducible refine gate_ (.load 2 _) rfl ?_);refine Kd.event_run rfl (mb_c2 rfl rfl (zbB (Aside0.out (by assumption)) (by repeat (first|exact Below.refl _ _|with_reducible apply zlN|with_reducible apply zlA|refine below_step ?_ (Aside0.out (by assumption))))) rfl) ?_)|((with_reducible refine gate_ (.load 22 _) rfl ?_);refine Kd.event_run rfl (mb_c22 rfl rfl (zbB (Aside0.out (by assumption)) (by repeat (first|exact Below.refl _ _|with_reducible apply zlN|with_reducible apply zlA|refine below_step ?_ (Aside0.out (by assumption))))) rfl) ?_)|((with_reducible refine gate_ (.load 23 _) rfl ?_);refine Kd.event_run rfl (mb_c23 rfl rfl (zbB (Aside0.out (by assumption)) (by repeat (first|exact Below.refl _ _|with_reducible apply zlN|with_reducible apply zlA|refine below_step ?_ (Aside0.out (by assumption))))) rfl) ?_)|((with_reducible refine gate_ (.load 34 _) rfl ?_);refine Kd.event_run rfl (mb_c34 rfl rfl (zbB (Aside0.out (by assumption)) (by repeat (first|exact Below.refl _ _|with_reducible apply zlN|with_reducible apply zlA|refine below_step ?_ (Aside0.out (by assumption))))) rfl) ?_)|(go_at_call 77;refine (mb_rnum3 l5[q]).mono ?_;rintro e w9 ⟨A9,c9,rfl,hc9,hC9,hb9⟩;clear hc9;have hh_:=zm hC9;clear hC9;have hC9:=hh_;clear hh_;have hh_:=zm hb9;clear hb9;have hb9:=hh_;clear hh_)|((with_reducible refine gate_builtin (b:=.append) (xs:=#[.tmp 76,.tmp 82]) rfl ?_);at_builtin;refine Kd.R_append_rows (Kd.int .u8) (w0:=wf) wf.heap.size rfl (.tmp 76) (.tmp 82) 67 5 (.int .u8 0) 1 rfl Try.underlying67 info5 rfl (by decide) (by omega) _ (b1 ++ (l5.take q).flatMap (be 3)) (be 3 l5[q]) _ 3 _ (fun _=>True) (fun _=>False) rfl rfl (Kd.R_below ho.out hb9.out) hC9.out (fun _ _ h=>h) (fun _ h=>h.elim) (fun _ _=>trivial) (by repeat (first|exact Below.refl _ _|with_reducible apply zlN|with_reducible apply zlA|refine below_step ?_ (Aside0.out (by assumption)))) (below_size (by repeat (first|exact Below.refl _ _|with_reducible apply zlN|with_reducible apply zlA|refine below_step ?_ (Aside0.out (by assumption))))) (mb_cap5 hb1l.out hql hl5) ?_;intro vb w12 ho2 hb2 hg hat;clear hg hat ho;rw [List.append_assoc,← flat_snoc _ _ _ hql] at ho2;have hh_:=zm ho2;clear ho2;have ho2:=hh_;clear hh_;have hh_:=zm hb2;clear hb2;have hb2:=hh_;clear hh_;clear hb9 hC9))
    go_roundw
    case rel=>exact ⟨q + 1,by first|with_reducible rfl|(rw [hqw];done)|rfl,⟨hql⟩,ho2,hb2⟩
    case measure=>first|exact mb_m hql|(rw [hqw];exact mb_m hql)
   ·obtain rfl:q=l5.length:=by have:=hq.out;omega
    have hd:decide ((l5.length:Int) < (l5.length:Int))=false:=decide_eq_false (by omega)
    rw [List.take_length,hb1e.out] at ho
    go_wp2_with (first|((with_reducible refine gate_ (.load 3 _) rfl ?_);refine Kd.event_run rfl (mb_c3 rfl rfl (zbB (Aside0.out (by assumption)) (by repeat (first|exact Below.refl _ _|with_reducible apply zlN|with_reducible apply zlA|refine below_step ?_ (Aside0.out (by assumption))))) rfl) ?_)|((with_reducible refine gate_ (.load 2 _) rfl ?_);refine Kd.event_run rfl (mb_c2 rfl rfl (zbB (Aside0.out (by assumption)) (by repeat (first|exact Below.refl _ _|with_reducible apply zlN|with_reducible apply zlA|refine below_step ?_ (Aside0.out (by assumption))))) rfl) ?_)|((with_reducible refine gate_ (.load 22 _) rfl ?_);refine Kd.event_run rfl (mb_c22 rfl rfl (zbB (Aside0.out (by assumption)) (by repeat (first|exact Below.refl _ _|with_reducible apply zlN|with_reducible apply zlA|refine below_step ?_ (Aside0.out (by assumption))))) rfl) ?_)|((with_reducible refine gate_ (.load 23 _) rfl ?_);refine Kd.event_run rfl (mb_c23 rfl rfl (zbB (Aside0.out (by assumption)) (by repeat (first|exact Below.refl _ _|with_reducible apply zlN|with_reducible apply zlA|refine below_step ?_ (Aside0.out (by assumption))))) rfl) ?_)|((with_reducible refine gate_ (.load 34 _) rfl ?_);refine Kd.event_run rfl (mb_c34 rfl rfl (zbB (Aside0.out (by assumption)) (by repeat (first|exact Below.refl _ _|with_reducible apply zlN|with_reducible apply zlA|refine below_step ?_ (Aside0.out (by assumption))))) rfl) ?_))
    have hbl:=mb2_len hok.out a1 a2 a3
    generalize hb2e:mb2 a0 a1 a2 a3 l4 l5 (l4.length + l6.length)=b2 at ho hbl
    clear hb1e hb1l hC5 hl5
    have hh_:=zm hbl;clear hbl;have hbl:=hh_;clear hh_
    have hC6:=zm (show Kd.C k55 wf A6 l6.length l6 from (Kd.C_below (Aside0.out (by assumption)) (by repeat (first|exact Below.refl _ _|with_reducible apply zlN|with_reducible apply zlA|refine below_step ?_ (Aside0.out (by assumption))))))
    have hr0:=zm (show (Kd.int .u8).R 5 _ wf.heap.size (fun _=>True) _ (b2 ++ (l6.take 0).flatMap mbRec) from by rw [List.take_zero,List.flatMap_nil,List.append_nil];exact ho.out)
    clear ho
    have hl6:=mb_l6 hok.out
    go_loopw [5,9] (fun u v wi=>∃ q:Nat,v=.int .i64 (q:Int)∧Aside0 (q≤l6.length)∧Aside0 ((Kd.int .u8).R 5 wi wf.heap.size (fun _=>True) u (b2 ++ (l6.take q).flatMap mbRec))∧Aside0 (Below wf.heap.size wf wi)) (fun _ v _=>l6.length - (intOf v).toNat)
    case atStart=>exact ⟨0,rfl,⟨Nat.zero_le _⟩,hr0,hb⟩
    case round =>
     clear hr0 hb
     obtain ⟨q,rfl,hq,ho,hb⟩:=hrel
     by_cases hql:q < l6.length
     ·have hd:decide ((q:Int) < (l6.length:Int))=true:=decide_eq_true (by omega)
      have hq0:0≤(q:Int):=Int.natCast_nonneg q
      have hq3:(q:Int) < (l6.length:Int):=Int.ofNat_lt.mpr hql
      obtain ⟨ad6,hA6,hx0,hx1,hx2⟩:=at_T55 (show Kd.C k55 wr A6 l6.length l6 from (Kd.C_below (Aside0.out (by assumption)) (by repeat (first|exact Below.refl _ _|with_reducible apply zlN|with_reducible apply zlA|refine below_step ?_ (Aside0.out (by assumption)))))) (q:Int) hq0 hq3
      subst hA6
      rw [Int.toNat_natCast,mb_rdT hql] at hx0 hx1 hx2
      have hh_:=zm hx0;clear hx0;have hx0:=hh_;clear hh_;have hh_:=zm hx1;clear hx1;have hx1:=hh_;clear hh_;have hh_:=zm hx2;clear hx2;have hx2:=hh_;clear hh_
      have hqw:=mb_w (show q≤300 by omega)
      have hu55:=Try.underlying55
      go_wp2_with (first|((with_reducible refine gate_ (.load 3 _) rfl ?_);refine Kd.event_run rfl (mb_c3 rfl rfl (zbB (Aside0.out (by assumption)) (by repeat (first|exact Below.refl _ _|with_reducible apply zlN|with_reducible apply zlA|refine below_step ?_ (Aside0.out (by assumption))))) rfl) ?_)|((with_reducible refine gate_ (.load 2 _) rfl ?_);refine Kd.event_run rfl (mb_c2 rfl rfl (zbB (Aside0.out (by assumption)) (by repeat (first|exact Below.refl _ _|with_reducible apply zlN|with_reducible apply zlA|refine below_step ?_ (Aside0.out (by assumption))))) rfl) ?_)|((with_reducible refine gate_ (.load 22 _) rfl ?_);refine Kd.event_run rfl (mb_c22 rfl rfl (zbB (Aside0.out (by assumption)) (by repeat (first|exact Below.refl _ _|with_reducible apply zlN|with_reducible apply zlA|refine below_step ?_ (Aside0.out (by assumption))))) rfl) ?_)|((with_reducible refine gate_ (.load 23 _) rfl ?_);refine Kd.event_run rfl (mb_c23 rfl rfl (zbB (Aside0.out (by assumption)) (by repeat (first|exact Below.refl _ _|with_reducible apply zlN|with_reducible apply zlA|refine below_step ?_ (Aside0.out (by assumption))))) rfl) ?_)|((with_reducible refine gate_ (.load 34 _) rfl ?_);refine Kd.event_run rfl (mb_c34 rfl rfl (zbB (Aside0.out (by assumption)) (by repeat (first|exact Below.refl _ _|with_reducible apply zlN|with_reducible apply zlA|refine below_step ?_ (Aside0.out (by assumption))))) rfl) ?_)|((with_reducible refine gate_ (.alloc 55) rfl ?_);refine Cw.box_store rfl rfl rfl rfl rfl rfl (by first|(go_simp;done)|(go_simp;rfl)) (by first|(go_simp;done)|(go_simp;rfl)) ?_;rintro g11 hg wk hbk_ hb_;clear hg;have hh_:=zm hbk_;clear hbk_;have hbk_:=hh_;clear hh_;have hh_:=zm hb_;clear hb_;have hb_:=hh_;clear hh_)|((with_reducible refine gate_dst (N:=95) rfl ?_);refine Kd.event_run rfl (by apply mb_ld55;exact rfl;exact rfl;exact hx0.out;exact hx1.out;exact hx2.out) ?_))
      have hbw:=hb_.out
      refine mb_startS (fun w'=>Below wf.heap.size wf w'∧w'.heap[g11]?=some (.cells #[.int .i64 l6[q].f0,.int .i64 l6[q].f1,.int .i64 l6[q].f2] 55 (0,0))) [12] (by as_aux_lemma=>kernel_rfl) rfl (fun wd h_=>⟨below_step (below_step hb.out hbw) h_,zbB hbk_.out h_⟩) (fun wd h_=>?_)
      have hS:=(⟨below_step (below_step hb.out hbw) h_,zbB hbk_.out h_⟩:Below wf.heap.size wf wd∧wd.heap[g11]?=some (.cells #[.int .i64 l6[q].f0,.int .i64 l6[q].f1,.int .i64 l6[q].f2] 55 (0,0)))
      have hod:=zm (Kd.R_below ho.out (below_step hbw h_))
      clear hbw hbk_ hb_ h_
      refine Cw.dpu (i:=0) (v:=?_) (a':=?_) (by simp only [List.getElem?_toArray,List.getElem?_cons_succ,List.getElem?_cons_zero];rfl) rfl (by as_aux_lemma=>kernel_rfl) (by rfl) (by exact fun _ _ _ h=>h) ?_ ?_ ?_
      rotate_left
      ·intro w'
       go_simp
       with_reducible rfl
      rotate_left
      ·simp only [Act.put,List.setIfInBounds_toArray,List.set_cons_zero,List.set_cons_succ,i64_w,i32_w]
       rfl
      refine Cw.dpu (i:=1) (v:=?_) (a':=?_) (by simp only [List.getElem?_toArray,List.getElem?_cons_succ,List.getElem?_cons_zero];rfl) rfl (by as_aux_lemma=>kernel_rfl) (by rfl) (by exact fun _ _ _ h=>h) ?_ ?_ ?_
      rotate_left
      ·intro w'
       go_simp
       with_reducible rfl
      rotate_left
      ·simp only [Act.put,List.setIfInBounds_toArray,List.set_cons_zero,List.set_cons_succ,i64_w,i32_w]
       rfl
      refine Cw.dtkD (i:=2) (v:=?_) (a':=?_) (by simp only [List.getElem?_toArray,List.getElem?_cons_succ,List.getElem?_cons_zero];rfl) rfl (by as_aux_lemma=>kernel_rfl) (by rfl) (by exact fun _ _ _ h=>h) ?_ hS ?_ ?_
      rotate_left
      ·intro w' hs_
       apply Eq.trans
       ·apply mb_c3
        ·rfl
        ·rfl
        ·exact hs_.2
        ·rfl
       ·rfl
      rotate_left
      ·simp only [Act.put,List.setIfInBounds_toArray,List.set_cons_zero,List.set_cons_succ,i64_w,i32_w]
       rfl
      refine Cw.dpu (i:=3) (v:=?_) (a':=?_) (by simp only [List.getElem?_toArray,List.getElem?_cons_succ,List.getElem?_cons_zero];rfl) rfl (by as_aux_lemma=>kernel_rfl) (by rfl) (by exact fun _ _ _ h=>h) ?_ ?_ ?_
      rotate_left
      ·intro w'
       go_simp
       with_reducible rfl
      rotate_left
      ·simp only [Act.put,List.setIfInBounds_toArray,List.set_cons_zero,List.set_cons_succ,i64_w,i32_w]
       rfl
      refine Cw.dpu (i:=4) (v:=?_) (a':=?_) (by simp only [List.getElem?_toArray,List.getElem?_cons_succ,List.getElem?_cons_zero];rfl) rfl (by as_aux_lemma=>kernel_rfl) (by rfl) (by exact fun _ _ _ h=>h) ?_ ?_ ?_
      rotate_left
      ·intro w'
       go_simp
       with_reducible rfl
      rotate_left
      ·simp only [Act.put,List.setIfInBounds_toArray,List.set_cons_zero,List.set_cons_succ,i64_w,i32_w]
       rfl
      refine Cw.dtkD (i:=5) (v:=?_) (a':=?_) (by simp only [List.getElem?_toArray,List.getElem?_cons_succ,List.getElem?_cons_zero];rfl) rfl (by as_aux_lemma=>kernel_rfl) (by rfl) (by exact fun _ _ _ h=>h) ?_ hS ?_ ?_
      rotate_left
      ·intro w' hs_
       apply Eq.trans
       ·apply mb_c3
        ·rfl
        ·rfl
        ·exact hs_.2
        ·rfl
       ·rfl
      rotate_left
      ·simp only [Act.put,List.setIfInBounds_toArray,List.set_cons_zero,List.set_cons_succ,i64_w,i32_w]
       rfl
      refine Cw.dpu (i:=6) (v:=?_) (a':=?_) (by simp only [List.getElem?_toArray,List.getElem?_cons_succ,List.getElem?_cons_zero];rfl) rfl (by as_aux_lemma=>kernel_rfl) (by rfl) (by exact fun _ _ _ h=>h) ?_ ?_ ?_
      rotate_left
      ·intro w'
       go_simp
       with_reducible rfl
      rotate_left
      ·simp only [Act.put,List.setIfInBounds_toArray,List.set_cons_zero,List.set_cons_succ,i64_w,i32_w]
       rfl
      refine Cw.dpu (i:=9) (v:=?_) (a':=?_) (by simp only [List.getElem?_toArray,List.getElem?_cons_succ,List.getElem?_cons_zero];rfl) rfl (by as_aux_lemma=>kernel_rfl) (by rfl) (by exact fun _ _ _ h=>h) ?_ ?_ ?_
      rotate_left
      ·intro w'
       go_simp
       with_reducible rfl
      rotate_left
      ·simp only [Act.put,List.setIfInBounds_toArray,List.set_cons_zero,List.set_cons_succ,i64_w,i32_w]
       rfl
      refine Cw.dtkD (i:=10) (v:=?_) (a':=?_) (by simp only [List.getElem?_toArray,List.getElem?_cons_succ,List.getElem?_cons_zero];rfl) rfl (by as_aux_lemma=>kernel_rfl) (by rfl) (by exact fun _ _ _ h=>h) ?_ hS ?_ ?_
      rotate_left
      ·intro w' hs_
       apply Eq.trans
       ·apply mb_c2
        ·rfl
        ·rfl
        ·exact hs_.2
        ·rfl
       ·rfl
      rotate_left
      ·simp only [Act.put,List.setIfInBounds_toArray,List.set_cons_zero,List.set_cons_succ,i64_w,i32_w]
       rfl
      refine Cw.done1D (i:=7) (N:=some 103) (by simp only [List.getElem?_toArray,List.getElem?_cons_succ,List.getElem?_cons_zero];rfl) rfl (by as_aux_lemma=>kernel_rfl) (by decide) (fun K hK=>?_)
      refine Cw.dnew (fun g=>.slice (some ⟨g,0,none⟩) 2 2) (cs:=#[.int .u8 (l6[q].f0 % 256),.int .u8 (l6[q].f1 % 256)]) (t:=5) (by rfl) rfl (by first|(go_simp;done)|(go_simp;rfl)) ?_
      rintro g90 hg w90 hbk9 hb9
      have hS9:Below wf.heap.size wf w90∧w90.heap[g11]?=some (.cells #[.int .i64 l6[q].f0,.int .i64 l6[q].f1,.int .i64 l6[q].f2] 55 (0,0)):=⟨below_step hS.1 hb9,zbB hS.2 hb9⟩
      have ho9:=zm (Kd.R_below hod.out hb9)
      clear hS hod hg hb9
      refine hK.out _ _ hS9 (fun _=>?_)
      clear hK K
      refine norm_ (a':=?_) ?_ ?_
      rotate_left
      ·show Act.put _ (some 103) _=_
       simp only [Act.put,List.setIfInBounds_toArray,List.set_cons_zero,List.set_cons_succ,i64_w,i32_w]
       rfl
      refine Cw.done1D (i:=8) (N:=some 104) (by simp only [List.getElem?_toArray,List.getElem?_cons_succ,List.getElem?_cons_zero];rfl) rfl (by as_aux_lemma=>kernel_rfl) (by decide) (fun K hK=>?_)
      have hC9:=Cw.C_ints (k:=.u8) (xs:=[l6[q].f0 % 256,l6[q].f1 % 256]) hbk9 rfl (by simp)
      have hlq:=mb_bl (b2:=b2) hql
      apply Kd.R_append_rows_step (Kd.int .u8) (w0:=wf) wf.heap.size (by rfl) (.tmp 96) (.tmp 103) 67 5 (.int .u8 0) 1 rfl Try.underlying67 info5 rfl (by decide) (by decide) (xs:=b2 ++ (l6.take q).flatMap mbRec) (ys:=[l6[q].f0 % 256,l6[q].f1 % 256]) (ok:=fun _=>True) (okp:=fun _=>False) (HO:=ho9.out) (HR:=hC9) (hKM:=fun _ _ h=>h) (hokp:=fun _ h=>h.elim) (hfresh:=fun _ _=>trivial) (HB:=hS9.1) (hbase:=below_size hS9.1)
      case hs=>rfl
      case hx=>rfl
      case hl=>rw [hlq];exact mb_cap hbl.out hql
      clear hC9 hlq
      intro v91 w91 ho91 hb91 hg91 hat
      have hS91:Below wf.heap.size wf w91∧w91.heap[g11]?=some (.cells #[.int .i64 l6[q].f0,.int .i64 l6[q].f1,.int .i64 l6[q].f2] 55 (0,0)):=⟨hb91,(hg91.block g11 (blk_lt hS9.2) (Kd.R_ne ho9.out hS9.2 (by decide))).trans hS9.2⟩
      refine hK.out _ _ hS91 (fun _=>?_)
      clear hK K hat hg91 hS9 ho9 hbk9 hb91
      refine norm_ (a':=?_) ?_ ?_
      rotate_left
      ·show Act.put _ (some 104) _=_
       simp only [Act.put,List.setIfInBounds_toArray,List.set_cons_zero,List.set_cons_succ,i64_w,i32_w]
       rfl
      refine Cw.done1D (i:=11) (N:=some 107) (by simp only [List.getElem?_toArray,List.getElem?_cons_succ,List.getElem?_cons_zero];rfl) rfl (by as_aux_lemma=>kernel_rfl) (by decide) (fun K hK=>?_)
      refine goes_ Try.func77 (by as_aux_lemma=>kernel_rfl) rfl _ (by rfl) rfl rfl (by go_simp;rfl) ?_
      refine (mb_rnum8 l6[q].f2).mono ?_
      rintro e w92 ⟨A92,c92,rfl,hc92,hC92,hb92⟩
      refine ⟨_,rfl,?_⟩
      have hS92:Below wf.heap.size wf w92∧w92.heap[g11]?=some (.cells #[.int .i64 l6[q].f0,.int .i64 l6[q].f1,.int .i64 l6[q].f2] 55 (0,0)):=⟨below_step hS91.1 hb92,zbB hS91.2 hb92⟩
      have ho92:=zm (Kd.R_below ho91 hb92)
      clear hS91 hb92 ho91 hc92
      refine hK.out _ _ hS92 (fun _=>?_)
      clear hK K
      refine norm_ (a':=?_) ?_ ?_
      rotate_left
      ·show Act.put _ (some 107) _=_
       simp only [Act.put,List.setIfInBounds_toArray,List.set_cons_zero,List.set_cons_succ,i64_w,i32_w]
       rfl
      refine Cw.lastD (i:=12) (N:=some 108) (by simp only [List.getElem?_toArray,List.getElem?_cons_succ,List.getElem?_cons_zero];rfl) rfl (by as_aux_lemma=>kernel_rfl) (by decide) (fun K hK=>?_)
      apply Kd.R_append_rows_step (Kd.int .u8) (w0:=wf) wf.heap.size (by rfl) (.tmp 104) (.tmp 107) 67 5 (.int .u8 0) 1 rfl Try.underlying67 info5 rfl (by decide) (by decide) (xs:=b2 ++ (l6.take q).flatMap mbRec ++ [l6[q].f0 % 256,l6[q].f1 % 256]) (ys:=be 8 l6[q].f2) (m:=8) (A:=A92) (c:=c92) (ok:=fun _=>True) (okp:=fun _=>False) (HO:=ho92.out) (HR:=hC92) (hKM:=fun _ _ h=>h) (hokp:=fun _ h=>h.elim) (hfresh:=fun _ _=>trivial) (HB:=hS92.1) (hbase:=below_size hS92.1)
      case hs=>rfl
      case hx=>rfl
      case hl=>exact mb_cap8 hbl.out hql
      clear hC92 hS92 ho92
      intro v93 w93 ho93 hb93 hg93 hat
      clear hat hg93
      rw [mb_snoc hql] at ho93
      have hh_:=zm ho93;clear ho93;have ho93:=hh_;clear hh_;have hh_:=zm hb93;clear hb93;have hb93:=hh_;clear hh_
      refine hK.out _ _ ?_
      clear hK K
      refine norm_ (a':=?_) ?_ ?_
      rotate_left
      ·show Act.put _ (some 108) _=_
       simp only [Act.put,List.setIfInBounds_toArray,List.set_cons_zero,List.set_cons_succ,i64_w,i32_w]
       rfl
      refine Cw.dpu (i:=13) (v:=?_) (a':=?_) (by simp only [List.getElem?_toArray,List.getElem?_cons_succ,List.getElem?_cons_zero];rfl) rfl (by as_aux_lemma=>kernel_rfl) (by rfl) (by exact fun _ _ _ h=>h) ?_ ?_ ?_
      rotate_left
      ·intro w'
       go_simp
       with_reducible rfl
      rotate_left
      ·simp only [Act.put,List.setIfInBounds_toArray,List.set_cons_zero,List.set_cons_succ,i64_w,i32_w]
       rfl
      refine done_ (by as_aux_lemma=>kernel_rfl) ?_
      go_wp2
      go_roundw
      case rel=>exact ⟨q + 1,by first|with_reducible rfl|(rw [hqw];done)|rfl,⟨hql⟩,ho93,hb93⟩
      case measure=>first|exact mb_m hql|(rw [hqw];exact mb_m hql)
     ·obtain rfl:q=l6.length:=by have:=hq.out;omega
      have hd:decide ((l6.length:Int) < (l6.length:Int))=false:=decide_eq_false (by omega)
      rw [List.take_length] at ho
      have hl3:(b2 ++ l6.flatMap mbRec).length≤256:=mb3_len hbl.out
      generalize hb3e:b2 ++ l6.flatMap mbRec=b3 at ho hl3
      have hh_:=zm hl3;clear hl3;have hl3:=hh_;clear hh_
      obtain ⟨A3,c3,rfl⟩:=Kd.R_slice ho.out
      go_wp2_with (first|((with_reducible refine gate_ (.load 3 _) rfl ?_);refine Kd.event_run rfl (mb_c3 rfl rfl (zbB (Aside0.out (by assumption)) (by repeat (first|exact Below.refl _ _|with_reducible apply zlN|with_reducible apply zlA|refine below_step ?_ (Aside0.out (by assumption))))) rfl) ?_)|((with_reducible refine gate_ (.load 2 _) rfl ?_);refine Kd.event_run rfl (mb_c2 rfl rfl (zbB (Aside0.out (by assumption)) (by repeat (first|exact Below.refl _ _|with_reducible apply zlN|with_reducible apply zlA|refine below_step ?_ (Aside0.out (by assumption))))) rfl) ?_)|((with_reducible refine gate_ (.load 22 _) rfl ?_);refine Kd.event_run rfl (mb_c22 rfl rfl (zbB (Aside0.out (by assumption)) (by repeat (first|exact Below.refl _ _|with_reducible apply zlN|with_reducible apply zlA|refine below_step ?_ (Aside0.out (by assumption))))) rfl) ?_)|((with_reducible refine gate_ (.load 23 _) rfl ?_);refine Kd.event_run rfl (mb_c23 rfl rfl (zbB (Aside0.out (by assumption)) (by repeat (first|exact Below.refl _ _|with_reducible apply zlN|with_reducible apply zlA|refine below_step ?_ (Aside0.out (by assumption))))) rfl) ?_)|((with_reducible refine gate_ (.load 34 _) rfl ?_);refine Kd.event_run rfl (mb_c34 rfl rfl (zbB (Aside0.out (by assumption)) (by repeat (first|exact Below.refl _ _|with_reducible apply zlN|with_reducible apply zlA|refine below_step ?_ (Aside0.out (by assumption))))) rfl) ?_))
      have hr0:=zm (show (Kd.int .u8).R 5 wr wf.heap.size (fun _=>True) (.slice A3 (b3.length + 0) c3) (b3 ++ List.replicate 0 0) from by rw [List.replicate_zero,List.append_nil];exact ho.out)
      clear ho
      go_loopw [5] (fun u wi=>∃ (q:Nat) (A:Option Addr) (c:Nat),u=.slice A (b3.length + q) c∧Aside0 (b3.length + q≤256)∧Aside0 ((Kd.int .u8).R 5 wi wf.heap.size (fun _=>True) (.slice A (b3.length + q) c) (b3 ++ List.replicate q 0))∧Aside0 (Below wf.heap.size wf wi)) (fun u _=>256 - slen u)
      case atStart=>exact ⟨0,A3,c3,rfl,⟨hl3.out⟩,hr0,hb⟩
      case round =>
       clear hr0 hb hl3
       obtain ⟨q,A,c,rfl,hq,ho,hb⟩:=hrel
       by_cases hql:b3.length + q < 256
       ·have hd:decide (((b3.length + q:Nat):Int) < 256)=true:=decide_eq_true (by omega)
        go_wp2_with (first|((with_reducible refine gate_builtin (b:=.append) (xs:=#[.tmp 112,.tmp 113]) rfl ?_);at_builtin;refine Kd.R_append (Kd.int .u8) (w0:=wf) wf.heap.size rfl (.tmp 112) (.tmp 113) 67 5 (.int .u8 0) 1 rfl Try.underlying67 info5 rfl (by decide) (by omega) _ (b3 ++ List.replicate q 0) 0 [.int .u8 0] (fun _=>True) (fun _=>False) rfl rfl rfl (fun _ h=>h.elim) (fun _ _=>trivial) ho.out hb.out (below_size hb.out) (by rw [List.length_append,List.length_replicate];omega) ?_;intro vb w12 ho2 hb2 hg hat;clear hg hat ho;rw [mb_more] at ho2;obtain ⟨A2,c2,rfl⟩:=Kd.R_slice ho2;rw [mb_morel] at ho2;have hh_:=zm ho2;clear ho2;have ho2:=hh_;clear hh_;have hh_:=zm hb2;clear hb2;have hb2:=hh_;clear hh_))
        go_roundw
        case rel=>exact ⟨q + 1,A2,c2,rfl,⟨by omega⟩,ho2,hb2⟩
        case measure=>show 256 - (b3.length + (q + 1)) < 256 - (b3.length + q);omega
       ·have hd:decide (((b3.length + q:Nat):Int) < 256)=false:=decide_eq_false (by omega)
        go_wp2
        go_ret2
        refine ⟨_,rfl,?_,(by repeat (first|exact Below.refl _ _|with_reducible apply zlN|with_reducible apply zlA|refine below_step ?_ (Aside0.out (by assumption))))⟩
        show Kd.R (Kd.int .u8) 5 _ w.heap.size (fun _=>True) _ (mbo a0 a1 a2 a3 l4 l5 l6)
        have e3:mb3 a0 a1 a2 a3 l4 l5 l6=b3:=by rw [← hb3e,← hb2e];rfl
        unfold mbo
        rw [e3,show 256 - b3.length=q from by have:=hq.out;omega]
        exact Kd.R_lower (d:=Kd.int .u8) ho.out (below_size (by repeat (first|exact Below.refl _ _|with_reducible apply zlN|with_reducible apply zlA|refine below_step ?_ (Aside0.out (by assumption)))))
end Go.Proofs.Ytkhbmgclklmimaa.Print
end
section
namespace Go.Proofs.Ytkhbmgclklmimaa.Print
open Go.RowKit Go.Proofs.YtkhbmgclklmimaaW.PrintWords Go.Proofs.YtkhbmgclklmimaaW.PrintLast Go.Proofs.YtkhbmgclklmimaaW.PrintMore
attribute [local go_sem] max2_int min2_int max_two min_two max_three min_three max_four min_four   -- for this text's walks alone
attribute [local go_sem ↓] Go.Proofs.Ytkhbmgclklmimaa.Sem.isSome_setCell
attribute [local go_sem] Go.Instr.field Go.asAgg
set_option linter.unusedVariables false
set_option linter.unusedSimpArgs false
def bytes_Equal.f (l0:List Int) (l1:List Int):Option (Bool):=some ((strOfNums l0).toList == (strOfNums l1).toList)
set_option maxHeartbeats 8000000 in
set_option maxRecDepth 100000 in
theorem bytes_Equal.calls (A0:Option Addr) (c0:Nat) (l0:List Int) (A1:Option Addr) (c1:Nat) (l1:List Int) (r:Bool) (w:World) (hr0:Kd.C (Kd.int .u8) w A0 l0.length l0) (hc0:l0.length≤c0) (hr1:Kd.C (Kd.int .u8) w A1 l1.length l1) (hc1:l1.length≤c1) (h:bytes_Equal.f l0 l1=some r) :
  Calls Try.prog 48 #[.slice A0 l0.length c0,.slice A1 l1.length c1] w fun e w'=>e=.returned (.bool r)∧Drawn0 w w':=by
 have HR0:=zm hr0
 have HC0:=zm hc0
 clear hr0 hc0
 have HR1:=zm hr1
 have HC1:=zm hc1
 clear hr1 hc1
 have H:(some ((strOfNums l0).toList == (strOfNums l1).toList))=some r:=h
 clear h
 obtain rfl:=Option.some.inj H
 have hcv3:=Kd.C_string (P:=Try.prog) (A:=A0) (c:=c0) Try.underlying67 Try.underlying5 Try.underlying9 HR0.out
 have hcv4:=Kd.C_string (P:=Try.prog) (A:=A1) (c:=c1) Try.underlying67 Try.underlying5 Try.underlying9 HR1.out
 go_enter Try.func48,Try.ntmps48
 go_wp2
 go_ret
 exact ⟨by first|rfl|(simp;done)|(simp [*];done),by repeat (first|exact Drawn0.refl _|apply Drawn0.step)⟩
-- NOT PRINTED: function 78 (mapjnl_reader_num)
end Go.Proofs.Ytkhbmgclklmimaa.Print
end
section
namespace Go.Proofs.Ytkhbmgclklmimaa.Print
open Go.RowKit Go.Proofs.YtkhbmgclklmimaaW.PrintWords Go.Proofs.YtkhbmgclklmimaaW.PrintLast Go.Proofs.YtkhbmgclklmimaaW.PrintMore
attribute [local go_sem] max2_int min2_int max_two min_two max_three min_three max_four min_four   -- for this text's walks alone
attribute [local go_sem ↓] Go.Proofs.Ytkhbmgclklmimaa.Sem.isSome_setCell
attribute [local go_sem] Go.Instr.field Go.asAgg
set_option linter.unusedVariables false
set_option linter.unusedSimpArgs false
def slipwayref06_number.l0:Nat → List Int → Int → Int → Option (Int)
 | 0,_,_,_=>none
 | k + 1,x0,x3,x4=>if x4 < (x0.length:Int) then (if 0≤x4 then (slipwayref06_number.l0 k x0 (Go.bits .or .u64 (IntKind.u64.wrap (x3 * 256)) (IntKind.u64.wrap (rd x0 x4))) (wrap64 (x4 + 1))) else (none)) else (some (wrap64 (x3)))
def slipwayref06_number.f (k:Nat) (l0:List Int):Option (Int):=slipwayref06_number.l0 k l0 0 0
set_option maxHeartbeats 8000000 in
set_option maxRecDepth 100000 in
theorem slipwayref06_number.calls (k:Nat) (A0:Option Addr) (c0:Nat) (l0:List Int) (r:Int) (w:World) (hr0:Kd.C (Kd.int .u8) w A0 l0.length l0) (hc0:l0.length≤c0) (h:slipwayref06_number.f k l0=some r) :
  Calls Try.prog 79 #[.slice A0 l0.length c0] w fun e w'=>e=.returned (.int .i64 r)∧Drawn0 w w':=by
 have HR0:=zm hr0
 have HC0:=zm hc0
 clear hr0 hc0
 have H:(slipwayref06_number.l0 k l0 0 0)=some r:=h
 clear h
 have H':=zm H
 clear H
 go_enter Try.func79,Try.ntmps79
 go_wp2
 go_loopg [3,4] k (fun kq v3 v4 w'=>∃ (x3_1:Int) (x4_1:Int),v3=.int .u64 x3_1∧v4=.int .i64 x4_1∧Aside0 (slipwayref06_number.l0 kq l0 x3_1 x4_1=some r)∧Aside0 (kq≤k)∧Drawn0 w w')
 case atStart=>exact ⟨(0),(0),(by first|rfl|(simp;done)|(simp [*];done)),(by first|rfl|(simp;done)|(simp [*];done)),H',⟨Nat.le_refl _⟩,by repeat (first|exact Drawn0.refl _|apply Drawn0.step)⟩
 case round =>
  clear H'
  obtain ⟨x3_1,x4_1,rfl,rfl,HA,HK1,⟨m1,rfl⟩⟩:=hrel
  cases gk with
  | zero=>exact absurd HA.out (by simp [slipwayref06_number.l0])
  | succ k1 =>
   have H:=HA.out
   clear HA
   simp only [slipwayref06_number.l0] at H
   by_cases c2:x4_1 < (l0.length:Int)
   ·rw [if_pos c2] at H
    have c2b0:decide (x4_1 < (l0.length:Int))=true:=decide_eq_true c2
    clear c2
    by_cases c3:0≤x4_1
    ·rw [if_pos c3] at H
     have c3b0:decide (0≤x4_1)=true:=decide_eq_true c3
     clear c3
     have H':=zm H
     clear H
     have p766:0≤(x4_1:Int):=of_decide_eq_true (by first|(with_reducible assumption)|assumption)
     have q766:x4_1 < (l0.length:Int):=of_decide_eq_true (by first|(with_reducible assumption)|assumption)
     obtain ⟨ad766,e766,hx766_0⟩:=Kd.at_int HR0.out x4_1 p766 q766
     cases e766
     replace p766:=eq_true p766
     replace q766:=eq_true q766
     go_wp2
     go_roundg k1
     case measure=>have:=HK1.out;omega
     case rel=>exact ⟨(Go.bits .or .u64 (IntKind.u64.wrap (x3_1 * 256)) (IntKind.u64.wrap (rd l0 x4_1))),(wrap64 (x4_1 + 1)),(by first|rfl|(simp;done)|(simp [*];done)),(by first|rfl|(simp;done)|(simp [*];done)),H',⟨by have:=HK1.out;omega⟩,by repeat (first|exact Drawn0.refl _|apply Drawn0.step)⟩
    ·rw [if_neg c3] at H
     exact absurd H (by simp)
   ·rw [if_neg c2] at H
    have c2b0:decide (x4_1 < (l0.length:Int))=false:=decide_eq_false c2
    clear c2
    obtain rfl:=Option.some.inj H
    go_wp2
    go_ret
    exact ⟨by first|rfl|(simp;done)|(simp [*];done),by repeat (first|exact Drawn0.refl _|apply Drawn0.step)⟩
end Go.Proofs.Ytkhbmgclklmimaa.Print
end
section
namespace Go.Proofs.Ytkhbmgclklmimaa.Print
open Go.RowKit Go.Proofs.YtkhbmgclklmimaaW.PrintWords Go.Proofs.YtkhbmgclklmimaaW.PrintLast Go.Proofs.YtkhbmgclklmimaaW.PrintMore
attribute [local go_sem] max2_int min2_int max_two min_two max_three min_three max_four min_four   -- for this text's walks alone
attribute [local go_sem ↓] Go.Proofs.Ytkhbmgclklmimaa.Sem.isSome_setCell
attribute [local go_sem] Go.Instr.field Go.asAgg
set_option linter.unusedVariables false
set_option linter.unusedSimpArgs false
-- CX
def bev (l:List Int):Int:=l.foldl (fun n c=>n * 256 + c) 0
def pNum (l:List Int):Int:=wrap64 (bev l)
def okY (l:List Int):Prop:=∀ x ∈ l,0≤x∧x < 256
instance (l:List Int):Decidable (okY l):=by unfold okY;infer_instance
theorem pa_mod (z:Int):wrap64 z % 18446744073709551616=z % 18446744073709551616:=by unfold wrap64;omega
theorem pa_or (n c:Int) (h0:0≤c) (h1:c < 256):((BitVec.ofInt 64 (n * 256)) ||| BitVec.ofInt 64 c).toNat=((n * 256 + c) % 18446744073709551616).toNat:=by
 rw [BitVec.toNat_or,BitVec.toNat_ofInt,BitVec.toNat_ofInt]
 have e1:(n * 256 % ((2 ^ 64:Nat):Int)).toNat=2 ^ 8 * (n % 72057594037927936).toNat:=by
  have:((2 ^ 64:Nat):Int)=18446744073709551616:=by decide
  rw [this]
  omega
 have e2:(c % ((2 ^ 64:Nat):Int)).toNat=c.toNat:=by
  have:((2 ^ 64:Nat):Int)=18446744073709551616:=by decide
  rw [this]
  omega
 have h8:c.toNat < 2 ^ 8:=by
  have:(2:Nat) ^ 8=256:=by decide
  omega
 rw [e1,e2,← Nat.two_pow_add_eq_or_of_lt h8]
 omega
theorem pa_of64 (k:IntKind) (hk:k.bits=64) (z y:Int) (h:z % 18446744073709551616=y % 18446744073709551616):BitVec.ofInt 64 z=BitVec.ofInt 64 y:=by
 apply BitVec.eq_of_toNat_eq
 rw [BitVec.toNat_ofInt,BitVec.toNat_ofInt]
 have:((2 ^ 64:Nat):Int)=18446744073709551616:=by decide
 rw [this,h]
theorem pa_i64 (n c:Int) (h0:0≤c) (h1:c < 256):Go.bits .or .i64 (wrap64 (n * 256)) c=wrap64 (n * 256 + c):=by
 have e:=pa_of64 .i64 rfl (wrap64 (n * 256)) (n * 256) (pa_mod _)
 show IntKind.i64.wrap (((BitVec.ofInt 64 (wrap64 (n * 256))) ||| BitVec.ofInt 64 c).toNat:Int)=_
 rw [e,pa_or n c h0 h1,i64_w]
 unfold wrap64
 omega
theorem pa_u64 (n c:Int) (h0:0≤c) (h1:c < 256):Go.bits .or .u64 (IntKind.u64.wrap (n * 256)) c=IntKind.u64.wrap (n * 256 + c):=by
 have w:∀ z,IntKind.u64.wrap z=z % 18446744073709551616:=fun z=>rfl
 have e:=pa_of64 .u64 rfl (IntKind.u64.wrap (n * 256)) (n * 256) (by rw [w];omega)
 show IntKind.u64.wrap (((BitVec.ofInt 64 (IntKind.u64.wrap (n * 256))) ||| BitVec.ofInt 64 c).toNat:Int)=_
 rw [e,pa_or n c h0 h1,w,w]
 omega
theorem pNum_nil:pNum []=0:=by unfold pNum bev wrap64;decide
theorem bev_snoc (l:List Int) (q:Nat) (h:q < l.length):bev (l.take (q + 1))=bev (l.take q) * 256 + l[q]:=by
 unfold bev
 rw [List.take_add_one,List.getElem?_eq_getElem h,List.foldl_append]
 rfl
theorem pNum_snoc (l:List Int) (q:Nat) (h:q < l.length):pNum (l.take (q + 1))=wrap64 (pNum (l.take q) * 256 + l[q]):=by
 unfold pNum
 rw [bev_snoc l q h]
 unfold wrap64
 omega
theorem pa_w {q:Nat} (h:q≤1000):wrap64 ((q:Int) + 1)=((q + 1:Nat):Int):=by unfold wrap64;omega
theorem number_step (l:List Int) (ho:okY l):∀ (d q:Nat),l.length - q=d → q≤l.length → ∀ k,d < k → l.length≤1000 → slipwayref06_number.l0 k l (IntKind.u64.wrap (bev (l.take q))) (q:Int)=some (pNum l)
 | 0,q,hd,hq,k,hk,_=>by
  obtain ⟨k,rfl⟩:∃ m,k=m + 1:=⟨k - 1,by omega⟩
  simp only [slipwayref06_number.l0]
  rw [if_neg (by omega),List.take_of_length_le (by omega)]
  have w:∀ z,IntKind.u64.wrap z=z % 18446744073709551616:=fun z=>rfl
  unfold pNum
  rw [w]
  congr 1
  unfold wrap64
  omega
 | d + 1,q,hd,hq,k,hk,hl=>by
  obtain ⟨k,rfl⟩:∃ m,k=m + 1:=⟨k - 1,by omega⟩
  have hql:q < l.length:=by omega
  have w:∀ z,IntKind.u64.wrap z=z % 18446744073709551616:=fun z=>rfl
  obtain ⟨h0,h1⟩:=ho l[q] (List.getElem_mem hql)
  simp only [slipwayref06_number.l0]
  rw [if_pos (by omega),if_pos (by omega),mb_rd hql,pa_w (by omega)]
  have e:Go.bits .or .u64 (IntKind.u64.wrap (IntKind.u64.wrap (bev (l.take q)) * 256)) (IntKind.u64.wrap l[q])=IntKind.u64.wrap (bev (l.take (q + 1))):=by
   have e1:IntKind.u64.wrap l[q]=l[q]:=by rw [w];omega
   rw [e1,pa_u64 _ _ h0 h1,bev_snoc l q hql,w,w,w]
   omega
  rw [e]
  exact number_step l ho d (q + 1) (by omega) (by omega) k (by omega) hl
theorem number_is (l:List Int) (ho:okY l) (hl:l.length≤1000):slipwayref06_number.f (l.length + 1) l=some (pNum l):=by
 unfold slipwayref06_number.f
 exact number_step l ho l.length 0 (by omega) (by omega) _ (by omega) hl
theorem pa_number (A:Option Addr) (c:Nat) (l:List Int) (w:World) (ho:okY l) (hl:l.length≤1000) (hC:(Kd.int .u8).C w A l.length l) (hc:l.length≤c) :
  Calls Try.prog 79 #[.slice A l.length c] w fun e w'=>e=.returned (.int .i64 (pNum l))∧Below w.heap.size w w':=by
 refine (slipwayref06_number.calls (l.length + 1) A c l (pNum l) w hC hc (number_is l ho hl)).mono ?_
 rintro e w' ⟨rfl,hD⟩
 exact ⟨rfl,hD.below⟩
def zero7:Array Value:=#[.int .i64 0,.int .i64 0,.int .i64 0,.int .i64 0,.slice none 0 0,.slice none 0 0,.slice none 0 0]
theorem pa_E:k55.E=[]:=rfl
structure PSt (w W:World) (g2 g5:Nat) (cs:Array Value) (vB:Value) (lB:List Bool) (vW:Value) (lW:List Int) (vR:Value) (lR:List S55):Prop where
 below:Below w.heap.size w W
 h2:W.heap[g2]?=some (.cells zero7 42 (0,0))
 h5:W.heap[g5]?=some (.cells cs 42 (0,0))
 b2:w.heap.size≤g2
 b5:w.heap.size≤g5
 ne:g2≠g5
 rB:Kd.bool.R 4 W w.heap.size (fun _=>True) vB lB
 rW:(Kd.int .i64).R 2 W w.heap.size (fun _=>True) vW lW
 rR:k55.R 55 W w.heap.size (fun _=>True) vR lR
structure PgV where
 k:Int
 gen:Int
 part:Int
 seq:Int
 bad:List Bool
 wear:List Int
 recs:List S55
def pB (b:List Int) (o:Nat):Int:=b.getD o 0
theorem pB_eq {b:List Int} {o:Nat} (h:o < b.length):pB b o=b[o]:=by unfold pB;rw [List.getD_eq_getElem?_getD,List.getElem?_eq_getElem h];rfl
theorem pB_mem {b:List Int} {o:Nat} (h:o < b.length):pB b o ∈ b:=by rw [pB_eq h];exact List.getElem_mem h
def pBit (b:List Int) (i:Nat):Bool:=decide (pB b (24 + i / 8) / 2 ^ (i % 8) % 2=1)
def pBad (b:List Int) (q:Nat):List Bool:=(List.range q).map (pBit b)
def pWr (b:List Int) (i:Nat):Int:=pNum ((b.drop (32 + 3 * i)).take 3)
def pWear (b:List Int) (q:Nat):List Int:=(List.range q).map (pWr b)
def pRec (b:List Int) (i:Nat):S55:=⟨pB b (16 + 10 * i),pB b (16 + 10 * i + 1),pNum ((b.drop (16 + 10 * i + 2)).take 8)⟩
def pRecs (b:List Int) (q:Nat):List S55:=(List.range q).map (pRec b)
theorem pBad_snoc (b:List Int) (q:Nat):pBad b (q + 1)=pBad b q ++ [pBit b q]:=by unfold pBad;rw [List.range_succ,List.map_append];rfl
theorem pWear_snoc (b:List Int) (q:Nat):pWear b (q + 1)=pWear b q ++ [pWr b q]:=by unfold pWear;rw [List.range_succ,List.map_append];rfl
theorem pRecs_snoc (b:List Int) (q:Nat):pRecs b (q + 1)=pRecs b q ++ [pRec b q]:=by unfold pRecs;rw [List.range_succ,List.map_append];rfl
def pN (b:List Int):Nat:=(pB b 2).toNat
def pGen (b:List Int):Int:=pNum ((b.drop 8).take 8)
def pSeq (b:List Int):Int:=pNum ((b.drop 16).take 8)
def pOk (b:List Int):Prop:=(pB b 0=1∧pB b 2≤64)∨(pB b 0=2∧pB b 2≤24)
instance (b:List Int):Decidable (pOk b):=by unfold pOk;infer_instance
def pc (b:List Int):PgV :=
 if pB b 0=1∧pB b 2≤64 then ⟨1,pGen b,pB b 1,pSeq b,pBad b (pN b),pWear b (pN b),[]⟩
 else if pB b 0=2∧pB b 2≤24 then ⟨2,pGen b,pB b 1,0,[],[],pRecs b (pN b)⟩
 else ⟨pB b 0,pGen b,pB b 1,0,[],[],[]⟩
theorem pNum1 (b:List Int) (o:Nat) (h:o < b.length) (ho:okY b):pNum ((b.drop o).take 1)=pB b o:=by
 have e:(b.drop o).take 1=[b[o]]:=by
  rw [List.drop_eq_getElem_cons h,List.take_succ_cons,List.take_zero]
 obtain ⟨h0,h1⟩:=ho b[o] (List.getElem_mem h)
 rw [e,pB_eq h]
 show wrap64 (0 * 256 + b[o])=b[o]
 unfold wrap64
 omega
section
variable {w W W1 : World} {g2 g5 gr : Nat} {cs cr : Array Value} {vB vW vR : Value} {lB : List Bool} {lW : List Int} {lR : List S55}
theorem PSt.go (h:PSt w W g2 g5 cs vB lB vW lW vR lR) (hb:Below W.heap.size W W1):PSt w W1 g2 g5 cs vB lB vW lW vR lR :=
 ⟨below_step h.below hb,zbB h.h2 hb,zbB h.h5 hb,h.b2,h.b5,h.ne,Kd.R_below h.rB hb,Kd.R_below h.rW hb,Kd.R_below h.rR hb⟩
theorem pa_other {g gr t:Nat} {cs:Array Value} (h:W.heap[g]?=some (.cells cs t (0,0))) (hne:g≠gr) (i:Nat) (v:Value):(W.setCell ⟨gr,i,none⟩ v).heap[g]?=some (.cells cs t (0,0)):=(Below.heap_setCell W ⟨gr,i,none⟩ v _ hne).trans h
theorem pa_ne {g g' t t':Nat} {cs cs':Array Value} (h:W.heap[g]?=some (.cells cs t (0,0))) (h':W.heap[g']?=some (.cells cs' t' (0,0))) (ht:t≠t'):g≠g':=by
 rintro rfl
 rw [h] at h'
 simp only [Option.some.injEq,Obj.cells.injEq] at h'
 exact ht h'.2.1
theorem PSt.reader (h:PSt w W g2 g5 cs vB lB vW lW vR lR) (hr:W.heap[gr]?=some (.cells cr 100 (0,0))) (hg:w.heap.size≤gr) (v:Value):PSt w (W.setCell ⟨gr,0,none⟩ v) g2 g5 cs vB lB vW lW vR lR :=
 ⟨zlS h.below hg,pa_other h.h2 (pa_ne h.h2 hr (by decide)) 0 v,pa_other h.h5 (pa_ne h.h5 hr (by decide)) 0 v,h.b2,h.b5,h.ne,
  Kd.R_set h.rB hr (by intro q hq;simp [Kd.bool,Kd.scalar] at hq;omega) 0 v,Kd.R_set h.rW hr (by intro q hq;simp [Kd.int,Kd.scalar] at hq;omega) 0 v,Kd.R_set h.rR hr (by intro q hq;rw [pa_E] at hq;simp at hq;omega) 0 v⟩
theorem PSt.cell (h:PSt w W g2 g5 cs vB lB vW lW vR lR) (i:Nat) (v:Value):PSt w (W.setCell ⟨g5,i,none⟩ v) g2 g5 (cs.setIfInBounds i v) vB lB vW lW vR lR :=
 ⟨zlS h.below h.b5,pa_other h.h2 h.ne i v,blk_set h.h5 i v,h.b2,h.b5,h.ne,
  Kd.R_set h.rB h.h5 (by intro q hq;simp [Kd.bool,Kd.scalar] at hq;omega) i v,Kd.R_set h.rW h.h5 (by intro q hq;simp [Kd.int,Kd.scalar] at hq;omega) i v,Kd.R_set h.rR h.h5 (by intro q hq;rw [pa_E] at hq;simp at hq;omega) i v⟩
theorem pa_row {α:Type} {d:Kd α} {e base g t:Nat} {ok:Nat → Prop} {v:Value} {xs:List α} {cs:Array Value} (h:W.heap[g]?=some (.cells cs t (0,0))) (hR:d.R e W base ok v xs) (hg:W.grownBy W1 v.ownBlock) (ht:e≠t):W1.heap[g]?=some (.cells cs t (0,0)) :=
 (hg.block g (blk_lt h) (Kd.R_ne hR h ht)).trans h
theorem PSt.rowB {vB1:Value} {l1:List Bool} (h:PSt w W g2 g5 cs vB lB vW lW vR lR) (hR:Kd.bool.R 4 W1 w.heap.size (fun _=>True) vB1 l1) (hB:Below w.heap.size w W1) (hg:W.grownBy W1 vB.ownBlock):PSt w W1 g2 g5 cs vB1 l1 vW lW vR lR :=
 ⟨hB,pa_row h.h2 h.rB hg (by decide),pa_row h.h5 h.rB hg (by decide),h.b2,h.b5,h.ne,hR,
  Kd.R_over h.rW h.rB (by intro q hq;simp [Kd.int,Kd.scalar] at hq;omega) hg,Kd.R_over h.rR h.rB (by intro q hq;rw [pa_E] at hq;simp at hq;omega) hg⟩
theorem PSt.rowW {vW1:Value} {l1:List Int} (h:PSt w W g2 g5 cs vB lB vW lW vR lR) (hR:(Kd.int .i64).R 2 W1 w.heap.size (fun _=>True) vW1 l1) (hB:Below w.heap.size w W1) (hg:W.grownBy W1 vW.ownBlock):PSt w W1 g2 g5 cs vB lB vW1 l1 vR lR :=
 ⟨hB,pa_row h.h2 h.rW hg (by decide),pa_row h.h5 h.rW hg (by decide),h.b2,h.b5,h.ne,
  Kd.R_over h.rB h.rW (by intro q hq;simp [Kd.bool,Kd.scalar] at hq;omega) hg,hR,Kd.R_over h.rR h.rW (by intro q hq;rw [pa_E] at hq;simp at hq;omega) hg⟩
theorem PSt.rowR {vR1:Value} {l1:List S55} (h:PSt w W g2 g5 cs vB lB vW lW vR lR) (hR:k55.R 55 W1 w.heap.size (fun _=>True) vR1 l1) (hB:Below w.heap.size w W1) (hg:W.grownBy W1 vR.ownBlock):PSt w W1 g2 g5 cs vB lB vW lW vR1 l1 :=
 ⟨hB,pa_row h.h2 h.rR hg (by decide),pa_row h.h5 h.rR hg (by decide),h.b2,h.b5,h.ne,
  Kd.R_over h.rB h.rR (by intro q hq;simp [Kd.bool,Kd.scalar] at hq;omega) hg,Kd.R_over h.rW h.rR (by intro q hq;simp [Kd.int,Kd.scalar] at hq;omega) hg,hR⟩
end
theorem mb_st42 {o:Oper} {a:Act} {W:World} {p x:Operand} {g t:Nat} {z0 z1 z2 z3 z4 z5 z6:Value} {y0 y1 y2 y3:Int} {A4 A5 A6:Option Addr} {n4 n5 n6 c4 c5 c6:Nat} (hop:o.op=.store 42 p x) (hp:a.eval p=.pointer (some ⟨g,0,none⟩)) (hx:a.eval x=.agg #[.int .i64 y0,.int .i64 y1,.int .i64 y2,.int .i64 y3,.slice A4 n4 c4,.slice A5 n5 c5,.slice A6 n6 c6]) (hb:W.heap[g]?=some (.cells #[z0,z1,z2,z3,z4,z5,z6] t (0,0))) :
  (execOp a.eval o).run Try.prog W=.ok .skip (Cw.setL W g 0 [.int .i64 y0,.int .i64 y1,.int .i64 y2,.int .i64 y3,.slice A4 n4 c4,.slice A5 n5 c5,.slice A6 n6 c6]):=by
 have hu:=Try.underlying42
 have c0:W.cell? ⟨g,0,none⟩=some z0:=(blk_cell hb 0).trans rfl
 have c1:W.cell? ⟨g,1,none⟩=some z1:=(blk_cell hb 1).trans rfl
 have c2:W.cell? ⟨g,2,none⟩=some z2:=(blk_cell hb 2).trans rfl
 have c3:W.cell? ⟨g,3,none⟩=some z3:=(blk_cell hb 3).trans rfl
 have c4:W.cell? ⟨g,4,none⟩=some z4:=(blk_cell hb 4).trans rfl
 have c5:W.cell? ⟨g,5,none⟩=some z5:=(blk_cell hb 5).trans rfl
 have c6:W.cell? ⟨g,6,none⟩=some z6:=(blk_cell hb 6).trans rfl
 have f0:=blk_frozen hb 0
 have f1:=blk_frozen hb 1
 have f2:=blk_frozen hb 2
 have f3:=blk_frozen hb 3
 have f4:=blk_frozen hb 4
 have f5:=blk_frozen hb 5
 have f6:=blk_frozen hb 6
 simp only [execOp,hop,hp,hx]
 go_simp
 rfl
theorem PSt.cell' {w W W1:World} {g2 g5:Nat} {cs:Array Value} {vB vW vR:Value} {lB:List Bool} {lW:List Int} {lR:List S55} {i:Nat} {v:Value} (h:PSt w W g2 g5 cs vB lB vW lW vR lR) (hw:W1=W.setCell ⟨g5,i,none⟩ v):PSt w W1 g2 g5 (cs.setIfInBounds i v) vB lB vW lW vR lR:=hw ▸ h.cell i v
theorem pa_oth {W W1:World} {g gr t i:Nat} {cs:Array Value} {v:Value} (h:W.heap[g]?=some (.cells cs t (0,0))) (hne:g≠gr) (hw:W1=W.setCell ⟨gr,i,none⟩ v):W1.heap[g]?=some (.cells cs t (0,0)):=hw ▸ pa_other h hne i v
theorem pa_st2 {o:Oper} {a:Act} {W:World} {p x:Operand} {g i tt:Nat} {cs:Array Value} {z:Value} {n:Int} (hop:o.op=.store 2 p x) (hp:a.eval p=.pointer (some ⟨g,i,none⟩)) (hx:a.eval x=.int .i64 n) (hb:W.heap[g]?=some (.cells cs tt (0,0))) (hi:cs[i]?=some z) :
  (execOp a.eval o).run Try.prog W=.ok .skip (W.setCell ⟨g,i,none⟩ (.int .i64 n)):=by
 have c0:W.cell? ⟨g,i,none⟩=some z:=(blk_cell hb i).trans hi
 have f0:=blk_frozen hb i
 simp only [execOp,hop,hp,hx]
 go_simp
 done
theorem pa_st22 {o:Oper} {a:Act} {W:World} {p x:Operand} {g i tt:Nat} {cs:Array Value} {z:Value} {B:Option Addr} {m c:Nat} (hop:o.op=.store 22 p x) (hp:a.eval p=.pointer (some ⟨g,i,none⟩)) (hx:a.eval x=.slice B m c) (hb:W.heap[g]?=some (.cells cs tt (0,0))) (hi:cs[i]?=some z) :
  (execOp a.eval o).run Try.prog W=.ok .skip (W.setCell ⟨g,i,none⟩ (.slice B m c)):=by
 have c0:W.cell? ⟨g,i,none⟩=some z:=(blk_cell hb i).trans hi
 have f0:=blk_frozen hb i
 simp only [execOp,hop,hp,hx]
 go_simp
 done
theorem pa_st23 {o:Oper} {a:Act} {W:World} {p x:Operand} {g i tt:Nat} {cs:Array Value} {z:Value} {B:Option Addr} {m c:Nat} (hop:o.op=.store 23 p x) (hp:a.eval p=.pointer (some ⟨g,i,none⟩)) (hx:a.eval x=.slice B m c) (hb:W.heap[g]?=some (.cells cs tt (0,0))) (hi:cs[i]?=some z) :
  (execOp a.eval o).run Try.prog W=.ok .skip (W.setCell ⟨g,i,none⟩ (.slice B m c)):=by
 have c0:W.cell? ⟨g,i,none⟩=some z:=(blk_cell hb i).trans hi
 have f0:=blk_frozen hb i
 simp only [execOp,hop,hp,hx]
 go_simp
 done
theorem pa_st34 {o:Oper} {a:Act} {W:World} {p x:Operand} {g i tt:Nat} {cs:Array Value} {z:Value} {B:Option Addr} {m c:Nat} (hop:o.op=.store 34 p x) (hp:a.eval p=.pointer (some ⟨g,i,none⟩)) (hx:a.eval x=.slice B m c) (hb:W.heap[g]?=some (.cells cs tt (0,0))) (hi:cs[i]?=some z) :
  (execOp a.eval o).run Try.prog W=.ok .skip (W.setCell ⟨g,i,none⟩ (.slice B m c)):=by
 have c0:W.cell? ⟨g,i,none⟩=some z:=(blk_cell hb i).trans hi
 have f0:=blk_frozen hb i
 simp only [execOp,hop,hp,hx]
 go_simp
 done
theorem mb_c67 {o:Oper} {a:Act} {W:World} {x:Operand} {g j t:Nat} {cs:Array Value} {v:Value} (hop:o.op=.load 67 x) (hx:a.eval x=.pointer (some ⟨g,j,none⟩)) (hb:W.heap[g]?=some (.cells cs t (0,0))) (hj:cs[j]?=some v):(execOp a.eval o).run Try.prog W=.ok (.value v) W:=by
 have c0:W.cell? ⟨g,j,none⟩=some v:=(blk_cell hb j).trans hj
 simp only [execOp,hop,hx]
 go_simp
 done
theorem pa_some {w:World} {A:Option Addr} {b:List Int} {n:Nat} (hC:(Kd.int .u8).C w A n b) (hn:0 < n):∃ a,A=some a:=by
 obtain ⟨a,h,_⟩:=Kd.at_int hC 0 (by omega) (by omega)
 exact ⟨a,h⟩
theorem pa_C8 {w:World} {A:Option Addr} {b:List Int} {c o n:Nat} (hC:(Kd.int .u8).C w A b.length b) (hc:b.length≤c) (ho:o + n≤b.length) (hol:o < c):(Kd.int .u8).C w (A.map (fun z=>z.add o)) n ((b.drop o).take n):=by
 have h:=Kd.C_drop (c:=c) hC (m:=o) (by omega) hc
 rw [if_neg (by omega)] at h
 have e:o * (Kd.int .u8).sz=o:=by show o * 1=o;omega
 rw [e] at h
 have h2:=Kd.C_take h (m:=n) (by rw [List.length_drop];omega)
 rw [List.length_take,List.length_drop,Nat.min_eq_left (by omega)] at h2
 exact h2
theorem pa_get {b:List Int} {o n j:Nat} (h:j < n) (ho:o + n≤b.length):((b.drop o).take n).getD j 0=pB b (o + j):=by
 unfold pB
 rw [List.getD_eq_getElem?_getD,List.getD_eq_getElem?_getD,List.getElem?_take_of_lt h,List.getElem?_drop]
theorem mb_tq' {q:Nat}:((q:Int) / 8).toNat=q / 8:=by omega
theorem pa_skip {P:Program} {ops:Array Oper} {oi:Oper} {a:Act} {W W1:World} {K:Act → World → Prop} {Q:Exit → Act → World → Prop} (hw:Region.wanted oi (yielded ops a.tmps)=true) (hN:oi.dst=none) (hrun:(execOp a.eval oi).run P W=.ok .skip W1) (h:∀ w2,w2=W1 → K a w2) :
  if Region.wanted oi (yielded ops a.tmps)=true then Oper.wp P oi a W K Q else K (a.put none undef) W:=skip_ hw hN hrun (h _ rfl)
theorem pBad_len (b:List Int) (q:Nat):(pBad b q).length=q:=by unfold pBad;rw [List.length_map,List.length_range]
theorem pWear_len (b:List Int) (q:Nat):(pWear b q).length=q:=by unfold pWear;rw [List.length_map,List.length_range]
theorem pRecs_len (b:List Int) (q:Nat):(pRecs b q).length=q:=by unfold pRecs;rw [List.length_map,List.length_range]
theorem pa_and:∀ x:Fin 256,Go.bits .and .u8 (x.val:Int) 1=((x.val % 2:Nat):Int):=by decide +kernel
theorem pa_and1 {x:Int} (h0:0≤x) (h1:x < 256):Go.bits .and .u8 x 1=x % 2:=by
 obtain ⟨n,rfl⟩:=Int.eq_ofNat_of_zero_le h0
 have:=pa_and ⟨n,by omega⟩
 simp only at this
 rw [this]
 omega
theorem pa_div {x:Int} (k:Nat) (h0:0≤x) (h1:x < 256):0≤x / 2 ^ k∧x / 2 ^ k < 256:=by
 have hp:(0:Int) < 2 ^ k:=Int.pow_pos (by decide)
 exact ⟨Int.ediv_nonneg h0 (Int.le_of_lt hp),Int.lt_of_le_of_lt (Int.ediv_le_self _ h0) h1⟩
theorem pa_bit {b:List Int} {q:Nat} (hl:b.length=256) (ho:okY b) (hq:q < 64):(Go.bits .and .u8 (rd ((b.drop 24).take 8) ((q:Int) / 8) / 2 ^ ((q:Int) % 8).toNat) 1 == 1)=pBit b q:=by
 have e:rd ((b.drop 24).take 8) ((q:Int) / 8)=pB b (24 + q / 8):=by
  unfold rd
  rw [mb_tq',pa_get (by omega) (by omega)]
 obtain ⟨h0,h1⟩:=ho _ (pB_mem (o:=24 + q / 8) (by omega))
 obtain ⟨d0,d1⟩:=pa_div (q % 8) h0 h1
 rw [e,show ((q:Int) % 8).toNat=q % 8 from by omega,pa_and1 d0 d1]
 unfold pBit
 by_cases h:pB b (24 + q / 8) / 2 ^ (q % 8) % 2=1
 ·rw [h];simp [h]
 ·rw [beq_eq_false_iff_ne.mpr h,decide_eq_false h]
theorem pa_rep (W:World) (base:Nat) (ok:Nat → Prop) (x:S55):Reps (k55.M W base ok) 3 [x] [.int .i64 x.f0,.int .i64 x.f1,.int .i64 x.f2]:=Reps.snoc (Reps.none _ _) (k55_mkM W base ok x) rfl
def Rd (W:World) (gr:Nat) (A:Option Addr) (c o:Nat):Prop:=∃ A',W.heap[gr]?=some (.cells #[.slice A' (256 - o) (c - o)] 100 (0,0))∧(o < 256 → A'=A.map (fun z=>z.add o))
section
variable {w W W1 : World} {gr g5 c o : Nat} {A : Option Addr} {cs : Array Value}
theorem Rd.go (h:Rd W gr A c o) (hb:Below W.heap.size W W1):Rd W1 gr A c o:=by
 obtain ⟨A',h1,h2⟩:=h
 exact ⟨A',zbB h1 hb,h2⟩
theorem Rd.row {α:Type} {d:Kd α} {e base:Nat} {ok:Nat → Prop} {v:Value} {xs:List α} (h:Rd W gr A c o) (hR:d.R e W base ok v xs) (hg:W.grownBy W1 v.ownBlock) (ht:e≠100):Rd W1 gr A c o:=by
 obtain ⟨A',h1,h2⟩:=h
 exact ⟨A',pa_row h1 hR hg ht,h2⟩
theorem Rd.oth {i:Nat} {v:Value} (h:Rd W gr A c o) (h5:W.heap[g5]?=some (.cells cs 42 (0,0))) (hw:W1=W.setCell ⟨g5,i,none⟩ v):Rd W1 gr A c o:=by
 obtain ⟨A',h1,h2⟩:=h
 exact ⟨A',pa_oth h1 (pa_ne h1 h5 (by decide)) hw,h2⟩
theorem Rd.at_ {o':Nat} (h:Rd W gr A c o) (e:o=o'):Rd W gr A c o':=e ▸ h
end
theorem pa_cap24 {q n:Nat} (h:q < n) (hn:n≤24):(q + 1) * 24≤140737488355328:=by omega
theorem PSt.result {w W W1:World} {g2 g5:Nat} {cs:Array Value} {vB vW vR:Value} {lB:List Bool} {lW:List Int} {lR:List S55} (h:PSt w W g2 g5 cs vB lB vW lW vR lR) (ys:List Value) (hl:ys.length=7) (h1:W1=Cw.setL W g2 0 ys) :
  W1.heap[g2]?=some (.cells ys.toArray 42 (0,0))∧Below w.heap.size w W1∧Kd.bool.R 4 W1 w.heap.size (fun _=>True) vB lB∧(Kd.int .i64).R 2 W1 w.heap.size (fun _=>True) vW lW∧k55.R 55 W1 w.heap.size (fun _=>True) vR lR:=by
 subst h1
 refine ⟨Cw.setL_full ys h.h2 (by rw [hl];rfl),Cw.setL_below h.b2 ys 0 _ h.below,Cw.setL_R h.rB h.h2 ?_ 0 ys,Cw.setL_R h.rW h.h2 ?_ 0 ys,Cw.setL_R h.rR h.h2 ?_ 0 ys⟩
 ·intro q hq;simp [Kd.bool,Kd.scalar] at hq;omega
 ·intro q hq;simp [Kd.int,Kd.scalar] at hq;omega
 ·intro q hq;rw [pa_E] at hq;simp at hq;omega
set_option maxHeartbeats 4000000 in
set_option maxRecDepth 100000 in
theorem rd_num (gr:Nat) (A:Option Addr) (c:Nat) (l:List Int) (s:Nat) (w:World) (hb:w.heap[gr]?=some (.cells #[.slice A l.length c] 100 (0,0))) (hC:(Kd.int .u8).C w A l.length l) (hc:l.length≤c) (hs:s≤l.length) (hs8:0 < s) (hl:l.length≤1000) (ho:okY l) :
  Calls Try.prog 78 #[.pointer (some ⟨gr,0,none⟩),.int .i64 (s:Int)] w fun e w'=>e=.returned (.int .i64 (pNum (l.take s)))∧∃ A',w'=w.setCell ⟨gr,0,none⟩ (.slice A' (l.length - s) (c - s))∧(s < l.length → A'=A.map (fun z=>z.add s)):=by
 have hu100:=Try.underlying100
 have hcell:w.cell? ⟨gr,0,none⟩=some (.slice A l.length c):=(blk_cell hb 0).trans rfl
 have hfro:=blk_frozen hb 0
 have hs0:0≤(s:Int):=Int.natCast_nonneg s
 have hs1:(s:Int)≤(c:Int):=Int.ofNat_le.mpr (by omega)
 have hh_:=zm hC;clear hC;have hC:=hh_;clear hh_;have hh_:=zm hb;clear hb;have hb:=hh_;clear hh_
 go_enter Try.func78,Try.ntmps78
 go_wp2_with fail
 go_loopw [5,15] (fun u v wi=>∃ q:Nat,u=.int .i64 (pNum (l.take q))∧v=.int .i64 (q:Int)∧Aside0 (q≤s)∧wi=w) (fun _ v _=>s - (intOf v).toNat)
 case atStart=>exact ⟨0,by rw [List.take_zero,pNum_nil],rfl,⟨Nat.zero_le _⟩,rfl⟩
 case round =>
  obtain ⟨q,rfl,rfl,hq,rfl⟩:=hrel
  by_cases hqs:q < s
  ·have hd:decide ((q:Int) < (s:Int))=true:=decide_eq_true (by omega)
   have hq0:0≤(q:Int):=Int.natCast_nonneg q
   have hq3:(q:Int) < (l.length:Int):=Int.ofNat_lt.mpr (by omega)
   have hq4:(q:Int) < (s:Int):=Int.ofNat_lt.mpr hqs
   have hql:q < l.length:=by omega
   obtain ⟨ad,hA,hx⟩:=Kd.at_int hC.out (q:Int) hq0 hq3
   subst hA
   rw [Int.toNat_natCast,mb_rd hql] at hx
   obtain ⟨hy0,hy1⟩:=ho l[q] (List.getElem_mem hql)
   have hqw:=pa_w (show q≤1000 by omega)
   have hwc:wrap64 l[q]=l[q]:=by unfold wrap64;omega
   have hor:Go.bits .or .i64 (wrap64 (pNum (l.take q) * 256)) l[q]=pNum (l.take (q + 1)):=by rw [pa_i64 _ _ hy0 hy1,pNum_snoc l q hql]
   clear hy0 hy1
   go_wp2_with fail
   go_roundw
   case rel=>exact ⟨q + 1,rfl,by first|with_reducible rfl|(rw [hqw];done)|rfl,⟨hqs⟩,trivial⟩
   case measure=>first|exact mb_m hqs|(rw [hqw];exact mb_m hqs)
  ·obtain rfl:q=s:=by have:=hq.out;omega
   have hd:decide ((q:Int) < (q:Int))=false:=decide_eq_false (by omega)
   go_wp2_with fail
   all_goals
    go_ret
    first|exact ⟨rfl,_,rfl,fun _=>rfl⟩|exact ⟨rfl,_,rfl,fun h=>absurd h (by omega)⟩
theorem rd_C {w W:World} {A:Option Addr} {b:List Int} {c o:Nat} (hC:(Kd.int .u8).C w A b.length b) (hB:Below w.heap.size w W) (ho:o < b.length) (hc:b.length≤c):(Kd.int .u8).C W (A.map (fun z=>z.add o)) (b.drop o).length (b.drop o):=by
 have h:=Kd.C_drop (c:=c) hC (Nat.le_of_lt ho) hc
 rw [if_neg (by omega)] at h
 have e:o * (Kd.int .u8).sz=o:=by show o * 1=o;omega
 rw [e] at h
 exact Kd.C_below h hB
theorem add_addA (A:Option Addr) (o s:Nat):(A.map (fun z=>z.add o)).map (fun z=>z.add s)=A.map (fun z=>z.add (o + s)):=by
 cases A with
 | none=>rfl
 | some a=>by_cases h1:o=0 <;> by_cases h2:s=0 <;> simp [Addr.add,h1,h2,Nat.add_assoc]
theorem rd_at {w W:World} {gr:Nat} {A:Option Addr} {c:Nat} {b:List Int} (o s:Nat) (hB:Below w.heap.size w W) (hC:(Kd.int .u8).C w A b.length b) (hl:b.length=256) (hc:256≤c) (ho:okY b) (hos:o + s≤256) (hs:0 < s) (hg:w.heap.size≤gr)
  (hr:Rd W gr A c o) :
  Calls Try.prog 78 #[.pointer (some ⟨gr,0,none⟩),.int .i64 (s:Int)] W fun e w'=>e=.returned (.int .i64 (pNum ((b.drop o).take s)))∧Rd w' gr A c (o + s)∧Below w.heap.size w w' ∧
   (∀ g2 g5 cs vB lB vW lW vR lR,PSt w W g2 g5 cs vB lB vW lW vR lR → PSt w w' g2 g5 cs vB lB vW lW vR lR)∧(∀ (g:Nat) (t:TypeId) (cs:Array Value),t≠100 → W.heap[g]?=some (.cells cs t (0,0)) → w'.heap[g]?=some (.cells cs t (0,0))):=by
 have e:(b.drop o).length=256 - o:=by rw [List.length_drop,hl]
 obtain ⟨A0,hr,hA⟩:=hr
 obtain rfl:=hA (by omega)
 have hr':=hr
 rw [← e] at hr'
 refine (rd_num gr _ (c - o) (b.drop o) s W hr' (rd_C (o:=o) (c:=c) hC hB (by omega) (by omega)) (by omega) (by omega) hs (by omega) (fun x hx=>ho x (List.mem_of_mem_drop hx))).mono ?_
 rintro _ w' ⟨rfl,A',rfl,hA'⟩
 refine ⟨rfl,⟨A',?_,fun h=>?_⟩,zlS hB hg,fun g2 g5 cs vB lB vW lW vR lR h=>h.reader hr hg _,fun g t cs ht h=>pa_other h (pa_ne h hr ht) 0 _⟩
 ·have:=blk_set hr 0 (.slice A' ((b.drop o).length - s) (c - o - s))
  rw [this,e,Nat.sub_sub,Nat.sub_sub]
  rfl
 ·rw [hA' (by omega),add_addA]
theorem rd_at1 {w W:World} {gr:Nat} {A:Option Addr} {c:Nat} {b:List Int} (o:Nat) (hB:Below w.heap.size w W) (hC:(Kd.int .u8).C w A b.length b) (hl:b.length=256) (hc:256≤c) (ho:okY b) (hos:o + 1≤256) (hg:w.heap.size≤gr)
  (hr:Rd W gr A c o) :
  Calls Try.prog 78 #[.pointer (some ⟨gr,0,none⟩),.int .i64 1] W fun e w'=>e=.returned (.int .i64 (pB b o))∧Rd w' gr A c (o + 1)∧Below w.heap.size w w' ∧
   (∀ g2 g5 cs vB lB vW lW vR lR,PSt w W g2 g5 cs vB lB vW lW vR lR → PSt w w' g2 g5 cs vB lB vW lW vR lR)∧(∀ (g:Nat) (t:TypeId) (cs:Array Value),t≠100 → W.heap[g]?=some (.cells cs t (0,0)) → w'.heap[g]?=some (.cells cs t (0,0))):=by
 have h:=rd_at o 1 hB hC hl hc ho hos (by decide) hg hr
 rw [pNum1 b o (by omega) ho] at h
 exact h
theorem rd_at3 {w W:World} {gr:Nat} {A:Option Addr} {c:Nat} {b:List Int} (o:Nat) (hB:Below w.heap.size w W) (hC:(Kd.int .u8).C w A b.length b) (hl:b.length=256) (hc:256≤c) (ho:okY b) (hos:o + 3≤256) (hg:w.heap.size≤gr)
  (hr:Rd W gr A c o) :
  Calls Try.prog 78 #[.pointer (some ⟨gr,0,none⟩),.int .i64 3] W fun e w'=>e=.returned (.int .i64 (pNum ((b.drop o).take 3)))∧Rd w' gr A c (o + 3)∧Below w.heap.size w w' ∧
   (∀ g2 g5 cs vB lB vW lW vR lR,PSt w W g2 g5 cs vB lB vW lW vR lR → PSt w w' g2 g5 cs vB lB vW lW vR lR)∧(∀ (g:Nat) (t:TypeId) (cs:Array Value),t≠100 → W.heap[g]?=some (.cells cs t (0,0)) → w'.heap[g]?=some (.cells cs t (0,0))):=rd_at o 3 hB hC hl hc ho hos (by decide) hg hr
theorem rd_at5 {w W:World} {gr:Nat} {A:Option Addr} {c:Nat} {b:List Int} (o:Nat) (hB:Below w.heap.size w W) (hC:(Kd.int .u8).C w A b.length b) (hl:b.length=256) (hc:256≤c) (ho:okY b) (hos:o + 5≤256) (hg:w.heap.size≤gr)
  (hr:Rd W gr A c o) :
  Calls Try.prog 78 #[.pointer (some ⟨gr,0,none⟩),.int .i64 5] W fun e w'=>e=.returned (.int .i64 (pNum ((b.drop o).take 5)))∧Rd w' gr A c (o + 5)∧Below w.heap.size w w' ∧
   (∀ g2 g5 cs vB lB vW lW vR lR,PSt w W g2 g5 cs vB lB vW lW vR lR → PSt w w' g2 g5 cs vB lB vW lW vR lR)∧(∀ (g:Nat) (t:TypeId) (cs:Array Value),t≠100 → W.heap[g]?=some (.cells cs t (0,0)) → w'.heap[g]?=some (.cells cs t (0,0))):=rd_at o 5 hB hC hl hc ho hos (by decide) hg hr
theorem rd_at8 {w W:World} {gr:Nat} {A:Option Addr} {c:Nat} {b:List Int} (o:Nat) (hB:Below w.heap.size w W) (hC:(Kd.int .u8).C w A b.length b) (hl:b.length=256) (hc:256≤c) (ho:okY b) (hos:o + 8≤256) (hg:w.heap.size≤gr)
  (hr:Rd W gr A c o) :
  Calls Try.prog 78 #[.pointer (some ⟨gr,0,none⟩),.int .i64 8] W fun e w'=>e=.returned (.int .i64 (pNum ((b.drop o).take 8)))∧Rd w' gr A c (o + 8)∧Below w.heap.size w w' ∧
   (∀ g2 g5 cs vB lB vW lW vR lR,PSt w W g2 g5 cs vB lB vW lW vR lR → PSt w w' g2 g5 cs vB lB vW lW vR lR)∧(∀ (g:Nat) (t:TypeId) (cs:Array Value),t≠100 → W.heap[g]?=some (.cells cs t (0,0)) → w'.heap[g]?=some (.cells cs t (0,0))):=rd_at o 8 hB hC hl hc ho hos (by decide) hg hr
def mapjnl_Parse.f (k:Nat) (b:List Int):Option (Int × Int × Int × Int × List Bool × List Int × List S55 × Int) :=
 if b.length=256 then if okY b then
  if pOk b then (mapjnl_Bytes.f k (pc b).k (pc b).gen (pc b).part (pc b).seq (pc b).bad (pc b).wear (pc b).recs).bind fun r =>
   if r.2=0∧((strOfNums r.1).toList == (strOfNums b).toList)=true then some ((pc b).k,(pc b).gen,(pc b).part,(pc b).seq,(pc b).bad,(pc b).wear,(pc b).recs,0) else some (0,0,0,0,[],[],[],62)
  else some (0,0,0,0,[],[],[],62)
 else none else some (0,0,0,0,[],[],[],62)
set_option maxHeartbeats 4000000 in
set_option maxRecDepth 100000 in
theorem mapjnl_Parse.calls (k:Nat) (A:Option Addr) (c:Nat) (b:List Int) (r1 r2 r3 r4:Int) (r5:List Bool) (r6:List Int) (r7:List S55) (r8:Int) (w:World) (hC:Kd.C (Kd.int .u8) w A b.length b) (hc:b.length≤c) (h:mapjnl_Parse.f k b=some (r1,r2,r3,r4,r5,r6,r7,r8)) :
  Calls Try.prog 46 #[.slice A b.length c] w fun e w'=>∃ v4_ v5_ v6_:Value,e=.returned (.tuple #[.agg #[.int .i64 r1,.int .i64 r2,.int .i64 r3,.int .i64 r4,v4_,v5_,v6_],.int .i64 r8])∧Kd.R Kd.bool 4 w' w.heap.size (fun _=>True) v4_ r5∧Kd.R (Kd.int .i64) 2 w' w.heap.size (fun _=>True) v5_ r6∧Kd.R k55 55 w' w.heap.size (fun _=>True) v6_ r7∧Below w.heap.size w w':=by
 have hu42:=Try.underlying42
 have H:mapjnl_Parse.f k b=some (r1,r2,r3,r4,r5,r6,r7,r8):=h
 clear h
 have hh_:=zm hC;clear hC;have hC:=hh_;clear hh_;have hh_:=zm hc;clear hc;have hc:=hh_;clear hh_
 unfold mapjnl_Parse.f at H
 by_cases hl:b.length=256
 rotate_left
 ·rw [if_neg hl] at H
  simp only [Option.some.injEq,Prod.mk.injEq] at H
  obtain ⟨rfl,rfl,rfl,rfl,rfl,rfl,rfl,rfl⟩:=H
  have hd:((b.length:Int) != 256)=true:=bne_iff_ne.mpr (by omega)
  have hh_:=zm hl;clear hl;have hl:=hh_;clear hh_
  go_enter Try.func46,Try.ntmps46
  go_wp2_with (first|((with_reducible refine gate_dst (N:=2) rfl ?_);refine box_event rfl (N:=2) rfl (cs:=zero7) (t:=42) (by first|(go_simp;done)|(go_simp;rfl)) ?_;rintro g2 hg w1 h2 hb;have hg2:=Nat.le_of_eq hg.symm;clear hg;have hh_:=zm hg2;clear hg2;have hg2:=hh_;clear hh_;have hh_:=zm h2;clear h2;have h2:=hh_;clear hh_;have hh_:=zm hb;clear hb;have hb:=hh_;clear hh_)|((with_reducible refine gate_store (t:=42) (p:=2) rfl ?_);refine Cw.put_event rfl rfl rfl (mb_st42 rfl rfl rfl (zbB (Aside0.out (by assumption)) (by repeat (first|exact Below.refl _ _|with_reducible apply zlN|with_reducible apply zlA|refine below_step ?_ (Aside0.out (by assumption)))))) ?_;rintro w9 hw9))
  have hk2:=Cw.setL_full [.int .i64 0,.int .i64 0,.int .i64 0,.int .i64 0,.slice none 0 0,.slice none 0 0,.slice none 0 0] h2.out rfl
  rw [← hw9] at hk2
  have hb9:Below w.heap.size w w9:=by rw [hw9];exact Cw.setL_below hg2.out _ 0 _ (by repeat (first|exact Below.refl _ _|with_reducible apply zlN|with_reducible apply zlA|refine below_step ?_ (Aside0.out (by assumption))))
  clear hw9
  refine bodyPost_ret (results_ct rfl _ _ g2 42 _ (0,0) _ rfl hk2 Try.underlying42 rfl (by kernel_rfl)) rfl ?_
  exact ⟨_,_,_,rfl,Kd.R_nil _ _ _ _ _,Kd.R_nil _ _ _ _ _,Kd.R_nil _ _ _ _ _,hb9⟩
 rw [if_pos hl] at H
 have hg_:=Cw.gt_ H;clear H;obtain ⟨ho,H⟩:=hg_
 have hh_:=zm H;clear H;have H:=hh_;clear hh_
 go_enter Try.func46,Try.ntmps46
 rw [hl]
 go_wp2_with (first|((with_reducible refine gate_dst (N:=2) rfl ?_);refine box_event rfl (N:=2) rfl (cs:=zero7) (t:=42) (by first|(go_simp;done)|(go_simp;rfl)) ?_;rintro g2 hg w1 h2 hb;have hg2:=Nat.le_of_eq hg.symm;clear hg;have hh_:=zm hg2;clear hg2;have hg2:=hh_;clear hh_;have hh_:=zm h2;clear h2;have h2:=hh_;clear hh_;have hh_:=zm hb;clear hb;have hb:=hh_;clear hh_)|((with_reducible refine gate_dst (N:=17) rfl ?_);refine box_event rfl (N:=17) rfl (cs:=#[.slice A 256 c]) (t:=100) (by first|(go_simp;done)|(go_simp;rfl)) ?_;rintro gr hg w2 hr hb;have hgr:=Nat.le_of_eq hg.symm;clear hg;have hh_:=zm hgr;clear hgr;have hgr:=hh_;clear hh_;have hh_:=zm hr;clear hr;have hr:=hh_;clear hh_;have hh_:=zm hb;clear hb;have hb:=hh_;clear hh_))
 have hcc:256≤c:=by have:=hc.out;omega
 have hh_:=zm hcc;clear hcc;have hcc:=hh_;clear hh_
 have hgw:w.heap.size≤gr:=Nat.le_trans (below_size (by repeat (first|exact Below.refl _ _|with_reducible apply zlN|with_reducible apply zlA|refine below_step ?_ (Aside0.out (by assumption))))) hgr.out
 have hh_:=zm hgw;clear hgw;have hgw:=hh_;clear hh_
 have hr0:Rd w2 gr A c 0:=⟨A,hr.out,fun _=>(Cw.map_add0 A).symm⟩
 have hh_:=zm hl;clear hl;have hl:=hh_;clear hh_;have hh_:=zm ho;clear ho;have ho:=hh_;clear hh_
 refine (rd_at1 (w:=w) 0 (by repeat (first|exact Below.refl _ _|with_reducible apply zlN|with_reducible apply zlA|refine below_step ?_ (Aside0.out (by assumption)))) hC.out hl.out hcc.out ho.out (by decide) hgw.out hr0).mono ?_
 clear hr hr0
 rintro e w3 ⟨rfl,hr,hb3,hp3,hk3⟩
 have h23:=hk3 g2 42 zero7 (by decide) (zbB (Aside0.out (by assumption)) (by repeat (first|exact Below.refl _ _|with_reducible apply zlN|with_reducible apply zlA|refine below_step ?_ (Aside0.out (by assumption)))))
 clear hp3 hk3 h2
 go_wp2_with fail
 refine (rd_at1 (w:=w) 1 hb3 hC.out hl.out hcc.out ho.out (by decide) hgw.out hr).mono ?_
 clear hr
 rintro e w4 ⟨rfl,hr,hb4,hp4,hk4⟩
 have h24:=hk4 g2 42 zero7 (by decide) h23
 clear hp4 hk4 h23 hb3
 have hh_:=zm h24;clear h24;have h24:=hh_;clear hh_;have hh_:=zm hr;clear hr;have hr:=hh_;clear hh_;have hh_:=zm hb4;clear hb4;have hb4:=hh_;clear hh_
 go_wp2_with (first|((with_reducible refine gate_ (.alloc 42) rfl ?_);refine Cw.box_store rfl rfl rfl rfl rfl rfl (by first|(go_simp;done)|(go_simp;rfl)) (by first|(go_simp;done)|(go_simp;rfl)) ?_;rintro g5 hg w5 hbk_ hb_;have hg5:=Nat.le_of_eq hg.symm;clear hg;have hh_:=zm hg5;clear hg5;have hg5:=hh_;clear hh_;have hh_:=zm hbk_;clear hbk_;have hbk_:=hh_;clear hh_;have hh_:=zm hb_;clear hb_;have hb_:=hh_;clear hh_))
 have hP:PSt w w5 g2 g5 #[.int .i64 (pB b 0),.int .i64 0,.int .i64 (pB b 1),.int .i64 0,.slice none 0 0,.slice none 0 0,.slice none 0 0] (.slice none 0 0) [] (.slice none 0 0) [] (.slice none 0 0) [] :=
  ⟨(by repeat (first|exact Below.refl _ _|with_reducible apply zlN|with_reducible apply zlA|refine below_step ?_ (Aside0.out (by assumption)))),(zbB (Aside0.out (by assumption)) (by repeat (first|exact Below.refl _ _|with_reducible apply zlN|with_reducible apply zlA|refine below_step ?_ (Aside0.out (by assumption))))),hbk_.out,hg2.out,Nat.le_trans (below_size hb4.out) hg5.out,Nat.ne_of_lt (Nat.lt_of_lt_of_le (blk_lt h24.out) hg5.out),Kd.R_nil _ _ _ _ _,Kd.R_nil _ _ _ _ _,Kd.R_nil _ _ _ _ _⟩
 have hr5:=hr.out.go hb_.out
 have hb5:=hP.below
 have hg5n:=hP.ne
 clear hbk_ h24 hr hb4 hb_
 have hh_:=zm hP;clear hP;have hP:=hh_;clear hh_
 refine (rd_at1 (w:=w) 2 hb5 hC.out hl.out hcc.out ho.out (by decide) hgw.out hr5).mono ?_
 clear hr5 hb5
 rintro e w6 ⟨rfl,hr,hb,hp,hk⟩
 have hP:=hp _ _ _ _ _ _ _ _ _ hP.out
 clear hp hk
 have hh_:=zm hP;clear hP;have hP:=hh_;clear hh_
 go_wp2_with fail
 refine (rd_at5 (w:=w) 3 hb hC.out hl.out hcc.out ho.out (by decide) hgw.out hr).mono ?_
 clear hr hb
 rintro e w7 ⟨rfl,hr,hb,hp,hk⟩
 have hP:=hp _ _ _ _ _ _ _ _ _ hP.out
 clear hp hk
 have hh_:=zm hP;clear hP;have hP:=hh_;clear hh_
 go_wp2_with fail
 refine (rd_at8 (w:=w) 8 hb hC.out hl.out hcc.out ho.out (by decide) hgw.out hr).mono ?_
 clear hr hb
 rintro e w8 ⟨rfl,hr,hb,hp,hk⟩
 have hP:=hp _ _ _ _ _ _ _ _ _ hP.out
 clear hp hk hb
 have hh_:=zm hP;clear hP;have hP:=hh_;clear hh_;have hh_:=zm hr;clear hr;have hr:=hh_;clear hh_
 obtain ⟨hn0,hn1⟩:=ho.out _ (pB_mem (o:=2) (by rw [hl.out];decide))
 by_cases hk1:pB b 0=1
 ·have hk1b:(pB b 0 == 1)=true:=beq_iff_eq.mpr hk1
  by_cases hn:pB b 2≤64
  ·have hnb:decide (pB b 2≤64)=true:=decide_eq_true hn
   go_wp2_with (first|((with_reducible refine gate_store (t:=2) (p:=29) rfl ?_);refine store_event (t:=2) (p:=29) rfl rfl rfl (pa_st2 rfl rfl rfl hP.out.h5 rfl) ?_;rintro w9 hw9;have hP9:=hP.out.cell' hw9;have hr9:=hr.out.oth hP.out.h5 hw9;simp only [List.setIfInBounds_toArray,List.set_cons_zero,List.set_cons_succ] at hP9;clear hP hr hw9;have hP:=zm hP9;have hr:=zm hr9;clear hP9 hr9)|((with_reducible refine gate_ (.load 3 _) rfl ?_);refine Kd.event_run rfl (mb_c3 rfl rfl hP.out.h5 rfl) ?_))
   rw [hk1] at hP
   refine (rd_at8 (w:=w) 16 hP.out.below hC.out hl.out hcc.out ho.out (by decide) hgw.out hr.out).mono ?_
   clear hr
   rintro e w8 ⟨rfl,hr,hb,hp,hk⟩
   have hP:=hp _ _ _ _ _ _ _ _ _ hP.out
   clear hp hk hb
   have hh_:=zm hP;clear hP;have hP:=hh_;clear hh_;have hh_:=zm hr;clear hr;have hr:=hh_;clear hh_
   have h8c:(8:Int)≤((c - 24:Nat):Int):=by have:=hcc.out;omega
   have hM:=pa_C8 (o:=24) (n:=8) hC.out hc.out (by rw [hl.out];decide) (by have:=hcc.out;omega)
   obtain ⟨am,hA⟩:=pa_some hM (by decide)
   rw [hA] at hM
   have hh_:=zm hM;clear hM;have hM:=hh_;clear hh_
   go_wp2_with (first|((with_reducible refine gate_store (t:=2) (p:=41) rfl ?_);refine store_event (t:=2) (p:=41) rfl rfl rfl (pa_st2 rfl rfl rfl hP.out.h5 rfl) ?_;rintro w9 hw9;have hP9:=hP.out.cell' hw9;have hr9:=hr.out.oth hP.out.h5 hw9;simp only [List.setIfInBounds_toArray,List.set_cons_zero,List.set_cons_succ] at hP9;clear hP hr hw9;have hP:=zm hP9;have hr:=zm hr9;clear hP9 hr9)|((with_reducible refine gate_ (.load 67 _) rfl ?_);have hrm:w9.heap[gr]?=some (.cells #[.slice (some am) (256 - 24) (c - 24)] 100 (0,0)):=(by obtain ⟨A',h1,h2⟩:=hr.out;rw [← hA,← h2 (by decide)];exact h1);refine Kd.event_run rfl (mb_c67 rfl rfl hrm rfl) ?_;clear hrm))
   refine (rd_at8 (w:=w) 24 hP.out.below hC.out hl.out hcc.out ho.out (by decide) hgw.out hr.out).mono ?_
   clear hA h8c hr
   rintro e w8 ⟨rfl,hr,hb,hp,hk⟩
   have hP:=hp _ _ _ _ _ _ _ _ _ hP.out
   clear hp hk hb
   have hh_:=zm hP;clear hP;have hP:=hh_;clear hh_;have hh_:=zm hr;clear hr;have hr:=hh_;clear hh_
   obtain ⟨n,hn'⟩:∃ n:Nat,pB b 2=n:=⟨(pB b 2).toNat,by omega⟩
   rw [hn'] at hn hnb
   go_wp2_with fail
   go_loopw [50] (fun v wi=>∃ (q:Nat) (vB vW:Value),v=.int .i64 (q:Int)∧Aside0 (q≤n)∧Aside0 (PSt w wi g2 g5 #[.int .i64 1,.int .i64 (pGen b),.int .i64 (pB b 1),.int .i64 (pSeq b),vB,vW,.slice none 0 0] vB (pBad b q) vW (pWear b q) (.slice none 0 0) [])∧Aside0 (Rd wi gr A c (32 + 3 * q))) (fun v _=>n - (intOf v).toNat)
   case atStart=>exact ⟨0,_,_,rfl,⟨Nat.zero_le _⟩,hP,hr⟩
   case round =>
    clear hP hr
    obtain ⟨q,vB,vW,rfl,hq,hP,hr⟩:=hrel
    by_cases hqn:q < n
    ·have hd:decide ((q:Int) < (n:Int))=true:=decide_eq_true (by omega)
     have hqw:=mb_w (show q≤300 by omega)
     have hq8:wrap64 ((q:Int) / 8)=(q:Int) / 8:=by unfold wrap64;omega
     have hm0:0≤(q:Int) / 8:=by omega
     have hm8:(q:Int) / 8 < 8:=by omega
     obtain ⟨AB,cB,rfl⟩:=Kd.R_slice hP.out.rB
     go_wp2_with fail
     refine mb_startS (fun w'=>Below w.heap.size w w'∧w'.heap[g5]?=some (.cells #[.int .i64 1,.int .i64 (pGen b),.int .i64 (pB b 1),.int .i64 (pSeq b),.slice AB (pBad b q).length cB,vW,.slice none 0 0] 42 (0,0))) [13,15] (by as_aux_lemma=>kernel_rfl) rfl (fun wd h_=>⟨below_step hP.out.below h_,zbB hP.out.h5 h_⟩) (fun wd h_=>?_)
     have hPd:=zm (hP.out.go h_)
     have hrd:=zm (hr.out.go h_)
     have hS:(fun w'=>Below w.heap.size w w'∧w'.heap[g5]?=some (.cells #[.int .i64 1,.int .i64 (pGen b),.int .i64 (pB b 1),.int .i64 (pSeq b),.slice AB (pBad b q).length cB,vW,.slice none 0 0] 42 (0,0))) wd:=⟨hPd.out.below,hPd.out.h5⟩
     clear h_
     refine Cw.dpu (i:=0) (v:=?_) (a':=?_) (by simp only [List.getElem?_toArray,List.getElem?_cons_succ,List.getElem?_cons_zero];rfl) rfl (by as_aux_lemma=>kernel_rfl) (by rfl) (by exact fun _ _ _ h=>h) ?_ ?_ ?_
     rotate_left
     ·intro w'
      go_simp
      with_reducible rfl
     rotate_left
     ·simp only [Act.put,List.setIfInBounds_toArray,List.set_cons_zero,List.set_cons_succ,i64_w,i32_w]
      rfl
     refine Cw.dtkD (i:=1) (v:=?_) (a':=?_) (by simp only [List.getElem?_toArray,List.getElem?_cons_succ,List.getElem?_cons_zero];rfl) rfl (by as_aux_lemma=>kernel_rfl) (by rfl) (by exact fun _ _ _ h=>h) ?_ hS ?_ ?_
     rotate_left
     ·intro w' hs_
      apply Eq.trans
      ·apply mb_c22
       ·rfl
       ·rfl
       ·exact hs_.2
       ·rfl
      ·rfl
     rotate_left
     ·simp only [Act.put,List.setIfInBounds_toArray,List.set_cons_zero,List.set_cons_succ,i64_w,i32_w]
      rfl
     refine Cw.dpu (i:=2) (v:=?_) (a':=?_) (by simp only [List.getElem?_toArray,List.getElem?_cons_succ,List.getElem?_cons_zero];rfl) rfl (by as_aux_lemma=>kernel_rfl) (by rfl) (by exact fun _ _ _ h=>h) ?_ ?_ ?_
     rotate_left
     ·intro w'
      go_simp
      with_reducible rfl
     rotate_left
     ·simp only [Act.put,List.setIfInBounds_toArray,List.set_cons_zero,List.set_cons_succ,i64_w,i32_w]
      rfl
     refine Cw.dpu (i:=3) (v:=?_) (a':=?_) (by simp only [List.getElem?_toArray,List.getElem?_cons_succ,List.getElem?_cons_zero];rfl) rfl (by as_aux_lemma=>kernel_rfl) (by rfl) (by exact fun _ _ _ h=>h) ?_ ?_ ?_
     rotate_left
     ·intro w'
      go_simp
      with_reducible rfl
     rotate_left
     ·simp only [Act.put,List.setIfInBounds_toArray,List.set_cons_zero,List.set_cons_succ,i64_w,i32_w]
      rfl
     refine Cw.dpu (i:=4) (v:=?_) (a':=?_) (by simp only [List.getElem?_toArray,List.getElem?_cons_succ,List.getElem?_cons_zero];rfl) rfl (by as_aux_lemma=>kernel_rfl) (by rfl) (by exact fun _ _ _ h=>h) ?_ ?_ ?_
     rotate_left
     ·intro w'
      go_simp
      with_reducible rfl
     rotate_left
     ·simp only [Act.put,List.setIfInBounds_toArray,List.set_cons_zero,List.set_cons_succ,i64_w,i32_w]
      rfl
     refine Cw.dpu (i:=5) (v:=?_) (a':=?_) (by simp only [List.getElem?_toArray,List.getElem?_cons_succ,List.getElem?_cons_zero];rfl) rfl (by as_aux_lemma=>kernel_rfl) (by rfl) (by exact fun _ _ _ h=>h) ?_ ?_ ?_
     rotate_left
     ·intro w'
      go_simp
      with_reducible rfl
     rotate_left
     ·simp only [Act.put,List.setIfInBounds_toArray,List.set_cons_zero,List.set_cons_succ,i64_w,i32_w]
      rfl
     refine Cw.dtkD (i:=6) (v:=?_) (a':=?_) (by simp only [List.getElem?_toArray,List.getElem?_cons_succ,List.getElem?_cons_zero];rfl) rfl (by as_aux_lemma=>kernel_rfl) (by rfl) (by exact fun _ _ _ h=>h) ?_ hS ?_ ?_
     rotate_left
     ·intro w' hs_
      obtain ⟨ad_,had_,hx_⟩:=Kd.at_int (Kd.C_below hM.out hs_.1) ((q:Int) / 8) hm0 hm8
      cases had_
      go_simp
      with_reducible rfl
     rotate_left
     ·simp only [Act.put,List.setIfInBounds_toArray,List.set_cons_zero,List.set_cons_succ,i64_w,i32_w]
      rfl
     refine Cw.dpu (i:=7) (v:=?_) (a':=?_) (by simp only [List.getElem?_toArray,List.getElem?_cons_succ,List.getElem?_cons_zero];rfl) rfl (by as_aux_lemma=>kernel_rfl) (by rfl) (by exact fun _ _ _ h=>h) ?_ ?_ ?_
     rotate_left
     ·intro w'
      go_simp
      with_reducible rfl
     rotate_left
     ·simp only [Act.put,List.setIfInBounds_toArray,List.set_cons_zero,List.set_cons_succ,i64_w,i32_w]
      rfl
     refine Cw.dpu (i:=8) (v:=?_) (a':=?_) (by simp only [List.getElem?_toArray,List.getElem?_cons_succ,List.getElem?_cons_zero];rfl) rfl (by as_aux_lemma=>kernel_rfl) (by rfl) (by exact fun _ _ _ h=>h) ?_ ?_ ?_
     rotate_left
     ·intro w'
      go_simp
      rw [mb_m8]
     rotate_left
     ·simp only [Act.put,List.setIfInBounds_toArray,List.set_cons_zero,List.set_cons_succ,i64_w,i32_w]
      rfl
     refine Cw.dpu (i:=9) (v:=?_) (a':=?_) (by simp only [List.getElem?_toArray,List.getElem?_cons_succ,List.getElem?_cons_zero];rfl) rfl (by as_aux_lemma=>kernel_rfl) (by rfl) (by exact fun _ _ _ h=>h) ?_ ?_ ?_
     rotate_left
     ·intro w'
      go_simp
      with_reducible rfl
     rotate_left
     ·simp only [Act.put,List.setIfInBounds_toArray,List.set_cons_zero,List.set_cons_succ,i64_w,i32_w]
      rfl
     refine Cw.dpu (i:=10) (v:=?_) (a':=?_) (by simp only [List.getElem?_toArray,List.getElem?_cons_succ,List.getElem?_cons_zero];rfl) rfl (by as_aux_lemma=>kernel_rfl) (by rfl) (by exact fun _ _ _ h=>h) ?_ ?_ ?_
     rotate_left
     ·intro w'
      go_simp
      with_reducible rfl
     rotate_left
     ·simp only [Act.put,List.setIfInBounds_toArray,List.set_cons_zero,List.set_cons_succ,i64_w,i32_w]
      rfl
     refine Cw.dpu (i:=11) (v:=?_) (a':=?_) (by simp only [List.getElem?_toArray,List.getElem?_cons_succ,List.getElem?_cons_zero];rfl) rfl (by as_aux_lemma=>kernel_rfl) (by rfl) (by exact fun _ _ _ h=>h) ?_ ?_ ?_
     rotate_left
     ·intro w'
      go_simp
      with_reducible rfl
     rotate_left
     ·simp only [Act.put,List.setIfInBounds_toArray,List.set_cons_zero,List.set_cons_succ,i64_w,i32_w]
      rfl
     rw [pa_bit hl.out ho.out (by omega)]
     refine Cw.done1D (i:=12) (N:=some 65) (by simp only [List.getElem?_toArray,List.getElem?_cons_succ,List.getElem?_cons_zero];rfl) rfl (by as_aux_lemma=>kernel_rfl) (by decide) (fun K hK=>?_)
     refine Kd.R_lit_step Kd.bool (w0:=w) w.heap.size 4 (by rfl) (N:=65) rfl (xs:=[pBit b q]) (inner:=[.bool (pBit b q)]) (ok:=fun _=>True) (okp:=fun _=>True) ?hr (Kd.reps_scalar _) (fun _ h=>h) trivial hPd.out.below (below_size hPd.out.below) (by simp) ?_
     case hr=>first|(go_simp;done)|(go_simp;rfl)
     intro vx wx hox hbx hgx _
     have hPx:=hPd.out.go (below_grown0 hgx)
     try (replace hrd:=hrd.out.go (below_grown0 hgx))
     obtain ⟨Ax,cx,rfl⟩:=Kd.R_slice hox
     have hCx:=(Kd.R_reads' hox).2.2
     clear hPd hox hgx hbx
     refine hK.out _ _ ⟨hPx.below,hPx.h5⟩ (fun _=>?_)
     clear hK K
     refine norm_ (a':=?_) ?_ ?_
     rotate_left
     ·show Act.put _ (some 65) _=_
      simp only [Act.put,List.setIfInBounds_toArray,List.set_cons_zero,List.set_cons_succ,i64_w,i32_w]
      rfl
     refine Cw.lastD (i:=13) (N:=some 66) (by simp only [List.getElem?_toArray,List.getElem?_cons_succ,List.getElem?_cons_zero];rfl) rfl (by as_aux_lemma=>kernel_rfl) (by decide) (fun K hK=>?_)
     apply Kd.R_append_rows_step Kd.bool (w0:=w) w.heap.size (by rfl) (.tmp 54) (.tmp 65) 22 4 (.bool false) 1 rfl Try.underlying22 info4 rfl (by decide) (by decide) (xs:=pBad b q) (ys:=[pBit b q]) (m:=1) (A:=Ax) (c:=cx) (ok:=fun _=>True) (okp:=fun _=>False) (HO:=hPx.rB) (HR:=hCx) (hKM:=fun _ _ h=>h) (hokp:=fun _ h=>h.elim) (hfresh:=fun _ _=>trivial) (HB:=hPx.below) (hbase:=below_size hPx.below)
     case hs=>rfl
     case hx=>rfl
     case hl=>rw [pBad_len];omega
     clear hCx
     intro vy wy hoy hby hgy _
     rw [← pBad_snoc] at hoy
     obtain ⟨Ay,cy,rfl⟩:=Kd.R_slice hoy
     have hPy:=hPx.rowB hoy hby hgy
     try (replace hrd:=hrd.row hPx.rB hgy (by decide))
     clear hPx hoy hgy hby
     refine hK.out _ _ ?_
     clear hK K
     refine norm_ (a':=?_) ?_ ?_
     rotate_left
     ·show Act.put _ (some 66) _=_
      simp only [Act.put,List.setIfInBounds_toArray,List.set_cons_zero,List.set_cons_succ,i64_w,i32_w]
      rfl
     refine Cw.dpu (i:=14) (v:=?_) (a':=?_) (by simp only [List.getElem?_toArray,List.getElem?_cons_succ,List.getElem?_cons_zero];rfl) rfl (by as_aux_lemma=>kernel_rfl) (by rfl) (by exact fun _ _ _ h=>h) ?_ ?_ ?_
     rotate_left
     ·intro w'
      go_simp
      with_reducible rfl
     rotate_left
     ·simp only [Act.put,List.setIfInBounds_toArray,List.set_cons_zero,List.set_cons_succ,i64_w,i32_w]
      rfl
     refine Cw.lastD (i:=15) (N:=none) (by simp only [List.getElem?_toArray,List.getElem?_cons_succ,List.getElem?_cons_zero];rfl) rfl (by as_aux_lemma=>kernel_rfl) (by decide) (fun K hK=>?_)
     refine pa_skip (by rfl) rfl (pa_st22 rfl rfl rfl hPy.h5 rfl) ?_
     intro wz hwz
     have hPz:=hPy.cell' hwz
     try (replace hrd:=hrd.oth hPy.h5 hwz)
     simp only [List.setIfInBounds_toArray,List.set_cons_zero,List.set_cons_succ] at hPz
     clear hPy hwz
     refine hK.out _ _ ?_
     clear hK K hS hP hr
     refine done_ (by as_aux_lemma=>kernel_rfl) ?_
     obtain ⟨AW,cW,rfl⟩:=Kd.R_slice hPz.rW
     go_wp2_with fail
     refine mb_startS (fun w'=>Below w.heap.size w w'∧w'.heap[g5]?=some (.cells #[.int .i64 1,.int .i64 (pGen b),.int .i64 (pB b 1),.int .i64 (pSeq b),.slice Ay (pBad b (q + 1)).length cy,.slice AW (pWear b q).length cW,.slice none 0 0] 42 (0,0))) [5,7] (by as_aux_lemma=>kernel_rfl) rfl (fun wd h_=>⟨below_step hPz.below h_,zbB hPz.h5 h_⟩) (fun wd h_=>?_)
     have hPd:=hPz.go h_
     replace hrd:=hrd.go h_
     have hS:(fun w'=>Below w.heap.size w w'∧w'.heap[g5]?=some (.cells #[.int .i64 1,.int .i64 (pGen b),.int .i64 (pB b 1),.int .i64 (pSeq b),.slice Ay (pBad b (q + 1)).length cy,.slice AW (pWear b q).length cW,.slice none 0 0] 42 (0,0))) wd:=⟨hPd.below,hPd.h5⟩
     clear h_ hPz
     have hh_:=zm hPd;clear hPd;have hPd:=hh_;clear hh_;have hh_:=zm hrd;clear hrd;have hrd:=hh_;clear hh_
     refine Cw.dpu (i:=0) (v:=?_) (a':=?_) (by simp only [List.getElem?_toArray,List.getElem?_cons_succ,List.getElem?_cons_zero];rfl) rfl (by as_aux_lemma=>kernel_rfl) (by rfl) (by exact fun _ _ _ h=>h) ?_ ?_ ?_
     rotate_left
     ·intro w'
      go_simp
      with_reducible rfl
     rotate_left
     ·simp only [Act.put,List.setIfInBounds_toArray,List.set_cons_zero,List.set_cons_succ,i64_w,i32_w]
      rfl
     refine Cw.dtkD (i:=1) (v:=?_) (a':=?_) (by simp only [List.getElem?_toArray,List.getElem?_cons_succ,List.getElem?_cons_zero];rfl) rfl (by as_aux_lemma=>kernel_rfl) (by rfl) (by exact fun _ _ _ h=>h) ?_ hS ?_ ?_
     rotate_left
     ·intro w' hs_
      apply Eq.trans
      ·apply mb_c23
       ·rfl
       ·rfl
       ·exact hs_.2
       ·rfl
      ·rfl
     rotate_left
     ·simp only [Act.put,List.setIfInBounds_toArray,List.set_cons_zero,List.set_cons_succ,i64_w,i32_w]
      rfl
     refine Cw.dpu (i:=2) (v:=?_) (a':=?_) (by simp only [List.getElem?_toArray,List.getElem?_cons_succ,List.getElem?_cons_zero];rfl) rfl (by as_aux_lemma=>kernel_rfl) (by rfl) (by exact fun _ _ _ h=>h) ?_ ?_ ?_
     rotate_left
     ·intro w'
      go_simp
      with_reducible rfl
     rotate_left
     ·simp only [Act.put,List.setIfInBounds_toArray,List.set_cons_zero,List.set_cons_succ,i64_w,i32_w]
      rfl
     clear hS
     refine Cw.done1D (i:=3) (N:=some 71) (by simp only [List.getElem?_toArray,List.getElem?_cons_succ,List.getElem?_cons_zero];rfl) rfl (by as_aux_lemma=>kernel_rfl) (by decide) (fun K hK=>?_)
     refine goes_ Try.func78 (by as_aux_lemma=>kernel_rfl) rfl _ (by rfl) rfl rfl (by go_simp;rfl) ?_
     refine (rd_at3 (w:=w) (32 + 3 * q) hPd.out.below hC.out hl.out hcc.out ho.out (by omega) hgw.out hrd.out).mono ?_
     clear hrd
     rintro e wx ⟨rfl,hrd,hbx,hpx,hkx⟩
     have hPx:=hpx _ _ _ _ _ _ _ _ _ hPd.out
     clear hPd hbx hpx hkx
     have hPd:=zm hPx
     clear hPx
     refine ⟨_,rfl,?_⟩
     refine hK.out _ _ ⟨hPd.out.below,hPd.out.h5⟩ (fun _=>?_)
     clear hK K
     have hh_:=zm hrd;clear hrd;have hrd:=hh_;clear hh_
     refine norm_ (a':=?_) ?_ ?_
     rotate_left
     ·show Act.put _ (some 71) _=_
      simp only [Act.put,List.setIfInBounds_toArray,List.set_cons_zero,List.set_cons_succ,i64_w,i32_w]
      rfl
     refine Cw.done1D (i:=4) (N:=some 72) (by simp only [List.getElem?_toArray,List.getElem?_cons_succ,List.getElem?_cons_zero];rfl) rfl (by as_aux_lemma=>kernel_rfl) (by decide) (fun K hK=>?_)
     refine Kd.R_lit_step (Kd.int .i64) (w0:=w) w.heap.size 2 (by rfl) (N:=72) rfl (xs:=[pWr b q]) (inner:=[.int .i64 (pWr b q)]) (ok:=fun _=>True) (okp:=fun _=>True) ?hr (Kd.reps_scalar _) (fun _ h=>h) trivial hPd.out.below (below_size hPd.out.below) (by simp) ?_
     case hr=>first|(go_simp;done)|(go_simp;rfl)
     intro vx wx hox hbx hgx _
     have hPx:=hPd.out.go (below_grown0 hgx)
     try (replace hrd:=hrd.out.go (below_grown0 hgx))
     obtain ⟨Ax,cx,rfl⟩:=Kd.R_slice hox
     have hCx:=(Kd.R_reads' hox).2.2
     clear hPd hox hgx hbx
     refine hK.out _ _ ⟨hPx.below,hPx.h5⟩ (fun _=>?_)
     clear hK K
     refine norm_ (a':=?_) ?_ ?_
     rotate_left
     ·show Act.put _ (some 72) _=_
      simp only [Act.put,List.setIfInBounds_toArray,List.set_cons_zero,List.set_cons_succ,i64_w,i32_w]
      rfl
     refine Cw.lastD (i:=5) (N:=some 73) (by simp only [List.getElem?_toArray,List.getElem?_cons_succ,List.getElem?_cons_zero];rfl) rfl (by as_aux_lemma=>kernel_rfl) (by decide) (fun K hK=>?_)
     apply Kd.R_append_rows_step (Kd.int .i64) (w0:=w) w.heap.size (by rfl) (.tmp 69) (.tmp 72) 23 2 (.int .i64 0) 8 rfl Try.underlying23 info2 rfl (by decide) (by decide) (xs:=pWear b q) (ys:=[pWr b q]) (m:=1) (A:=Ax) (c:=cx) (ok:=fun _=>True) (okp:=fun _=>False) (HO:=hPx.rW) (HR:=hCx) (hKM:=fun _ _ h=>h) (hokp:=fun _ h=>h.elim) (hfresh:=fun _ _=>trivial) (HB:=hPx.below) (hbase:=below_size hPx.below)
     case hs=>rfl
     case hx=>rfl
     case hl=>rw [pWear_len];omega
     clear hCx
     intro vy wy hoy hby hgy _
     rw [← pWear_snoc] at hoy
     obtain ⟨Ay,cy,rfl⟩:=Kd.R_slice hoy
     have hPy:=hPx.rowW hoy hby hgy
     try (replace hrd:=hrd.row hPx.rW hgy (by decide))
     clear hPx hoy hgy hby
     refine hK.out _ _ ?_
     clear hK K
     refine norm_ (a':=?_) ?_ ?_
     rotate_left
     ·show Act.put _ (some 73) _=_
      simp only [Act.put,List.setIfInBounds_toArray,List.set_cons_zero,List.set_cons_succ,i64_w,i32_w]
      rfl
     refine Cw.dpu (i:=6) (v:=?_) (a':=?_) (by simp only [List.getElem?_toArray,List.getElem?_cons_succ,List.getElem?_cons_zero];rfl) rfl (by as_aux_lemma=>kernel_rfl) (by rfl) (by exact fun _ _ _ h=>h) ?_ ?_ ?_
     rotate_left
     ·intro w'
      go_simp
      with_reducible rfl
     rotate_left
     ·simp only [Act.put,List.setIfInBounds_toArray,List.set_cons_zero,List.set_cons_succ,i64_w,i32_w]
      rfl
     refine Cw.lastD (i:=7) (N:=none) (by simp only [List.getElem?_toArray,List.getElem?_cons_succ,List.getElem?_cons_zero];rfl) rfl (by as_aux_lemma=>kernel_rfl) (by decide) (fun K hK=>?_)
     refine pa_skip (by rfl) rfl (pa_st23 rfl rfl rfl hPy.h5 rfl) ?_
     intro wz hwz
     have hPz:=hPy.cell' hwz
     try (replace hrd:=hrd.oth hPy.h5 hwz)
     simp only [List.setIfInBounds_toArray,List.set_cons_zero,List.set_cons_succ] at hPz
     clear hPy hwz
     refine hK.out _ _ ?_
     clear hK K
     refine done_ (by as_aux_lemma=>kernel_rfl) ?_
     go_wp2_with fail
     go_roundw
     case rel =>
      rw [show 32 + 3 * q + 3=32 + 3 * (q + 1) from by omega] at hrd
      exact ⟨q + 1,_,_,by first|with_reducible rfl|(rw [hqw];done)|rfl,⟨hqn⟩,⟨hPz⟩,⟨hrd⟩⟩
     case measure=>first|exact mb_m hqn|(rw [hqw];exact mb_m hqn)
    ·obtain rfl:q=n:=by have:=hq.out;omega
     have hd:decide ((q:Int) < (q:Int))=false:=decide_eq_false (by omega)
     obtain ⟨AB,cB,rfl⟩:=Kd.R_slice hP.out.rB
     obtain ⟨AW,cW,rfl⟩:=Kd.R_slice hP.out.rW
     have hpc:pc b=⟨1,pGen b,pB b 1,pSeq b,pBad b q,pWear b q,[]⟩:=by
      have e:pN b=q:=by unfold pN;rw [hn'];exact Int.toNat_natCast q
      unfold pc
      rw [if_pos ⟨hk1,by omega⟩,e]
     have hok:pOk b:=.inl ⟨hk1,by omega⟩
     have H:=H.out
     rw [if_pos hok,hpc] at H
     have hg_:=Option.bind_eq_some_iff.mp H;clear H;obtain ⟨⟨own,er⟩,F0,H⟩:=hg_;have hh_:=zm F0;clear F0;have F0:=hh_;clear hh_;(try dsimp only at H)
     have hh_:=zm H;clear H;have H:=hh_;clear hh_
     go_wp2_with (first|((with_reducible refine gate_ (.load 42 _) rfl ?_);refine Kd.event_run rfl (mb_ld42 rfl rfl hP.out.h5) ?_))
     refine (mapjnl_Bytes.calls k 1 _ _ _ AB cB _ AW cW _ none 0 _ own er _ (Kd.R_reads' hP.out.rB).2.2 (Kd.R_reads' hP.out.rB).2.1 (Kd.R_reads' hP.out.rW).2.2 (Kd.R_reads' hP.out.rW).2.1 (Kd.R_reads' hP.out.rR).2.2 (Kd.R_reads' hP.out.rR).2.1 F0.out).mono ?_
     rintro e wy ⟨vo,rfl,hoo,hbo⟩
     have hP:=hP.out.go hbo
     clear hbo
     obtain ⟨Ao,co,rfl⟩:=Kd.R_slice hoo
     have hh_:=zm hP;clear hP;have hP:=hh_;clear hh_;have hh_:=zm hoo;clear hoo;have hoo:=hh_;clear hh_
     by_cases he:er=0
     rotate_left
     ·have heb:(er != 0)=true:=bne_iff_ne.mpr he
      have H:=H.out
      rw [if_neg (fun h_=>he h_.1)] at H
      simp only [Option.some.injEq,Prod.mk.injEq] at H
      obtain ⟨rfl,rfl,rfl,rfl,rfl,rfl,rfl,rfl⟩:=H
      go_wp2_with (first|((with_reducible refine gate_store (t:=42) (p:=2) rfl ?_);refine Cw.put_event rfl rfl rfl (mb_st42 rfl rfl rfl hP.out.h2) ?_;rintro w9 hw9;have hh_:=zm hw9;clear hw9;have hw9:=hh_;clear hh_))
      obtain ⟨hk9,hb9,_,_,_⟩:=hP.out.result _ rfl hw9.out
      clear hw9
      refine bodyPost_ret (results_ct rfl _ _ g2 42 _ (0,0) _ rfl hk9 Try.underlying42 rfl (by kernel_rfl)) rfl ?_
      exact ⟨_,_,_,rfl,Kd.R_nil _ _ _ _ _,Kd.R_nil _ _ _ _ _,Kd.R_nil _ _ _ _ _,hb9⟩
     subst he
     go_wp2_with fail
     have hq:=bytes_Equal.calls Ao co own A c b ((strOfNums own).toList == (strOfNums b).toList) wy (Kd.R_reads' hoo.out).2.2 (Kd.R_reads' hoo.out).2.1 (Kd.C_below hC.out hP.out.below) hc.out rfl
     rw [hl.out] at hq
     refine hq.mono ?_
     clear hq
     rintro e wz ⟨rfl,hD⟩
     have hP:=hP.out.go hD.below
     clear hD
     have hh_:=zm hP;clear hP;have hP:=hh_;clear hh_
     by_cases hs:((strOfNums own).toList == (strOfNums b).toList)=true
     rotate_left
     ·have hsb:((strOfNums own).toList == (strOfNums b).toList)=false:=by simpa using hs
      have H:=H.out
      rw [if_neg (fun h_=>hs h_.2)] at H
      simp only [Option.some.injEq,Prod.mk.injEq] at H
      obtain ⟨rfl,rfl,rfl,rfl,rfl,rfl,rfl,rfl⟩:=H
      rw [hsb]
      clear hs hsb
      go_wp2_with (first|((with_reducible refine gate_store (t:=42) (p:=2) rfl ?_);refine Cw.put_event rfl rfl rfl (mb_st42 rfl rfl rfl hP.out.h2) ?_;rintro w9 hw9;have hh_:=zm hw9;clear hw9;have hw9:=hh_;clear hh_))
      obtain ⟨hk9,hb9,_,_,_⟩:=hP.out.result _ rfl hw9.out
      clear hw9
      refine bodyPost_ret (results_ct rfl _ _ g2 42 _ (0,0) _ rfl hk9 Try.underlying42 rfl (by kernel_rfl)) rfl ?_
      exact ⟨_,_,_,rfl,Kd.R_nil _ _ _ _ _,Kd.R_nil _ _ _ _ _,Kd.R_nil _ _ _ _ _,hb9⟩
     have H:=H.out
     rw [if_pos ⟨by first|rfl|trivial,hs⟩] at H
     simp only [Option.some.injEq,Prod.mk.injEq] at H
     obtain ⟨rfl,rfl,rfl,rfl,rfl,rfl,rfl,rfl⟩:=H
     rw [hs]
     clear hs
     go_wp2_with (first|((with_reducible refine gate_ (.load 42 _) rfl ?_);refine Kd.event_run rfl (mb_ld42 rfl rfl hP.out.h5) ?_)|((with_reducible refine gate_store (t:=42) (p:=2) rfl ?_);refine Cw.put_event rfl rfl rfl (mb_st42 rfl rfl rfl hP.out.h2) ?_;rintro w9 hw9;have hh_:=zm hw9;clear hw9;have hw9:=hh_;clear hh_))
     obtain ⟨hk9,hb9,hB9,hW9,hR9⟩:=hP.out.result _ rfl hw9.out
     clear hw9
     refine bodyPost_ret (results_ct rfl _ _ g2 42 _ (0,0) _ rfl hk9 Try.underlying42 rfl (by kernel_rfl)) rfl ?_
     exact ⟨_,_,_,rfl,hB9,hW9,hR9,hb9⟩
  ·have hnb:decide (pB b 2≤64)=false:=decide_eq_false hn
   have hk2b:(pB b 0 == 2)=false:=beq_eq_false_iff_ne.mpr (by omega)
   have hno:¬ pOk b:=by unfold pOk;omega
   have H:=H.out
   rw [if_neg hno] at H
   simp only [Option.some.injEq,Prod.mk.injEq] at H
   obtain ⟨rfl,rfl,rfl,rfl,rfl,rfl,rfl,rfl⟩:=H
   go_wp2_with (first|((with_reducible refine gate_store (t:=2) (p:=29) rfl ?_);refine store_event (t:=2) (p:=29) rfl rfl rfl (pa_st2 rfl rfl rfl hP.out.h5 rfl) ?_;rintro w9 hw9;have hP9:=hP.out.cell' hw9;have hr9:=hr.out.oth hP.out.h5 hw9;simp only [List.setIfInBounds_toArray,List.set_cons_zero,List.set_cons_succ] at hP9;clear hP hr hw9;have hP:=zm hP9;have hr:=zm hr9;clear hP9 hr9)|((with_reducible refine gate_ (.load 3 _) rfl ?_);refine Kd.event_run rfl (mb_c3 rfl rfl hP.out.h5 rfl) ?_)|((with_reducible refine gate_store (t:=42) (p:=2) rfl ?_);refine Cw.put_event rfl rfl rfl (mb_st42 rfl rfl rfl hP.out.h2) ?_;rintro w9 hw9;have hh_:=zm hw9;clear hw9;have hw9:=hh_;clear hh_))
   obtain ⟨hk9,hb9,_,_,_⟩:=hP.out.result _ rfl hw9.out
   clear hw9
   refine bodyPost_ret (results_ct rfl _ _ g2 42 _ (0,0) _ rfl hk9 Try.underlying42 rfl (by kernel_rfl)) rfl ?_
   exact ⟨_,_,_,rfl,Kd.R_nil _ _ _ _ _,Kd.R_nil _ _ _ _ _,Kd.R_nil _ _ _ _ _,hb9⟩
 ·have hk1b:(pB b 0 == 1)=false:=beq_eq_false_iff_ne.mpr hk1
  by_cases hk2:pB b 0=2
  ·have hk2b:(pB b 0 == 2)=true:=beq_iff_eq.mpr hk2
   by_cases hn:pB b 2≤24
   ·have hnb:decide (pB b 2≤24)=true:=decide_eq_true hn
    rw [hk2] at hP
    obtain ⟨n,hn'⟩:∃ n:Nat,pB b 2=n:=⟨(pB b 2).toNat,by omega⟩
    rw [hn'] at hn hnb
    have hn24:=zm (show n≤24 from by omega)
    go_wp2_with (first|((with_reducible refine gate_store (t:=2) (p:=29) rfl ?_);refine store_event (t:=2) (p:=29) rfl rfl rfl (pa_st2 rfl rfl rfl hP.out.h5 rfl) ?_;rintro w9 hw9;have hP9:=hP.out.cell' hw9;have hr9:=hr.out.oth hP.out.h5 hw9;simp only [List.setIfInBounds_toArray,List.set_cons_zero,List.set_cons_succ] at hP9;clear hP hr hw9;have hP:=zm hP9;have hr:=zm hr9;clear hP9 hr9)|((with_reducible refine gate_ (.load 3 _) rfl ?_);refine Kd.event_run rfl (mb_c3 rfl rfl hP.out.h5 rfl) ?_))
    go_loopw [85] (fun v wi=>∃ (q:Nat) (vR:Value),v=.int .i64 (q:Int)∧Aside0 (q≤n)∧Aside0 (PSt w wi g2 g5 #[.int .i64 2,.int .i64 (pGen b),.int .i64 (pB b 1),.int .i64 0,.slice none 0 0,.slice none 0 0,vR] (.slice none 0 0) [] (.slice none 0 0) [] vR (pRecs b q))∧Aside0 (Rd wi gr A c (16 + 10 * q))) (fun v _=>n - (intOf v).toNat)
    case atStart=>exact ⟨0,_,rfl,⟨Nat.zero_le _⟩,hP,hr⟩
    case round =>
     clear hP hr
     obtain ⟨q,vR,rfl,hq,hP,hr⟩:=hrel
     by_cases hqn:q < n
     ·have hd:decide ((q:Int) < (n:Int))=true:=decide_eq_true (by omega)
      have hqw:=mb_w (show q≤300 by omega)
      obtain ⟨AR,cR,rfl⟩:=Kd.R_slice hP.out.rR
      go_wp2_with fail
      refine mb_startS (fun w'=>Below w.heap.size w w'∧w'.heap[g5]?=some (.cells #[.int .i64 2,.int .i64 (pGen b),.int .i64 (pB b 1),.int .i64 0,.slice none 0 0,.slice none 0 0,.slice AR (pRecs b q).length cR] 42 (0,0))) [10,12] (by as_aux_lemma=>kernel_rfl) rfl (fun wd h_=>⟨below_step hP.out.below h_,zbB hP.out.h5 h_⟩) (fun wd h_=>?_)
      have hPd:=zm (hP.out.go h_)
      have hrd:=zm (hr.out.go h_)
      have hS:(fun w'=>Below w.heap.size w w'∧w'.heap[g5]?=some (.cells #[.int .i64 2,.int .i64 (pGen b),.int .i64 (pB b 1),.int .i64 0,.slice none 0 0,.slice none 0 0,.slice AR (pRecs b q).length cR] 42 (0,0))) wd:=⟨hPd.out.below,hPd.out.h5⟩
      clear h_ hP hr
      refine Cw.dpu (i:=0) (v:=?_) (a':=?_) (by simp only [List.getElem?_toArray,List.getElem?_cons_succ,List.getElem?_cons_zero];rfl) rfl (by as_aux_lemma=>kernel_rfl) (by rfl) (by exact fun _ _ _ h=>h) ?_ ?_ ?_
      rotate_left
      ·intro w'
       go_simp
       with_reducible rfl
      rotate_left
      ·simp only [Act.put,List.setIfInBounds_toArray,List.set_cons_zero,List.set_cons_succ,i64_w,i32_w]
       rfl
      refine Cw.dtkD (i:=1) (v:=?_) (a':=?_) (by simp only [List.getElem?_toArray,List.getElem?_cons_succ,List.getElem?_cons_zero];rfl) rfl (by as_aux_lemma=>kernel_rfl) (by rfl) (by exact fun _ _ _ h=>h) ?_ hS ?_ ?_
      rotate_left
      ·intro w' hs_
       apply Eq.trans
       ·apply mb_c34
        ·rfl
        ·rfl
        ·exact hs_.2
        ·rfl
       ·rfl
      rotate_left
      ·simp only [Act.put,List.setIfInBounds_toArray,List.set_cons_zero,List.set_cons_succ,i64_w,i32_w]
       rfl
      refine Cw.dpu (i:=2) (v:=?_) (a':=?_) (by simp only [List.getElem?_toArray,List.getElem?_cons_succ,List.getElem?_cons_zero];rfl) rfl (by as_aux_lemma=>kernel_rfl) (by rfl) (by exact fun _ _ _ h=>h) ?_ ?_ ?_
      rotate_left
      ·intro w'
       go_simp
       with_reducible rfl
      rotate_left
      ·simp only [Act.put,List.setIfInBounds_toArray,List.set_cons_zero,List.set_cons_succ,i64_w,i32_w]
       rfl
      refine Cw.dpu (i:=4) (v:=?_) (a':=?_) (by simp only [List.getElem?_toArray,List.getElem?_cons_succ,List.getElem?_cons_zero];rfl) rfl (by as_aux_lemma=>kernel_rfl) (by rfl) (by exact fun _ _ _ h=>h) ?_ ?_ ?_
      rotate_left
      ·intro w'
       go_simp
       with_reducible rfl
      rotate_left
      ·simp only [Act.put,List.setIfInBounds_toArray,List.set_cons_zero,List.set_cons_succ,i64_w,i32_w]
       rfl
      refine Cw.dpu (i:=6) (v:=?_) (a':=?_) (by simp only [List.getElem?_toArray,List.getElem?_cons_succ,List.getElem?_cons_zero];rfl) rfl (by as_aux_lemma=>kernel_rfl) (by rfl) (by exact fun _ _ _ h=>h) ?_ ?_ ?_
      rotate_left
      ·intro w'
       go_simp
       with_reducible rfl
      rotate_left
      ·simp only [Act.put,List.setIfInBounds_toArray,List.set_cons_zero,List.set_cons_succ,i64_w,i32_w]
       rfl
      clear hS
      refine Cw.done1D (i:=3) (N:=some 90) (by simp only [List.getElem?_toArray,List.getElem?_cons_succ,List.getElem?_cons_zero];rfl) rfl (by as_aux_lemma=>kernel_rfl) (by decide) (fun K hK=>?_)
      refine goes_ Try.func78 (by as_aux_lemma=>kernel_rfl) rfl _ (by rfl) rfl rfl (by go_simp;rfl) ?_
      refine (rd_at1 (w:=w) (16 + 10 * q) hPd.out.below hC.out hl.out hcc.out ho.out (by omega) hgw.out hrd.out).mono ?_
      clear hrd
      rintro e wx ⟨rfl,hrd,hbx,hpx,hkx⟩
      have hPx:=hpx _ _ _ _ _ _ _ _ _ hPd.out
      clear hPd hbx hpx hkx
      have hPd:=zm hPx
      clear hPx
      refine ⟨_,rfl,?_⟩
      refine hK.out _ _ ⟨hPd.out.below,hPd.out.h5⟩ (fun _=>?_)
      clear hK K
      have hh_:=zm hrd;clear hrd;have hrd:=hh_;clear hh_
      refine norm_ (a':=?_) ?_ ?_
      rotate_left
      ·show Act.put _ (some 90) _=_
       simp only [Act.put,List.setIfInBounds_toArray,List.set_cons_zero,List.set_cons_succ,i64_w,i32_w]
       rfl
      refine Cw.done1D (i:=5) (N:=some 92) (by simp only [List.getElem?_toArray,List.getElem?_cons_succ,List.getElem?_cons_zero];rfl) rfl (by as_aux_lemma=>kernel_rfl) (by decide) (fun K hK=>?_)
      refine goes_ Try.func78 (by as_aux_lemma=>kernel_rfl) rfl _ (by rfl) rfl rfl (by go_simp;rfl) ?_
      refine (rd_at1 (w:=w) (16 + 10 * q + 1) hPd.out.below hC.out hl.out hcc.out ho.out (by omega) hgw.out hrd.out).mono ?_
      clear hrd
      rintro e wx ⟨rfl,hrd,hbx,hpx,hkx⟩
      have hPx:=hpx _ _ _ _ _ _ _ _ _ hPd.out
      clear hPd hbx hpx hkx
      have hPd:=zm hPx
      clear hPx
      refine ⟨_,rfl,?_⟩
      refine hK.out _ _ ⟨hPd.out.below,hPd.out.h5⟩ (fun _=>?_)
      clear hK K
      have hh_:=zm hrd;clear hrd;have hrd:=hh_;clear hh_
      refine norm_ (a':=?_) ?_ ?_
      rotate_left
      ·show Act.put _ (some 92) _=_
       simp only [Act.put,List.setIfInBounds_toArray,List.set_cons_zero,List.set_cons_succ,i64_w,i32_w]
       rfl
      refine Cw.done1D (i:=7) (N:=some 94) (by simp only [List.getElem?_toArray,List.getElem?_cons_succ,List.getElem?_cons_zero];rfl) rfl (by as_aux_lemma=>kernel_rfl) (by decide) (fun K hK=>?_)
      refine goes_ Try.func78 (by as_aux_lemma=>kernel_rfl) rfl _ (by rfl) rfl rfl (by go_simp;rfl) ?_
      refine (rd_at8 (w:=w) (16 + 10 * q + 2) hPd.out.below hC.out hl.out hcc.out ho.out (by omega) hgw.out hrd.out).mono ?_
      clear hrd
      rintro e wx ⟨rfl,hrd,hbx,hpx,hkx⟩
      have hPx:=hpx _ _ _ _ _ _ _ _ _ hPd.out
      clear hPd hbx hpx hkx
      have hPd:=zm hPx
      clear hPx
      refine ⟨_,rfl,?_⟩
      refine hK.out _ _ ⟨hPd.out.below,hPd.out.h5⟩ (fun _=>?_)
      clear hK K
      have hh_:=zm hrd;clear hrd;have hrd:=hh_;clear hh_
      refine norm_ (a':=?_) ?_ ?_
      rotate_left
      ·show Act.put _ (some 94) _=_
       simp only [Act.put,List.setIfInBounds_toArray,List.set_cons_zero,List.set_cons_succ,i64_w,i32_w]
       rfl
      refine Cw.dpu (i:=8) (v:=?_) (a':=?_) (by simp only [List.getElem?_toArray,List.getElem?_cons_succ,List.getElem?_cons_zero];rfl) rfl (by as_aux_lemma=>kernel_rfl) (by rfl) (by exact fun _ _ _ h=>h) ?_ ?_ ?_
      rotate_left
      ·intro w'
       go_simp
       with_reducible rfl
      rotate_left
      ·simp only [Act.put,List.setIfInBounds_toArray,List.set_cons_zero,List.set_cons_succ,i64_w,i32_w]
       rfl
      refine Cw.done1D (i:=9) (N:=some 96) (by simp only [List.getElem?_toArray,List.getElem?_cons_succ,List.getElem?_cons_zero];rfl) rfl (by as_aux_lemma=>kernel_rfl) (by decide) (fun K hK=>?_)
      refine Kd.R_lit_step k55 (w0:=w) w.heap.size 55 (by rfl) (N:=96) rfl (xs:=[pRec b q]) (inner:=[.int .i64 (pB b (16 + 10 * q)),.int .i64 (pB b (16 + 10 * q + 1)),.int .i64 (pNum ((b.drop (16 + 10 * q + 2)).take 8))]) (ok:=fun _=>True) (okp:=fun _=>True) ?hr (pa_rep _ _ _ (pRec b q)) (fun _ h=>h) trivial hPd.out.below (below_size hPd.out.below) (by simp) ?_
      case hr=>first|(go_simp;done)|(go_simp;rfl)
      intro vx wx hox hbx hgx _
      have hPx:=hPd.out.go (below_grown0 hgx)
      try (replace hrd:=hrd.out.go (below_grown0 hgx))
      obtain ⟨Ax,cx,rfl⟩:=Kd.R_slice hox
      have hCx:=(Kd.R_reads' hox).2.2
      clear hPd hox hgx hbx
      refine hK.out _ _ ⟨hPx.below,hPx.h5⟩ (fun _=>?_)
      clear hK K
      refine norm_ (a':=?_) ?_ ?_
      rotate_left
      ·show Act.put _ (some 96) _=_
       simp only [Act.put,List.setIfInBounds_toArray,List.set_cons_zero,List.set_cons_succ,i64_w,i32_w]
       rfl
      refine Cw.lastD (i:=10) (N:=some 97) (by simp only [List.getElem?_toArray,List.getElem?_cons_succ,List.getElem?_cons_zero];rfl) rfl (by as_aux_lemma=>kernel_rfl) (by decide) (fun K hK=>?_)
      apply Kd.R_append_rows_step k55 (w0:=w) w.heap.size (by rfl) (.tmp 88) (.tmp 96) 34 55 (.agg #[(.int .i64 0),(.int .i64 0),(.int .i64 0)]) 24 rfl Try.underlying34 info55 rfl (by decide) (by decide) (xs:=pRecs b q) (ys:=[pRec b q]) (m:=1) (A:=Ax) (c:=cx) (ok:=fun _=>True) (okp:=fun _=>False) (HO:=hPx.rR) (HR:=hCx) (hKM:=fun x cs h=>by rw [k55_open h];exact k55_mkM _ _ _ x) (hokp:=fun _ h=>h.elim) (hfresh:=fun _ _=>trivial) (HB:=hPx.below) (hbase:=below_size hPx.below)
      case hs=>rfl
      case hx=>rfl
      case hl=>rw [pRecs_len];exact pa_cap24 hqn hn24.out
      clear hCx
      intro vy wy hoy hby hgy _
      rw [← pRecs_snoc] at hoy
      obtain ⟨Ay,cy,rfl⟩:=Kd.R_slice hoy
      have hPy:=hPx.rowR hoy hby hgy
      try (replace hrd:=hrd.row hPx.rR hgy (by decide))
      clear hPx hoy hgy hby
      refine hK.out _ _ ?_
      clear hK K
      refine norm_ (a':=?_) ?_ ?_
      rotate_left
      ·show Act.put _ (some 97) _=_
       simp only [Act.put,List.setIfInBounds_toArray,List.set_cons_zero,List.set_cons_succ,i64_w,i32_w]
       rfl
      refine Cw.dpu (i:=11) (v:=?_) (a':=?_) (by simp only [List.getElem?_toArray,List.getElem?_cons_succ,List.getElem?_cons_zero];rfl) rfl (by as_aux_lemma=>kernel_rfl) (by rfl) (by exact fun _ _ _ h=>h) ?_ ?_ ?_
      rotate_left
      ·intro w'
       go_simp
       with_reducible rfl
      rotate_left
      ·simp only [Act.put,List.setIfInBounds_toArray,List.set_cons_zero,List.set_cons_succ,i64_w,i32_w]
       rfl
      refine Cw.lastD (i:=12) (N:=none) (by simp only [List.getElem?_toArray,List.getElem?_cons_succ,List.getElem?_cons_zero];rfl) rfl (by as_aux_lemma=>kernel_rfl) (by decide) (fun K hK=>?_)
      refine pa_skip (by rfl) rfl (pa_st34 rfl rfl rfl hPy.h5 rfl) ?_
      intro wz hwz
      have hPz:=hPy.cell' hwz
      try (replace hrd:=hrd.oth hPy.h5 hwz)
      simp only [List.setIfInBounds_toArray,List.set_cons_zero,List.set_cons_succ] at hPz
      clear hPy hwz
      refine hK.out _ _ ?_
      clear hK K
      refine done_ (by as_aux_lemma=>kernel_rfl) ?_
      go_wp2_with fail
      go_roundw
      case rel =>
       rw [show 16 + 10 * q + 2 + 8=16 + 10 * (q + 1) from by omega] at hrd
       exact ⟨q + 1,_,by first|with_reducible rfl|(rw [hqw];done)|rfl,⟨hqn⟩,⟨hPz⟩,⟨hrd⟩⟩
      case measure=>first|exact mb_m hqn|(rw [hqw];exact mb_m hqn)
     ·obtain rfl:q=n:=by have:=hq.out;omega
      have hd:decide ((q:Int) < (q:Int))=false:=decide_eq_false (by omega)
      obtain ⟨AR,cR,rfl⟩:=Kd.R_slice hP.out.rR
      have hpc:pc b=⟨2,pGen b,pB b 1,0,[],[],pRecs b q⟩:=by
       have e:pN b=q:=by unfold pN;rw [hn'];exact Int.toNat_natCast q
       unfold pc
       rw [if_neg (by omega),if_pos ⟨hk2,by omega⟩,e]
      have hok:pOk b:=.inr ⟨hk2,by omega⟩
      have H:=H.out
      rw [if_pos hok,hpc] at H
      have hg_:=Option.bind_eq_some_iff.mp H;clear H;obtain ⟨⟨own,er⟩,F0,H⟩:=hg_;have hh_:=zm F0;clear F0;have F0:=hh_;clear hh_;(try dsimp only at H)
      have hh_:=zm H;clear H;have H:=hh_;clear hh_
      go_wp2_with (first|((with_reducible refine gate_ (.load 42 _) rfl ?_);refine Kd.event_run rfl (mb_ld42 rfl rfl hP.out.h5) ?_))
      refine (mapjnl_Bytes.calls k 2 _ _ _ none 0 _ none 0 _ AR cR _ own er _ (Kd.R_reads' hP.out.rB).2.2 (Kd.R_reads' hP.out.rB).2.1 (Kd.R_reads' hP.out.rW).2.2 (Kd.R_reads' hP.out.rW).2.1 (Kd.R_reads' hP.out.rR).2.2 (Kd.R_reads' hP.out.rR).2.1 F0.out).mono ?_
      rintro e wy ⟨vo,rfl,hoo,hbo⟩
      have hP:=hP.out.go hbo
      clear hbo
      obtain ⟨Ao,co,rfl⟩:=Kd.R_slice hoo
      have hh_:=zm hP;clear hP;have hP:=hh_;clear hh_;have hh_:=zm hoo;clear hoo;have hoo:=hh_;clear hh_
      by_cases he:er=0
      rotate_left
      ·have heb:(er != 0)=true:=bne_iff_ne.mpr he
       have H:=H.out
       rw [if_neg (fun h_=>he h_.1)] at H
       simp only [Option.some.injEq,Prod.mk.injEq] at H
       obtain ⟨rfl,rfl,rfl,rfl,rfl,rfl,rfl,rfl⟩:=H
       go_wp2_with (first|((with_reducible refine gate_store (t:=42) (p:=2) rfl ?_);refine Cw.put_event rfl rfl rfl (mb_st42 rfl rfl rfl hP.out.h2) ?_;rintro w9 hw9;have hh_:=zm hw9;clear hw9;have hw9:=hh_;clear hh_))
       obtain ⟨hk9,hb9,_,_,_⟩:=hP.out.result _ rfl hw9.out
       clear hw9
       refine bodyPost_ret (results_ct rfl _ _ g2 42 _ (0,0) _ rfl hk9 Try.underlying42 rfl (by kernel_rfl)) rfl ?_
       exact ⟨_,_,_,rfl,Kd.R_nil _ _ _ _ _,Kd.R_nil _ _ _ _ _,Kd.R_nil _ _ _ _ _,hb9⟩
      subst he
      go_wp2_with fail
      have hq:=bytes_Equal.calls Ao co own A c b ((strOfNums own).toList == (strOfNums b).toList) wy (Kd.R_reads' hoo.out).2.2 (Kd.R_reads' hoo.out).2.1 (Kd.C_below hC.out hP.out.below) hc.out rfl
      rw [hl.out] at hq
      refine hq.mono ?_
      clear hq
      rintro e wz ⟨rfl,hD⟩
      have hP:=hP.out.go hD.below
      clear hD
      have hh_:=zm hP;clear hP;have hP:=hh_;clear hh_
      by_cases hs:((strOfNums own).toList == (strOfNums b).toList)=true
      rotate_left
      ·have hsb:((strOfNums own).toList == (strOfNums b).toList)=false:=by simpa using hs
       have H:=H.out
       rw [if_neg (fun h_=>hs h_.2)] at H
       simp only [Option.some.injEq,Prod.mk.injEq] at H
       obtain ⟨rfl,rfl,rfl,rfl,rfl,rfl,rfl,rfl⟩:=H
       rw [hsb]
       clear hs hsb
       go_wp2_with (first|((with_reducible refine gate_store (t:=42) (p:=2) rfl ?_);refine Cw.put_event rfl rfl rfl (mb_st42 rfl rfl rfl hP.out.h2) ?_;rintro w9 hw9;have hh_:=zm hw9;clear hw9;have hw9:=hh_;clear hh_))
       obtain ⟨hk9,hb9,_,_,_⟩:=hP.out.result _ rfl hw9.out
       clear hw9
       refine bodyPost_ret (results_ct rfl _ _ g2 42 _ (0,0) _ rfl hk9 Try.underlying42 rfl (by kernel_rfl)) rfl ?_
       exact ⟨_,_,_,rfl,Kd.R_nil _ _ _ _ _,Kd.R_nil _ _ _ _ _,Kd.R_nil _ _ _ _ _,hb9⟩
      have H:=H.out
      rw [if_pos ⟨by first|rfl|trivial,hs⟩] at H
      simp only [Option.some.injEq,Prod.mk.injEq] at H
      obtain ⟨rfl,rfl,rfl,rfl,rfl,rfl,rfl,rfl⟩:=H
      rw [hs]
      clear hs
      go_wp2_with (first|((with_reducible refine gate_ (.load 42 _) rfl ?_);refine Kd.event_run rfl (mb_ld42 rfl rfl hP.out.h5) ?_)|((with_reducible refine gate_store (t:=42) (p:=2) rfl ?_);refine Cw.put_event rfl rfl rfl (mb_st42 rfl rfl rfl hP.out.h2) ?_;rintro w9 hw9;have hh_:=zm hw9;clear hw9;have hw9:=hh_;clear hh_))
      obtain ⟨hk9,hb9,hB9,hW9,hR9⟩:=hP.out.result _ rfl hw9.out
      clear hw9
      refine bodyPost_ret (results_ct rfl _ _ g2 42 _ (0,0) _ rfl hk9 Try.underlying42 rfl (by kernel_rfl)) rfl ?_
      exact ⟨_,_,_,rfl,hB9,hW9,hR9,hb9⟩
   ·have hnb:decide (pB b 2≤24)=false:=decide_eq_false hn
    have hno:¬ pOk b:=by unfold pOk;omega
    have H:=H.out
    rw [if_neg hno] at H
    simp only [Option.some.injEq,Prod.mk.injEq] at H
    obtain ⟨rfl,rfl,rfl,rfl,rfl,rfl,rfl,rfl⟩:=H
    go_wp2_with (first|((with_reducible refine gate_store (t:=2) (p:=29) rfl ?_);refine store_event (t:=2) (p:=29) rfl rfl rfl (pa_st2 rfl rfl rfl hP.out.h5 rfl) ?_;rintro w9 hw9;have hP9:=hP.out.cell' hw9;have hr9:=hr.out.oth hP.out.h5 hw9;simp only [List.setIfInBounds_toArray,List.set_cons_zero,List.set_cons_succ] at hP9;clear hP hr hw9;have hP:=zm hP9;have hr:=zm hr9;clear hP9 hr9)|((with_reducible refine gate_ (.load 3 _) rfl ?_);refine Kd.event_run rfl (mb_c3 rfl rfl hP.out.h5 rfl) ?_)|((with_reducible refine gate_store (t:=42) (p:=2) rfl ?_);refine Cw.put_event rfl rfl rfl (mb_st42 rfl rfl rfl hP.out.h2) ?_;rintro w9 hw9;have hh_:=zm hw9;clear hw9;have hw9:=hh_;clear hh_))
    obtain ⟨hk9,hb9,_,_,_⟩:=hP.out.result _ rfl hw9.out
    clear hw9
    refine bodyPost_ret (results_ct rfl _ _ g2 42 _ (0,0) _ rfl hk9 Try.underlying42 rfl (by kernel_rfl)) rfl ?_
    exact ⟨_,_,_,rfl,Kd.R_nil _ _ _ _ _,Kd.R_nil _ _ _ _ _,Kd.R_nil _ _ _ _ _,hb9⟩
  ·have hk2b:(pB b 0 == 2)=false:=beq_eq_false_iff_ne.mpr hk2
   have hno:¬ pOk b:=by unfold pOk;omega
   have H:=H.out
   rw [if_neg hno] at H
   simp only [Option.some.injEq,Prod.mk.injEq] at H
   obtain ⟨rfl,rfl,rfl,rfl,rfl,rfl,rfl,rfl⟩:=H
   go_wp2_with (first|((with_reducible refine gate_store (t:=2) (p:=29) rfl ?_);refine store_event (t:=2) (p:=29) rfl rfl rfl (pa_st2 rfl rfl rfl hP.out.h5 rfl) ?_;rintro w9 hw9;have hP9:=hP.out.cell' hw9;have hr9:=hr.out.oth hP.out.h5 hw9;simp only [List.setIfInBounds_toArray,List.set_cons_zero,List.set_cons_succ] at hP9;clear hP hr hw9;have hP:=zm hP9;have hr:=zm hr9;clear hP9 hr9)|((with_reducible refine gate_ (.load 3 _) rfl ?_);refine Kd.event_run rfl (mb_c3 rfl rfl hP.out.h5 rfl) ?_)|((with_reducible refine gate_store (t:=42) (p:=2) rfl ?_);refine Cw.put_event rfl rfl rfl (mb_st42 rfl rfl rfl hP.out.h2) ?_;rintro w9 hw9;have hh_:=zm hw9;clear hw9;have hw9:=hh_;clear hh_))
   obtain ⟨hk9,hb9,_,_,_⟩:=hP.out.result _ rfl hw9.out
   clear hw9
   refine bodyPost_ret (results_ct rfl _ _ g2 42 _ (0,0) _ rfl hk9 Try.underlying42 rfl (by kernel_rfl)) rfl ?_
   exact ⟨_,_,_,rfl,Kd.R_nil _ _ _ _ _,Kd.R_nil _ _ _ _ _,Kd.R_nil _ _ _ _ _,hb9⟩
end Go.Proofs.Ytkhbmgclklmimaa.Print
end
section
namespace Go.Proofs.Ytkhbmgclklmimaa.Print
open Go.RowKit Go.Proofs.YtkhbmgclklmimaaW.PrintWords Go.Proofs.YtkhbmgclklmimaaW.PrintLast Go.Proofs.YtkhbmgclklmimaaW.PrintMore
attribute [local go_sem] max2_int min2_int max_two min_two max_three min_three max_four min_four   -- for this text's walks alone
attribute [local go_sem ↓] Go.Proofs.Ytkhbmgclklmimaa.Sem.isSome_setCell
attribute [local go_sem] Go.Instr.field Go.asAgg
set_option linter.unusedVariables false
set_option linter.unusedSimpArgs false
-- CX
-- SQ
theorem ra_str {o:Oper} {a:Act} {W:World} {x:Operand} {A:Option Addr} {n c:Nat} {xs:List Int} (hop:o.op=.convert 67 9 x) (hx:a.eval x=.slice A n c) (hC:(Kd.int .u8).C W A n xs):(execOp a.eval o).run Try.prog W=.ok (.value (.string (strOfNums xs))) W:=by
 have h:=Kd.C_string (P:=Try.prog) (c:=c) Try.underlying67 Try.underlying5 Try.underlying9 hC
 simp only [execOp,hop,hx]
 simp [h]
 done
theorem ra_strne {o:Oper} {a:Act} {W:World} {x y:Operand} {xs ys:List Int} (hop:o.op=.binOp .neq 9 x y 9) (hx:a.eval x=.string (strOfNums xs)) (hy:a.eval y=.string (strOfNums ys)):(execOp a.eval o).run Try.prog W=.ok (.value (.bool (!((strOfNums xs).toList == (strOfNums ys).toList)))) W:=by
 have hu:=Try.underlying9
 simp only [execOp,hop,hx,hy]
 go_simp
 done
theorem ra_cut {o:Oper} {a:Act} {W:World} {x y z:Operand} {a0:Addr} {n c:Nat} {lo hi:Int} (hop:o.op=.slice 67 x (some y) (some z) none) (hx:a.eval x=.slice (some a0) n c) (hy:a.eval y=.int .i64 lo) (hz:a.eval z=.int .i64 hi) (h0:0≤lo) (h1:lo≤hi) (h2:hi≤(c:Int)) (h3:lo < (c:Int)) :
  (execOp a.eval o).run Try.prog W=.ok (.value (.slice (some (a0.add lo.toNat)) (hi.toNat - lo.toNat) (c - lo.toNat))) W:=by
 have hu:=Try.underlying67
 have hne:¬ (c - lo.toNat=0):=by omega
 have hne2:¬ (c=lo.toNat):=by omega
 generalize a.eval=ev at hx hy hz ⊢
 simp only [execOp,hop,hx,hy,hz,Option.map_some,Option.map_none]
 go_simp
 all_goals first|done|omega|(intro h_;omega)
theorem ra_cutl {o:Oper} {a:Act} {W:World} {x y:Operand} {a0:Addr} {n c:Nat} {lo:Int} (hop:o.op=.slice 67 x (some y) none none) (hx:a.eval x=.slice (some a0) n c) (hy:a.eval y=.int .i64 lo) (h0:0≤lo) (h1:lo≤(n:Int)) (h3:lo < (c:Int)) :
  (execOp a.eval o).run Try.prog W=.ok (.value (.slice (some (a0.add lo.toNat)) (n - lo.toNat) (c - lo.toNat))) W:=by
 have hu:=Try.underlying67
 have hne2:¬ (c=lo.toNat):=by omega
 generalize a.eval=ev at hx hy ⊢
 simp only [execOp,hop,hx,hy,Option.map_some,Option.map_none]
 go_simp
 all_goals first|done|omega|(intro h_;omega)
theorem ra_idx {o:Oper} {a:Act} {W:World} {x y:Operand} {a0:Addr} {n c:Nat} {i:Int} (hop:o.op=.indexAddr 67 x y) (hx:a.eval x=.slice (some a0) n c) (hy:a.eval y=.int .i64 i) (h0:0≤i) (h1:i < (n:Int)) :
  (execOp a.eval o).run Try.prog W=.ok (.value (.pointer (some (a0.add i.toNat)))) W:=by
 have hu:=Try.underlying67
 simp only [execOp,hop,hx,hy]
 go_simp
 all_goals first|done|omega|(intro h_;omega)
theorem ra_ld5 {o:Oper} {a:Act} {W:World} {x:Operand} {a0:Addr} {n i:Nat} {l:List Int} (hop:o.op=.load 5 x) (hx:a.eval x=.pointer (some (a0.add i))) (hC:(Kd.int .u8).C W (some a0) n l) (hi:i < n) :
  (execOp a.eval o).run Try.prog W=.ok (.value (.int .u8 (pB l i))) W:=by
 obtain ⟨ad,had,hc⟩:=Kd.at_int hC (i:Int) (by omega) (by omega)
 cases had
 rw [Int.toNat_natCast] at hc
 have e:rd l (i:Int)=pB l i:=by unfold rd pB;rw [Int.toNat_natCast]
 rw [e] at hc
 simp only [execOp,hop,hx]
 go_simp
 done
theorem ra_num {w W:World} {A:Option Addr} {c cc:Nat} {b:List Int} {A':Option Addr} (o n:Nat) (hB:Below w.heap.size w W) (hC:(Kd.int .u8).C w A b.length b) (hl:b.length=256) (hc:256≤c) (ho:okY b) (hon:o + n≤256) (hn:0 < n) (hA:A'=A.map (fun z=>z.add o)) (hcc:n≤cc) :
  Calls Try.prog 79 #[.slice A' n cc] W fun e w'=>e=.returned (.int .i64 (pNum ((b.drop o).take n)))∧Below W.heap.size W w':=by
 subst hA
 have e:((b.drop o).take n).length=n:=by rw [List.length_take,List.length_drop,hl];omega
 have h:=Kd.C_below (pa_C8 (o:=o) (n:=n) hC (c:=c) (by omega) (by omega) (by omega)) hB
 have:=pa_number (A.map (fun z=>z.add o)) cc ((b.drop o).take n) W (fun x hx=>ho x (List.mem_of_mem_drop (List.mem_of_mem_take hx))) (by omega) (by rw [e];exact h) (by omega)
 rw [e] at this
 exact this
theorem ra_q8 {q n:Nat} (h:q < n) (hn:(n:Int)≤64):wrap64 ((q:Int) / 8)=(q:Int) / 8∧wrap64 (24 + (q:Int) / 8)=24 + (q:Int) / 8∧0≤24 + (q:Int) / 8∧24 + (q:Int) / 8 < 256:=by
 unfold wrap64
 omega
theorem ra_q8n {q n:Nat} (h:q < n) (hn:(n:Int)≤64):(24 + (q:Int) / 8).toNat < 256:=by omega
theorem ra_bit {b:List Int} {q:Nat} (hl:b.length=256) (ho:okY b) (hq:q < 64):(Int.tmod (pB b (24 + (q:Int) / 8).toNat / 2 ^ min (IntKind.u64.wrap ((q:Int) % 8)).toNat 8) 2 == 1)=pBit b q:=by
 have e1:(24 + (q:Int) / 8).toNat=24 + q / 8:=by omega
 have e2:min (IntKind.u64.wrap ((q:Int) % 8)).toNat 8=q % 8:=by
  have:IntKind.u64.wrap ((q:Int) % 8)=((q:Int) % 8) % 18446744073709551616:=rfl
  rw [this]
  omega
 obtain ⟨h0,h1⟩:=ho _ (pB_mem (o:=24 + q / 8) (by omega))
 obtain ⟨d0,d1⟩:=pa_div (q % 8) h0 h1
 rw [e1,e2]
 unfold pBit
 rw [Int.tmod_eq_emod_of_nonneg d0]
 by_cases h:pB b (24 + q / 8) / 2 ^ (q % 8) % 2=1
 ·rw [h];simp [h]
 ·rw [beq_eq_false_iff_ne.mpr h,decide_eq_false h]
theorem ra_q3 {q n:Nat} (h:q < n) (hn:(n:Int)≤64):wrap64 (3 * (q:Int))=3 * (q:Int)∧wrap64 (32 + 3 * (q:Int))=32 + 3 * (q:Int)∧wrap64 (35 + 3 * (q:Int))=35 + 3 * (q:Int)∧0≤32 + 3 * (q:Int)∧32 + 3 * (q:Int)≤35 + 3 * (q:Int):=by
 unfold wrap64
 omega
theorem ra_t3 {q:Nat}:(32 + 3 * (q:Int)).toNat=32 + 3 * q∧(35 + 3 * (q:Int)).toNat - (32 + 3 * q)=3:=by omega
theorem ra_b3 {q n c:Nat} (h:q < n) (hn:(n:Int)≤64) (hc:256≤c):32 + 3 * q + 3≤256∧3≤c - (32 + 3 * q)∧35 + 3 * (q:Int)≤(c:Int)∧32 + 3 * (q:Int) < (c:Int):=by omega
theorem ra_64 {q n:Nat} (h:q < n) (hn:(n:Int)≤64):q < 64:=by omega
theorem ra_qn {q n:Nat} (h:q≤n) (h2:¬ q < n):q=n:=by omega
theorem ra_pc1 {b:List Int} {q:Nat} (h1:pB b 0=1) (h2:pB b 2=(q:Int)) (hn:(q:Int)≤64):pc b=⟨1,pGen b,pB b 1,pSeq b,pBad b q,pWear b q,[]⟩:=by
 have e:pN b=q:=by unfold pN;rw [h2];exact Int.toNat_natCast q
 unfold pc
 rw [if_pos ⟨h1,by omega⟩,e]
theorem ra_pc2 {b:List Int} {q:Nat} (h1:pB b 0=2) (h2:pB b 2=(q:Int)) (hn:(q:Int)≤24):pc b=⟨2,pGen b,pB b 1,0,[],[],pRecs b q⟩:=by
 have e:pN b=q:=by unfold pN;rw [h2];exact Int.toNat_natCast q
 unfold pc
 rw [if_neg (by omega),if_pos ⟨h1,by omega⟩,e]
theorem pB_drop {b:List Int} {o i:Nat}:pB (b.drop o) i=pB b (o + i):=by
 unfold pB
 rw [List.getD_eq_getElem?_getD,List.getD_eq_getElem?_getD,List.getElem?_drop]
theorem ra_w {b:List Int} {o i:Nat} (hl:b.length=256) (ho:okY b) (h:o + i < 256):wrap64 (pB (b.drop o) i)=pB b (o + i):=by
 rw [pB_drop]
 obtain ⟨h0,h1⟩:=ho _ (pB_mem (o:=o + i) (by omega))
 unfold wrap64
 omega
theorem ra_q10 {q n c:Nat} (h:q < n) (hn:(n:Int)≤24) (hc:256≤c):wrap64 (10 * (q:Int))=10 * (q:Int)∧wrap64 (16 + 10 * (q:Int))=16 + 10 * (q:Int)∧16 + 10 * q + 10≤256∧16 + 10 * q < c∧(1:Int) < ((240 - 10 * q:Nat):Int)∧(0:Int) < ((240 - 10 * q:Nat):Int)∧(10:Int)≤((c - (16 + 10 * q):Nat):Int)∧(2:Int) < ((c - (16 + 10 * q):Nat):Int):=by
 unfold wrap64
 omega
theorem ra_b10 {q n c:Nat} (h:q < n) (hn:(n:Int)≤24) (hc:256≤c):16 + 10 * q + 2 + 8≤256∧8≤c - (16 + 10 * q) - 2∧1 < 240 - 10 * q∧0 < 240 - 10 * q∧16 + 10 * q < 256∧16 + 10 * q + 1 < 256:=by omega
theorem ra_cutq {o:Oper} {a:Act} {W:World} {x y:Operand} {a0 ar:Addr} {c q:Nat} (hop:o.op=.slice 67 x (some y) none none) (hx:a.eval x=.slice (some a0) 256 c) (hy:a.eval y=.int .i64 (16 + 10 * (q:Int))) (hq:16 + 10 * q + 10≤256) (hc:16 + 10 * q < c) (har:ar=a0.add (16 + 10 * q)) :
  (execOp a.eval o).run Try.prog W=.ok (.value (.slice (some ar) (240 - 10 * q) (c - (16 + 10 * q)))) W:=by
 have:=ra_cutl (W:=W) hop hx hy (by omega) (by omega) (by omega)
 have e:(16 + 10 * (q:Int)).toNat=16 + 10 * q:=by omega
 rw [e,← har] at this
 rw [this,show 256 - (16 + 10 * q)=240 - 10 * q from by omega]
theorem ra_arC {w W:World} {a0 ar:Addr} {c q:Nat} {b:List Int} (hC:(Kd.int .u8).C w (some a0) b.length b) (hB:Below w.heap.size w W) (hl:b.length=256) (hc:256≤c) (har:ar=a0.add (16 + 10 * q)) (hq:16 + 10 * q < 256):(Kd.int .u8).C W (some ar) (240 - 10 * q) (b.drop (16 + 10 * q)):=by
 have h:=Kd.C_drop (c:=c) hC (m:=16 + 10 * q) (by omega) (by omega)
 rw [if_neg (by omega)] at h
 have e:(16 + 10 * q) * (Kd.int .u8).sz=16 + 10 * q:=by show (16 + 10 * q) * 1=16 + 10 * q;omega
 rw [e,List.length_drop,hl,show 256 - (16 + 10 * q)=240 - 10 * q from by omega] at h
 rw [har]
 exact Kd.C_below h hB
theorem ra_add2 {a0 ar:Addr} {o s:Nat} (har:ar=a0.add o):some (ar.add s)=(some a0).map (fun z=>z.add (o + s)):=by
 subst har
 by_cases h1:o=0 <;> by_cases h2:s=0 <;> simp [Addr.add,h1,h2,Nat.add_assoc]
theorem ra_300' {q n:Nat} (h:q < n) (hn:(n:Int)≤24):q≤300:=by omega
theorem ra_300 {q n:Nat} (h:q < n) (hn:(n:Int)≤64):q≤300:=by omega
section
variable {P : Program} {ops : Array Oper} {Q : Exit → Act → World → Prop} {md : Region.Mode} {S : World → Prop} {ds : List Nat} {fuel : Nat} {l : Array Bool} {a : Act} {w : World}
theorem zbothp (i j p:Nat) (ni nj np:Tmp) (x:Value) {oi oj op:Oper} (Pi Pj:Value → World → Prop) (hw:S w)
  (hSi:∀ a' W (K:Act → World → Prop),S W → (a'=a∨∃ u,a'=a.put (some nj) u) → (∀ v W',S W' → Pi v W' → (∀ u,Pj u W → Pj u W') → K (a'.put (some ni) v) W') → if Region.wanted oi (yielded ops a'.tmps)=true then Oper.wp P oi a' W K Q else K (a'.put (some ni) undef) W)
  (hSj:∀ a' W (K:Act → World → Prop),S W → (a'=a∨∃ u,a'=(a.put (some ni) u).put (some np) x) → (∀ v W',S W' → Pj v W' → (∀ u,Pi u W → Pi u W') → K (a'.put (some nj) v) W') → if Region.wanted oj (yielded ops a'.tmps)=true then Oper.wp P oj a' W K Q else K (a'.put (some nj) undef) W)
  (hp:∀ a' v W,Pi v W → (a'=a.put (some ni) v∨∃ u,a'=(a.put (some nj) u).put (some ni) v) → Region.wanted op (yielded ops a'.tmps)=true∧∀ w',(execOp a'.eval op).run P w'=.ok (.value x) w')
  (h:∀ v u W',S W' → Pi v W' → Pj u W' → wpAnyLast P md ops Q S ds fuel (((l.setIfInBounds i true).setIfInBounds p true).setIfInBounds j true) (((a.put (some ni) v).put (some np) x).put (some nj) u) W')
  (hQ:∀ c a w,Q (.panic c) (a.put (some np) x) w → Q (.panic c) a w)
  (hi:ops[i]?=some oi:=by simp only [List.getElem?_toArray,List.getElem?_cons_succ,List.getElem?_cons_zero];rfl) (hj:ops[j]?=some oj:=by simp only [List.getElem?_toArray,List.getElem?_cons_succ,List.getElem?_cons_zero];rfl) (hpp:ops[p]?=some op:=by simp only [List.getElem?_toArray,List.getElem?_cons_succ,List.getElem?_cons_zero];rfl)
  (hNi:oi.dst=some ni:=by rfl) (hNj:oj.dst=some nj:=by rfl) (hNp:op.dst=some np:=by rfl) (hne:ni≠nj:=by decide) (hne2:np≠nj:=by decide) (hij:i≠j:=by decide) (hpj:p≠j:=by decide) (hip:i≠p:=by decide) (hdi:i ∉ ds:=by decide) (hdj:j ∉ ds:=by decide)
  (hc:(Region.ready md ops l == [i,j])=true:=by kernel_rfl)
  (hc1:anyB md ops (l.setIfInBounds i true) ((l.setIfInBounds i true).setIfInBounds p true) p=true:=by kernel_rfl) (hc2:(Region.ready md ops ((l.setIfInBounds i true).setIfInBounds p true) == [j])=true:=by kernel_rfl)
  (hc3:(Region.ready md ops (l.setIfInBounds j true) == [i])=true:=by kernel_rfl) (hc4:anyB md ops ((l.setIfInBounds j true).setIfInBounds i true) (((l.setIfInBounds j true).setIfInBounds i true).setIfInBounds p true) p=true:=by kernel_rfl) :
  wpAnyLast P md ops Q S ds (fuel + 1 + 1 + 1) l a w:=by
 refine two_ (l.setIfInBounds i true) (l.setIfInBounds j true) hi hj hNi hNj (by rw [hc];simp) hdi hdj (fun K hK=>?_) (fun K hK=>?_)
 ·refine hSi a w K hw (.inl rfl) (fun v W' hS' hv hq=>?_)
  refine hK.out _ _ hS' (fun _=>?_)
  obtain ⟨hw1,hr1⟩:=hp _ v W' hv (.inl rfl)
  refine pure_ _ hpp hNp hc1 (by rw [hNp];exact hQ) (.inl ⟨hw1,hr1⟩) rfl ?_
  refine one_ (((l.setIfInBounds i true).setIfInBounds p true).setIfInBounds j true) hj hNj (by unfold readyB;rw [hc2];simp) hdj (fun K2 hK2=>?_)
  refine hSj _ W' K2 hS' (.inr ⟨v,rfl⟩) (fun u W2 hS2 hu hp2=>?_)
  exact hK2.out _ _ hS2 (fun _=>h v u W2 hS2 (hp2 v hv) hu)
 ·refine hSj a w K hw (.inl rfl) (fun u W' hS' hu hq=>?_)
  refine hK.out _ _ hS' (fun _=>?_)
  refine one_ ((l.setIfInBounds j true).setIfInBounds i true) hi hNi (by unfold readyB;rw [hc3];simp) hdi (fun K2 hK2=>?_)
  refine hSi _ W' K2 hS' (.inr ⟨u,rfl⟩) (fun v W2 hS2 hv hp2=>?_)
  refine hK2.out _ _ hS2 (fun _=>?_)
  obtain ⟨hw1,hr1⟩:=hp _ v W2 hv (.inr ⟨u,rfl⟩)
  refine pure_ _ hpp hNp hc4 (by rw [hNp];exact hQ) (.inl ⟨hw1,hr1⟩) rfl ?_
  rw [put_comm hne,put_comm hne2,Array.setIfInBounds_comm _ _ (fun e=>hij e.symm),Array.setIfInBounds_comm _ _ (fun e=>hpj e.symm)]
  exact h v u W2 hS2 hv (hp2 u hu)
end
def slipwayref06_Parse.f (k:Nat) (b:List Int):Option (Int × Int × Int × Int × List Bool × List Int × List S55 × Int) :=
 if b.length=256 then if okY b then
  (slipwayref06_Bytes.f k (pc b).k (pc b).gen (pc b).part (pc b).seq (pc b).bad (pc b).wear (pc b).recs).bind fun r =>
   if r.2=0∧((strOfNums r.1).toList == (strOfNums b).toList)=true then some ((pc b).k,(pc b).gen,(pc b).part,(pc b).seq,(pc b).bad,(pc b).wear,(pc b).recs,0) else some (0,0,0,0,[],[],[],62)
 else none else some (0,0,0,0,[],[],[],62)
set_option maxHeartbeats 4000000 in
set_option maxRecDepth 100000 in
theorem slipwayref06_Parse.calls (k:Nat) (A:Option Addr) (c:Nat) (b:List Int) (r1 r2 r3 r4:Int) (r5:List Bool) (r6:List Int) (r7:List S55) (r8:Int) (w:World) (hC:Kd.C (Kd.int .u8) w A b.length b) (hc:b.length≤c) (h:slipwayref06_Parse.f k b=some (r1,r2,r3,r4,r5,r6,r7,r8)) :
  Calls Try.prog 47 #[.slice A b.length c] w fun e w'=>∃ v4_ v5_ v6_:Value,e=.returned (.tuple #[.agg #[.int .i64 r1,.int .i64 r2,.int .i64 r3,.int .i64 r4,v4_,v5_,v6_],.int .i64 r8])∧Kd.R Kd.bool 4 w' w.heap.size (fun _=>True) v4_ r5∧Kd.R (Kd.int .i64) 2 w' w.heap.size (fun _=>True) v5_ r6∧Kd.R k55 55 w' w.heap.size (fun _=>True) v6_ r7∧Below w.heap.size w w':=by
 have hu42:=Try.underlying42
 have H:slipwayref06_Parse.f k b=some (r1,r2,r3,r4,r5,r6,r7,r8):=h
 clear h
 have hh_:=zm hC;clear hC;have hC:=hh_;clear hh_;have hh_:=zm hc;clear hc;have hc:=hh_;clear hh_
 unfold slipwayref06_Parse.f at H
 by_cases hl:b.length=256
 rotate_left
 ·rw [if_neg hl] at H
  simp only [Option.some.injEq,Prod.mk.injEq] at H
  obtain ⟨rfl,rfl,rfl,rfl,rfl,rfl,rfl,rfl⟩:=H
  have hd:((b.length:Int) != 256)=true:=bne_iff_ne.mpr (by omega)
  have hh_:=zm hl;clear hl;have hl:=hh_;clear hh_
  go_enter Try.func47,Try.ntmps47
  go_wp2_with (first|((with_reducible refine gate_dst (N:=2) rfl ?_);refine box_event rfl (N:=2) rfl (cs:=zero7) (t:=42) (by first|(go_simp;done)|(go_simp;rfl)) ?_;rintro g2 hg w1 h2 hb;have hg2:=Nat.le_of_eq hg.symm;clear hg;have hh_:=zm hg2;clear hg2;have hg2:=hh_;clear hh_;have hh_:=zm h2;clear h2;have h2:=hh_;clear hh_;have hh_:=zm hb;clear hb;have hb:=hh_;clear hh_)|((with_reducible refine gate_store (t:=42) (p:=2) rfl ?_);refine Cw.put_event rfl rfl rfl (mb_st42 rfl rfl rfl (zbB (Aside0.out (by assumption)) (by repeat (first|exact Below.refl _ _|with_reducible apply zlN|with_reducible apply zlA|refine below_step ?_ (Aside0.out (by assumption)))))) ?_;rintro w9 hw9))
  have hk2:=Cw.setL_full [.int .i64 0,.int .i64 0,.int .i64 0,.int .i64 0,.slice none 0 0,.slice none 0 0,.slice none 0 0] h2.out rfl
  rw [← hw9] at hk2
  have hb9:Below w.heap.size w w9:=by rw [hw9];exact Cw.setL_below hg2.out _ 0 _ (by repeat (first|exact Below.refl _ _|with_reducible apply zlN|with_reducible apply zlA|refine below_step ?_ (Aside0.out (by assumption))))
  clear hw9
  refine bodyPost_ret (results_ct rfl _ _ g2 42 _ (0,0) _ rfl hk2 Try.underlying42 rfl (by kernel_rfl)) rfl ?_
  exact ⟨_,_,_,rfl,Kd.R_nil _ _ _ _ _,Kd.R_nil _ _ _ _ _,Kd.R_nil _ _ _ _ _,hb9⟩
 rw [if_pos hl] at H
 have hg_:=Cw.gt_ H;clear H;obtain ⟨ho,H⟩:=hg_
 have hh_:=zm H;clear H;have H:=hh_;clear hh_
 obtain ⟨a0,rfl⟩:=pa_some hC.out (by omega)
 go_enter Try.func47,Try.ntmps47
 rw [hl]
 go_wp2_with (first|((with_reducible refine gate_dst (N:=2) rfl ?_);refine box_event rfl (N:=2) rfl (cs:=zero7) (t:=42) (by first|(go_simp;done)|(go_simp;rfl)) ?_;rintro g2 hg w1 h2 hb;have hg2:=Nat.le_of_eq hg.symm;clear hg;have hh_:=zm hg2;clear hg2;have hg2:=hh_;clear hh_;have hh_:=zm h2;clear h2;have h2:=hh_;clear hh_;have hh_:=zm hb;clear hb;have hb:=hh_;clear hh_))
 have hcc:256≤c:=by have:=hc.out;omega
 have hC2:(Kd.int .u8).C w (some a0) 256 b:=by have:=hC.out;rw [hl] at this;exact this
 have hh_:=zm hcc;clear hcc;have hcc:=hh_;clear hh_;have hh_:=zm hl;clear hl;have hl:=hh_;clear hh_;have hh_:=zm ho;clear ho;have ho:=hh_;clear hh_;have hh_:=zm hC2;clear hC2;have hC2:=hh_;clear hh_
 refine mb_startS (fun w'=>Below w1.heap.size w1 w') [13] (by as_aux_lemma=>kernel_rfl) rfl (fun wd h_=>h_) (fun wd h_=>?_)
 have hS:(fun w'=>Below w1.heap.size w1 w') wd:=h_
 clear h_
 refine Cw.dpu (i:=0) (v:=?_) (a':=?_) (by simp only [List.getElem?_toArray,List.getElem?_cons_succ,List.getElem?_cons_zero];rfl) rfl (by as_aux_lemma=>kernel_rfl) (by rfl) (by exact fun _ _ _ h=>h) ?_ ?_ ?_
 rotate_left
 ·intro w'
  go_simp
  with_reducible rfl
 rotate_left
 ·simp only [Act.put,List.setIfInBounds_toArray,List.set_cons_zero,List.set_cons_succ,i64_w,i32_w]
  rfl
 refine Cw.dpu (i:=1) (v:=?_) (a':=?_) (by simp only [List.getElem?_toArray,List.getElem?_cons_succ,List.getElem?_cons_zero];rfl) rfl (by as_aux_lemma=>kernel_rfl) (by rfl) (by exact fun _ _ _ h=>h) ?_ ?_ ?_
 rotate_left
 ·intro w'
  apply Eq.trans
  ·apply ra_idx
   ·rfl
   ·rfl
   ·rfl
   ·decide
   ·decide
  ·rfl
 rotate_left
 ·simp only [Act.put,List.setIfInBounds_toArray,List.set_cons_zero,List.set_cons_succ,i64_w,i32_w]
  rfl
 refine Cw.dtkD (i:=2) (v:=?_) (a':=?_) (by simp only [List.getElem?_toArray,List.getElem?_cons_succ,List.getElem?_cons_zero];rfl) rfl (by as_aux_lemma=>kernel_rfl) (by rfl) (by exact fun _ _ _ h=>h) ?_ hS ?_ ?_
 rotate_left
 ·intro w' hs_
  apply Eq.trans
  ·apply ra_ld5
   ·rfl
   ·rfl
   ·exact (Kd.C_below hC2.out (below_step (by repeat (first|exact Below.refl _ _|with_reducible apply zlN|with_reducible apply zlA|refine below_step ?_ (Aside0.out (by assumption)))) hs_))
   ·decide
  ·rfl
 rotate_left
 ·simp only [Act.put,List.setIfInBounds_toArray,List.set_cons_zero,List.set_cons_succ,i64_w,i32_w]
  rfl
 refine Cw.dpu (i:=3) (v:=?_) (a':=?_) (by simp only [List.getElem?_toArray,List.getElem?_cons_succ,List.getElem?_cons_zero];rfl) rfl (by as_aux_lemma=>kernel_rfl) (by rfl) (by exact fun _ _ _ h=>h) ?_ ?_ ?_
 rotate_left
 ·intro w'
  go_simp
  with_reducible rfl
 rotate_left
 ·simp only [Act.put,List.setIfInBounds_toArray,List.set_cons_zero,List.set_cons_succ,i64_w,i32_w]
  rfl
 refine Cw.dpu (i:=4) (v:=?_) (a':=?_) (by simp only [List.getElem?_toArray,List.getElem?_cons_succ,List.getElem?_cons_zero];rfl) rfl (by as_aux_lemma=>kernel_rfl) (by rfl) (by exact fun _ _ _ h=>h) ?_ ?_ ?_
 rotate_left
 ·intro w'
  go_simp
  with_reducible rfl
 rotate_left
 ·simp only [Act.put,List.setIfInBounds_toArray,List.set_cons_zero,List.set_cons_succ,i64_w,i32_w]
  rfl
 refine Cw.dpu (i:=5) (v:=?_) (a':=?_) (by simp only [List.getElem?_toArray,List.getElem?_cons_succ,List.getElem?_cons_zero];rfl) rfl (by as_aux_lemma=>kernel_rfl) (by rfl) (by exact fun _ _ _ h=>h) ?_ ?_ ?_
 rotate_left
 ·intro w'
  apply Eq.trans
  ·apply ra_idx
   ·rfl
   ·rfl
   ·rfl
   ·decide
   ·decide
  ·rfl
 rotate_left
 ·simp only [Act.put,List.setIfInBounds_toArray,List.set_cons_zero,List.set_cons_succ,i64_w,i32_w]
  rfl
 refine Cw.dtkD (i:=6) (v:=?_) (a':=?_) (by simp only [List.getElem?_toArray,List.getElem?_cons_succ,List.getElem?_cons_zero];rfl) rfl (by as_aux_lemma=>kernel_rfl) (by rfl) (by exact fun _ _ _ h=>h) ?_ hS ?_ ?_
 rotate_left
 ·intro w' hs_
  apply Eq.trans
  ·apply ra_ld5
   ·rfl
   ·rfl
   ·exact (Kd.C_below hC2.out (below_step (by repeat (first|exact Below.refl _ _|with_reducible apply zlN|with_reducible apply zlA|refine below_step ?_ (Aside0.out (by assumption)))) hs_))
   ·decide
  ·rfl
 rotate_left
 ·simp only [Act.put,List.setIfInBounds_toArray,List.set_cons_zero,List.set_cons_succ,i64_w,i32_w]
  rfl
 refine Cw.dpu (i:=7) (v:=?_) (a':=?_) (by simp only [List.getElem?_toArray,List.getElem?_cons_succ,List.getElem?_cons_zero];rfl) rfl (by as_aux_lemma=>kernel_rfl) (by rfl) (by exact fun _ _ _ h=>h) ?_ ?_ ?_
 rotate_left
 ·intro w'
  go_simp
  with_reducible rfl
 rotate_left
 ·simp only [Act.put,List.setIfInBounds_toArray,List.set_cons_zero,List.set_cons_succ,i64_w,i32_w]
  rfl
 refine Cw.dpu (i:=8) (v:=?_) (a':=?_) (by simp only [List.getElem?_toArray,List.getElem?_cons_succ,List.getElem?_cons_zero];rfl) rfl (by as_aux_lemma=>kernel_rfl) (by rfl) (by exact fun _ _ _ h=>h) ?_ ?_ ?_
 rotate_left
 ·intro w'
  go_simp
  with_reducible rfl
 rotate_left
 ·simp only [Act.put,List.setIfInBounds_toArray,List.set_cons_zero,List.set_cons_succ,i64_w,i32_w]
  rfl
 refine Cw.dpu (i:=9) (v:=?_) (a':=?_) (by simp only [List.getElem?_toArray,List.getElem?_cons_succ,List.getElem?_cons_zero];rfl) rfl (by as_aux_lemma=>kernel_rfl) (by rfl) (by exact fun _ _ _ h=>h) ?_ ?_ ?_
 rotate_left
 ·intro w'
  apply Eq.trans
  ·apply ra_cut
   ·rfl
   ·rfl
   ·rfl
   ·rfl
   ·decide
   ·decide
   ·have:=hcc.out;omega
   ·have:=hcc.out;omega
  ·rfl
 rotate_left
 ·simp only [Act.put,List.setIfInBounds_toArray,List.set_cons_zero,List.set_cons_succ,i64_w,i32_w]
  rfl
 obtain ⟨h00,h01⟩:=ho.out _ (pB_mem (o:=0) (by rw [hl.out];decide))
 obtain ⟨h10,h11⟩:=ho.out _ (pB_mem (o:=1) (by rw [hl.out];decide))
 obtain ⟨hn0,hn1⟩:=ho.out _ (pB_mem (o:=2) (by rw [hl.out];decide))
 rw [show wrap64 (pB b 0)=pB b 0 from by unfold wrap64;omega,show wrap64 (pB b 1)=pB b 1 from by unfold wrap64;omega]
 refine zbothp 10 12 11 25 4 26 (.agg #[.int .i64 (pB b 0),.int .i64 (pGen b),.int .i64 (pB b 1),.int .i64 0,.slice none 0 0,.slice none 0 0,.slice none 0 0]) (fun u W=>u=.int .i64 (pGen b)) (fun v W=>∃ g,v=.pointer (some ⟨g,0,none⟩)∧W.heap[g]?=some (.cells zero7 42 (0,0))∧w1.heap.size≤g) hS ?_ ?_ ?_ ?_ (by exact fun _ _ _ h=>h)
 ·intro a' W K hSw ha hk
  rcases ha with rfl|⟨u,rfl⟩
  all_goals
   refine goes_ Try.func79 (by as_aux_lemma=>kernel_rfl) rfl _ (by rfl) rfl rfl (by go_simp;rfl) ?_
   refine (ra_num (w:=w) 8 8 (below_step (by repeat (first|exact Below.refl _ _|with_reducible apply zlN|with_reducible apply zlA|refine below_step ?_ (Aside0.out (by assumption)))) hSw) hC.out hl.out hcc.out ho.out (by decide) (by decide) (by rfl) (by have:=hcc.out;omega)).mono ?_
   rintro e w' ⟨rfl,hb⟩
   exact ⟨_,rfl,hk _ w' (below_step hSw hb) rfl (fun u hu=>by obtain ⟨g,rfl,h1,h2⟩:=hu;exact ⟨g,rfl,zbB h1 hb,h2⟩)⟩
 ·intro a' W K hSw ha hk
  rcases ha with rfl|⟨u,rfl⟩
  all_goals
   refine Cw.dnew (fun g=>.pointer (some ⟨g,0,none⟩)) (cs:=zero7) (t:=42) (by rfl) rfl (by first|(go_simp;done)|(go_simp;rfl)) ?_
   rintro g hg wv hbk hb
   exact hk _ wv (below_step hSw hb) ⟨g,rfl,hbk,by rw [hg];exact below_size hSw⟩ (fun u hu=>hu)
 ·intro a' v W hv ha
  subst hv
  rcases ha with rfl|⟨u,rfl⟩
  all_goals
   refine ⟨by rfl,?_⟩
   intro w'
   first|(go_simp;done)|(go_simp;rfl)
 rintro v u W hSw rfl ⟨g5,rfl,h5,hg5⟩
 refine norm_ (a':=?_) ?_ ?_
 rotate_left
 ·simp only [Act.put,List.setIfInBounds_toArray,List.set_cons_zero,List.set_cons_succ,i64_w,i32_w]
  rfl
 refine Cw.lastD (i:=13) (N:=none) (by simp only [List.getElem?_toArray,List.getElem?_cons_succ,List.getElem?_cons_zero];rfl) rfl (by as_aux_lemma=>kernel_rfl) (by decide) (fun K hK=>?_)
 refine pa_skip (by rfl) rfl (mb_st42 rfl rfl rfl h5) ?_
 intro w5 hw5
 have hg2n:g2≠g5:=Nat.ne_of_lt (Nat.lt_of_lt_of_le (blk_lt h2.out) hg5)
 have hP:PSt w w5 g2 g5 #[.int .i64 (pB b 0),.int .i64 (pGen b),.int .i64 (pB b 1),.int .i64 0,.slice none 0 0,.slice none 0 0,.slice none 0 0] (.slice none 0 0) [] (.slice none 0 0) [] (.slice none 0 0) []:=by
  rw [hw5]
  have hBW:Below w.heap.size w W:=below_step (by repeat (first|exact Below.refl _ _|with_reducible apply zlN|with_reducible apply zlA|refine below_step ?_ (Aside0.out (by assumption)))) hSw
  have hg5w:w.heap.size≤g5:=Nat.le_trans (below_size (by repeat (first|exact Below.refl _ _|with_reducible apply zlN|with_reducible apply zlA|refine below_step ?_ (Aside0.out (by assumption))))) hg5
  exact ⟨Cw.setL_below hg5w _ 0 _ hBW,(Cw.setL_far hg2n _ 0 _).trans (zbB h2.out hSw),Cw.setL_full _ h5 rfl,hg2.out,hg5w,hg2n,Kd.R_nil _ _ _ _ _,Kd.R_nil _ _ _ _ _,Kd.R_nil _ _ _ _ _⟩
 clear hw5 h5 hSw hS h2 hb
 refine hK.out _ _ ?_
 clear hK K
 refine done_ (by as_aux_lemma=>kernel_rfl) ?_
 have hh_:=zm hP;clear hP;have hP:=hh_;clear hh_
 have hw2:wrap64 (pB b 2)=pB b 2:=by unfold wrap64;omega
 have hcz:(256:Int)≤(c:Int):=by have:=hcc.out;omega
 by_cases hk1:pB b 0=1
 ·have hk1b:(pB b 0 == 1)=true:=beq_iff_eq.mpr hk1
  have hk2b:(pB b 0 == 2)=false:=beq_eq_false_iff_ne.mpr (by omega)
  by_cases hn:pB b 2≤64
  ·have hnb:decide (pB b 2≤64)=true:=decide_eq_true hn
   rw [hk1] at hP
   obtain ⟨n,hn'⟩:∃ n:Nat,pB b 2=n:=⟨(pB b 2).toNat,by omega⟩
   go_wp2_with (first|((with_reducible refine gate_dst (N:=28) rfl ?_);refine Kd.event_run rfl (ra_idx rfl rfl rfl (by decide) (by decide)) ?_)|((with_reducible refine gate_dst (N:=29) rfl ?_);refine Kd.event_run rfl (ra_ld5 rfl rfl (Kd.C_below hC2.out hP.out.below) (by decide)) ?_)|((with_reducible refine gate_ (.load 3 _) rfl ?_);refine Kd.event_run rfl (mb_c3 rfl rfl hP.out.h5 rfl) ?_)|((with_reducible refine gate_dst (N:=39) rfl ?_);refine Kd.event_run rfl (ra_cut rfl rfl rfl rfl (by decide) (by decide) (by omega) (by omega)) ?_)|(go_at_call 79;refine (ra_num (w:=w) 16 8 hP.out.below hC.out hl.out hcc.out ho.out (by decide) (by decide) (by rfl) (by have:=hcc.out;omega)).mono ?_;rintro e w6 ⟨rfl,hb6⟩;have hP6:=hP.out.go hb6;clear hP hb6;have hP:=zm hP6;clear hP6)|((with_reducible refine gate_store (t:=2) (p:=41) rfl ?_);refine store_event (t:=2) (p:=41) rfl rfl rfl (pa_st2 rfl rfl rfl hP.out.h5 rfl) ?_;rintro w9 hw9;have hP9:=hP.out.cell' hw9;simp only [List.setIfInBounds_toArray,List.set_cons_zero,List.set_cons_succ] at hP9;clear hP hw9;have hP:=zm hP9;clear hP9))
   rw [hn'] at hn hnb
   go_loopw [6] (fun v wi=>∃ (q:Nat) (vB vW:Value),v=.int .i64 (q:Int)∧Aside0 (q≤n)∧Aside0 (PSt w wi g2 g5 #[.int .i64 1,.int .i64 (pGen b),.int .i64 (pB b 1),.int .i64 (pSeq b),vB,vW,.slice none 0 0] vB (pBad b q) vW (pWear b q) (.slice none 0 0) [])) (fun v _=>n - (intOf v).toNat)
   case atStart=>exact ⟨0,_,_,rfl,⟨Nat.zero_le _⟩,hP⟩
   case round =>
    clear hP
    obtain ⟨q,vB,vW,rfl,hq,hP⟩:=hrel
    by_cases hqn:q < n
    ·have hd:decide ((q:Int) < (n:Int))=true:=decide_eq_true (by omega)
     have hqw:=mb_w (ra_300 hqn hn)
     obtain ⟨AB,cB,rfl⟩:=Kd.R_slice hP.out.rB
     go_wp2_with fail
     obtain ⟨hq8,hq24,hm0,hm8⟩:=ra_q8 hqn hn
     refine mb_startS (fun w'=>Below w.heap.size w w'∧w'.heap[g5]?=some (.cells #[.int .i64 1,.int .i64 (pGen b),.int .i64 (pB b 1),.int .i64 (pSeq b),.slice AB (pBad b q).length cB,vW,.slice none 0 0] 42 (0,0))) [15,17] (by as_aux_lemma=>kernel_rfl) rfl (fun wd h_=>⟨below_step hP.out.below h_,zbB hP.out.h5 h_⟩) (fun wd h_=>?_)
     have hPd:=zm (hP.out.go h_)
     have hS:(fun w'=>Below w.heap.size w w'∧w'.heap[g5]?=some (.cells #[.int .i64 1,.int .i64 (pGen b),.int .i64 (pB b 1),.int .i64 (pSeq b),.slice AB (pBad b q).length cB,vW,.slice none 0 0] 42 (0,0))) wd:=⟨hPd.out.below,hPd.out.h5⟩
     clear h_
     refine Cw.dpu (i:=0) (v:=?_) (a':=?_) (by simp only [List.getElem?_toArray,List.getElem?_cons_succ,List.getElem?_cons_zero];rfl) rfl (by as_aux_lemma=>kernel_rfl) (by rfl) (by exact fun _ _ _ h=>h) ?_ ?_ ?_
     rotate_left
     ·intro w'
      go_simp
      with_reducible rfl
     rotate_left
     ·simp only [Act.put,List.setIfInBounds_toArray,List.set_cons_zero,List.set_cons_succ,i64_w,i32_w]
      rfl
     refine Cw.dtkD (i:=1) (v:=?_) (a':=?_) (by simp only [List.getElem?_toArray,List.getElem?_cons_succ,List.getElem?_cons_zero];rfl) rfl (by as_aux_lemma=>kernel_rfl) (by rfl) (by exact fun _ _ _ h=>h) ?_ hS ?_ ?_
     rotate_left
     ·intro w' hs_
      apply Eq.trans
      ·apply mb_c22
       ·rfl
       ·rfl
       ·exact hs_.2
       ·rfl
      ·rfl
     rotate_left
     ·simp only [Act.put,List.setIfInBounds_toArray,List.set_cons_zero,List.set_cons_succ,i64_w,i32_w]
      rfl
     refine Cw.dpu (i:=2) (v:=?_) (a':=?_) (by simp only [List.getElem?_toArray,List.getElem?_cons_succ,List.getElem?_cons_zero];rfl) rfl (by as_aux_lemma=>kernel_rfl) (by rfl) (by exact fun _ _ _ h=>h) ?_ ?_ ?_
     rotate_left
     ·intro w'
      go_simp
      with_reducible rfl
     rotate_left
     ·simp only [Act.put,List.setIfInBounds_toArray,List.set_cons_zero,List.set_cons_succ,i64_w,i32_w]
      rfl
     refine Cw.dpu (i:=3) (v:=?_) (a':=?_) (by simp only [List.getElem?_toArray,List.getElem?_cons_succ,List.getElem?_cons_zero];rfl) rfl (by as_aux_lemma=>kernel_rfl) (by rfl) (by exact fun _ _ _ h=>h) ?_ ?_ ?_
     rotate_left
     ·intro w'
      go_simp
      with_reducible rfl
     rotate_left
     ·simp only [Act.put,List.setIfInBounds_toArray,List.set_cons_zero,List.set_cons_succ,i64_w,i32_w]
      rfl
     refine Cw.dpu (i:=4) (v:=?_) (a':=?_) (by simp only [List.getElem?_toArray,List.getElem?_cons_succ,List.getElem?_cons_zero];rfl) rfl (by as_aux_lemma=>kernel_rfl) (by rfl) (by exact fun _ _ _ h=>h) ?_ ?_ ?_
     rotate_left
     ·intro w'
      go_simp
      with_reducible rfl
     rotate_left
     ·simp only [Act.put,List.setIfInBounds_toArray,List.set_cons_zero,List.set_cons_succ,i64_w,i32_w]
      rfl
     refine Cw.dpu (i:=5) (v:=?_) (a':=?_) (by simp only [List.getElem?_toArray,List.getElem?_cons_succ,List.getElem?_cons_zero];rfl) rfl (by as_aux_lemma=>kernel_rfl) (by rfl) (by exact fun _ _ _ h=>h) ?_ ?_ ?_
     rotate_left
     ·intro w'
      go_simp
      with_reducible rfl
     rotate_left
     ·simp only [Act.put,List.setIfInBounds_toArray,List.set_cons_zero,List.set_cons_succ,i64_w,i32_w]
      rfl
     rw [hq24]
     refine Cw.dpu (i:=6) (v:=?_) (a':=?_) (by simp only [List.getElem?_toArray,List.getElem?_cons_succ,List.getElem?_cons_zero];rfl) rfl (by as_aux_lemma=>kernel_rfl) (by rfl) (by exact fun _ _ _ h=>h) ?_ ?_ ?_
     rotate_left
     ·intro w'
      apply Eq.trans
      ·apply ra_idx
       ·rfl
       ·rfl
       ·rfl
       ·exact hm0
       ·exact hm8
      ·rfl
     rotate_left
     ·simp only [Act.put,List.setIfInBounds_toArray,List.set_cons_zero,List.set_cons_succ,i64_w,i32_w]
      rfl
     refine Cw.dtkD (i:=7) (v:=?_) (a':=?_) (by simp only [List.getElem?_toArray,List.getElem?_cons_succ,List.getElem?_cons_zero];rfl) rfl (by as_aux_lemma=>kernel_rfl) (by rfl) (by exact fun _ _ _ h=>h) ?_ hS ?_ ?_
     rotate_left
     ·intro w' hs_
      apply Eq.trans
      ·apply ra_ld5
       ·rfl
       ·rfl
       ·exact (Kd.C_below hC2.out hs_.1)
       ·exact ra_q8n hqn hn
      ·rfl
     rotate_left
     ·simp only [Act.put,List.setIfInBounds_toArray,List.set_cons_zero,List.set_cons_succ,i64_w,i32_w]
      rfl
     refine Cw.dpu (i:=8) (v:=?_) (a':=?_) (by simp only [List.getElem?_toArray,List.getElem?_cons_succ,List.getElem?_cons_zero];rfl) rfl (by as_aux_lemma=>kernel_rfl) (by rfl) (by exact fun _ _ _ h=>h) ?_ ?_ ?_
     rotate_left
     ·intro w'
      go_simp
      with_reducible rfl
     rotate_left
     ·simp only [Act.put,List.setIfInBounds_toArray,List.set_cons_zero,List.set_cons_succ,i64_w,i32_w]
      rfl
     refine Cw.dpu (i:=9) (v:=?_) (a':=?_) (by simp only [List.getElem?_toArray,List.getElem?_cons_succ,List.getElem?_cons_zero];rfl) rfl (by as_aux_lemma=>kernel_rfl) (by rfl) (by exact fun _ _ _ h=>h) ?_ ?_ ?_
     rotate_left
     ·intro w'
      go_simp
      rw [mb_m8]
     rotate_left
     ·simp only [Act.put,List.setIfInBounds_toArray,List.set_cons_zero,List.set_cons_succ,i64_w,i32_w]
      rfl
     refine Cw.dpu (i:=10) (v:=?_) (a':=?_) (by simp only [List.getElem?_toArray,List.getElem?_cons_succ,List.getElem?_cons_zero];rfl) rfl (by as_aux_lemma=>kernel_rfl) (by rfl) (by exact fun _ _ _ h=>h) ?_ ?_ ?_
     rotate_left
     ·intro w'
      go_simp
      with_reducible rfl
     rotate_left
     ·simp only [Act.put,List.setIfInBounds_toArray,List.set_cons_zero,List.set_cons_succ,i64_w,i32_w]
      rfl
     refine Cw.dpu (i:=11) (v:=?_) (a':=?_) (by simp only [List.getElem?_toArray,List.getElem?_cons_succ,List.getElem?_cons_zero];rfl) rfl (by as_aux_lemma=>kernel_rfl) (by rfl) (by exact fun _ _ _ h=>h) ?_ ?_ ?_
     rotate_left
     ·intro w'
      go_simp
      with_reducible rfl
     rotate_left
     ·simp only [Act.put,List.setIfInBounds_toArray,List.set_cons_zero,List.set_cons_succ,i64_w,i32_w]
      rfl
     refine Cw.dpu (i:=12) (v:=?_) (a':=?_) (by simp only [List.getElem?_toArray,List.getElem?_cons_succ,List.getElem?_cons_zero];rfl) rfl (by as_aux_lemma=>kernel_rfl) (by rfl) (by exact fun _ _ _ h=>h) ?_ ?_ ?_
     rotate_left
     ·intro w'
      go_simp
      with_reducible rfl
     rotate_left
     ·simp only [Act.put,List.setIfInBounds_toArray,List.set_cons_zero,List.set_cons_succ,i64_w,i32_w]
      rfl
     refine Cw.dpu (i:=13) (v:=?_) (a':=?_) (by simp only [List.getElem?_toArray,List.getElem?_cons_succ,List.getElem?_cons_zero];rfl) rfl (by as_aux_lemma=>kernel_rfl) (by rfl) (by exact fun _ _ _ h=>h) ?_ ?_ ?_
     rotate_left
     ·intro w'
      go_simp
      with_reducible rfl
     rotate_left
     ·simp only [Act.put,List.setIfInBounds_toArray,List.set_cons_zero,List.set_cons_succ,i64_w,i32_w]
      rfl
     rw [ra_bit hl.out ho.out (ra_64 hqn hn)]
     refine Cw.done1D (i:=14) (N:=some 61) (by simp only [List.getElem?_toArray,List.getElem?_cons_succ,List.getElem?_cons_zero];rfl) rfl (by as_aux_lemma=>kernel_rfl) (by decide) (fun K hK=>?_)
     refine Kd.R_lit_step Kd.bool (w0:=w) w.heap.size 4 (by rfl) (N:=61) rfl (xs:=[pBit b q]) (inner:=[.bool (pBit b q)]) (ok:=fun _=>True) (okp:=fun _=>True) ?hr (Kd.reps_scalar _) (fun _ h=>h) trivial hPd.out.below (below_size hPd.out.below) (by simp) ?_
     case hr=>first|(go_simp;done)|(go_simp;rfl)
     intro vx wx hox hbx hgx _
     have hPx:=hPd.out.go (below_grown0 hgx)
     try (replace hrd:=hrd.out.go (below_grown0 hgx))
     obtain ⟨Ax,cx,rfl⟩:=Kd.R_slice hox
     have hCx:=(Kd.R_reads' hox).2.2
     clear hPd hox hgx hbx
     refine hK.out _ _ ⟨hPx.below,hPx.h5⟩ (fun _=>?_)
     clear hK K
     refine norm_ (a':=?_) ?_ ?_
     rotate_left
     ·show Act.put _ (some 61) _=_
      simp only [Act.put,List.setIfInBounds_toArray,List.set_cons_zero,List.set_cons_succ,i64_w,i32_w]
      rfl
     refine Cw.lastD (i:=15) (N:=some 62) (by simp only [List.getElem?_toArray,List.getElem?_cons_succ,List.getElem?_cons_zero];rfl) rfl (by as_aux_lemma=>kernel_rfl) (by decide) (fun K hK=>?_)
     apply Kd.R_append_rows_step Kd.bool (w0:=w) w.heap.size (by rfl) (.tmp 48) (.tmp 61) 22 4 (.bool false) 1 rfl Try.underlying22 info4 rfl (by decide) (by decide) (xs:=pBad b q) (ys:=[pBit b q]) (m:=1) (A:=Ax) (c:=cx) (ok:=fun _=>True) (okp:=fun _=>False) (HO:=hPx.rB) (HR:=hCx) (hKM:=fun _ _ h=>h) (hokp:=fun _ h=>h.elim) (hfresh:=fun _ _=>trivial) (HB:=hPx.below) (hbase:=below_size hPx.below)
     case hs=>rfl
     case hx=>rfl
     case hl=>rw [pBad_len];omega
     clear hCx
     intro vy wy hoy hby hgy _
     rw [← pBad_snoc] at hoy
     obtain ⟨Ay,cy,rfl⟩:=Kd.R_slice hoy
     have hPy:=hPx.rowB hoy hby hgy
     try (replace hrd:=hrd.row hPx.rB hgy (by decide))
     clear hPx hoy hgy hby
     refine hK.out _ _ ?_
     clear hK K
     refine norm_ (a':=?_) ?_ ?_
     rotate_left
     ·show Act.put _ (some 62) _=_
      simp only [Act.put,List.setIfInBounds_toArray,List.set_cons_zero,List.set_cons_succ,i64_w,i32_w]
      rfl
     refine Cw.dpu (i:=16) (v:=?_) (a':=?_) (by simp only [List.getElem?_toArray,List.getElem?_cons_succ,List.getElem?_cons_zero];rfl) rfl (by as_aux_lemma=>kernel_rfl) (by rfl) (by exact fun _ _ _ h=>h) ?_ ?_ ?_
     rotate_left
     ·intro w'
      go_simp
      with_reducible rfl
     rotate_left
     ·simp only [Act.put,List.setIfInBounds_toArray,List.set_cons_zero,List.set_cons_succ,i64_w,i32_w]
      rfl
     refine Cw.lastD (i:=17) (N:=none) (by simp only [List.getElem?_toArray,List.getElem?_cons_succ,List.getElem?_cons_zero];rfl) rfl (by as_aux_lemma=>kernel_rfl) (by decide) (fun K hK=>?_)
     refine pa_skip (by rfl) rfl (pa_st22 rfl rfl rfl hPy.h5 rfl) ?_
     intro wz hwz
     have hPz:=hPy.cell' hwz
     try (replace hrd:=hrd.oth hPy.h5 hwz)
     simp only [List.setIfInBounds_toArray,List.set_cons_zero,List.set_cons_succ] at hPz
     clear hPy hwz
     refine hK.out _ _ ?_
     clear hK K hS hP
     refine done_ (by as_aux_lemma=>kernel_rfl) ?_
     obtain ⟨AW,cW,rfl⟩:=Kd.R_slice hPz.rW
     clear hq8 hq24 hm0 hm8
     go_wp2_with fail
     obtain ⟨h3q,h32,h35,hm0,hm1⟩:=ra_q3 hqn hn
     obtain ⟨hb3,hc3,hm2,hm3⟩:=ra_b3 hqn hn hcc.out
     refine mb_startS (fun w'=>Below w.heap.size w w'∧w'.heap[g5]?=some (.cells #[.int .i64 1,.int .i64 (pGen b),.int .i64 (pB b 1),.int .i64 (pSeq b),.slice Ay (pBad b (q + 1)).length cy,.slice AW (pWear b q).length cW,.slice none 0 0] 42 (0,0))) [12,14] (by as_aux_lemma=>kernel_rfl) rfl (fun wd h_=>⟨below_step hPz.below h_,zbB hPz.h5 h_⟩) (fun wd h_=>?_)
     have hPd:=hPz.go h_
     have hS:(fun w'=>Below w.heap.size w w'∧w'.heap[g5]?=some (.cells #[.int .i64 1,.int .i64 (pGen b),.int .i64 (pB b 1),.int .i64 (pSeq b),.slice Ay (pBad b (q + 1)).length cy,.slice AW (pWear b q).length cW,.slice none 0 0] 42 (0,0))) wd:=⟨hPd.below,hPd.h5⟩
     clear h_ hPz
     have hh_:=zm hPd;clear hPd;have hPd:=hh_;clear hh_
     refine Cw.dpu (i:=0) (v:=?_) (a':=?_) (by simp only [List.getElem?_toArray,List.getElem?_cons_succ,List.getElem?_cons_zero];rfl) rfl (by as_aux_lemma=>kernel_rfl) (by rfl) (by exact fun _ _ _ h=>h) ?_ ?_ ?_
     rotate_left
     ·intro w'
      go_simp
      with_reducible rfl
     rotate_left
     ·simp only [Act.put,List.setIfInBounds_toArray,List.set_cons_zero,List.set_cons_succ,i64_w,i32_w]
      rfl
     refine Cw.dtkD (i:=1) (v:=?_) (a':=?_) (by simp only [List.getElem?_toArray,List.getElem?_cons_succ,List.getElem?_cons_zero];rfl) rfl (by as_aux_lemma=>kernel_rfl) (by rfl) (by exact fun _ _ _ h=>h) ?_ hS ?_ ?_
     rotate_left
     ·intro w' hs_
      apply Eq.trans
      ·apply mb_c23
       ·rfl
       ·rfl
       ·exact hs_.2
       ·rfl
      ·rfl
     rotate_left
     ·simp only [Act.put,List.setIfInBounds_toArray,List.set_cons_zero,List.set_cons_succ,i64_w,i32_w]
      rfl
     refine Cw.dpu (i:=2) (v:=?_) (a':=?_) (by simp only [List.getElem?_toArray,List.getElem?_cons_succ,List.getElem?_cons_zero];rfl) rfl (by as_aux_lemma=>kernel_rfl) (by rfl) (by exact fun _ _ _ h=>h) ?_ ?_ ?_
     rotate_left
     ·intro w'
      go_simp
      with_reducible rfl
     rotate_left
     ·simp only [Act.put,List.setIfInBounds_toArray,List.set_cons_zero,List.set_cons_succ,i64_w,i32_w]
      rfl
     refine Cw.dpu (i:=3) (v:=?_) (a':=?_) (by simp only [List.getElem?_toArray,List.getElem?_cons_succ,List.getElem?_cons_zero];rfl) rfl (by as_aux_lemma=>kernel_rfl) (by rfl) (by exact fun _ _ _ h=>h) ?_ ?_ ?_
     rotate_left
     ·intro w'
      go_simp
      with_reducible rfl
     rotate_left
     ·simp only [Act.put,List.setIfInBounds_toArray,List.set_cons_zero,List.set_cons_succ,i64_w,i32_w]
      rfl
     refine Cw.dpu (i:=4) (v:=?_) (a':=?_) (by simp only [List.getElem?_toArray,List.getElem?_cons_succ,List.getElem?_cons_zero];rfl) rfl (by as_aux_lemma=>kernel_rfl) (by rfl) (by exact fun _ _ _ h=>h) ?_ ?_ ?_
     rotate_left
     ·intro w'
      go_simp
      with_reducible rfl
     rotate_left
     ·simp only [Act.put,List.setIfInBounds_toArray,List.set_cons_zero,List.set_cons_succ,i64_w,i32_w]
      rfl
     rw [h3q]
     refine Cw.dpu (i:=5) (v:=?_) (a':=?_) (by simp only [List.getElem?_toArray,List.getElem?_cons_succ,List.getElem?_cons_zero];rfl) rfl (by as_aux_lemma=>kernel_rfl) (by rfl) (by exact fun _ _ _ h=>h) ?_ ?_ ?_
     rotate_left
     ·intro w'
      go_simp
      with_reducible rfl
     rotate_left
     ·simp only [Act.put,List.setIfInBounds_toArray,List.set_cons_zero,List.set_cons_succ,i64_w,i32_w]
      rfl
     rw [h32]
     refine Cw.dpu (i:=6) (v:=?_) (a':=?_) (by simp only [List.getElem?_toArray,List.getElem?_cons_succ,List.getElem?_cons_zero];rfl) rfl (by as_aux_lemma=>kernel_rfl) (by rfl) (by exact fun _ _ _ h=>h) ?_ ?_ ?_
     rotate_left
     ·intro w'
      go_simp
      with_reducible rfl
     rotate_left
     ·simp only [Act.put,List.setIfInBounds_toArray,List.set_cons_zero,List.set_cons_succ,i64_w,i32_w]
      rfl
     refine Cw.dpu (i:=7) (v:=?_) (a':=?_) (by simp only [List.getElem?_toArray,List.getElem?_cons_succ,List.getElem?_cons_zero];rfl) rfl (by as_aux_lemma=>kernel_rfl) (by rfl) (by exact fun _ _ _ h=>h) ?_ ?_ ?_
     rotate_left
     ·intro w'
      go_simp
      with_reducible rfl
     rotate_left
     ·simp only [Act.put,List.setIfInBounds_toArray,List.set_cons_zero,List.set_cons_succ,i64_w,i32_w]
      rfl
     rw [h3q]
     refine Cw.dpu (i:=8) (v:=?_) (a':=?_) (by simp only [List.getElem?_toArray,List.getElem?_cons_succ,List.getElem?_cons_zero];rfl) rfl (by as_aux_lemma=>kernel_rfl) (by rfl) (by exact fun _ _ _ h=>h) ?_ ?_ ?_
     rotate_left
     ·intro w'
      go_simp
      with_reducible rfl
     rotate_left
     ·simp only [Act.put,List.setIfInBounds_toArray,List.set_cons_zero,List.set_cons_succ,i64_w,i32_w]
      rfl
     rw [h35]
     refine Cw.dpu (i:=9) (v:=?_) (a':=?_) (by simp only [List.getElem?_toArray,List.getElem?_cons_succ,List.getElem?_cons_zero];rfl) rfl (by as_aux_lemma=>kernel_rfl) (by rfl) (by exact fun _ _ _ h=>h) ?_ ?_ ?_
     rotate_left
     ·intro w'
      apply Eq.trans
      ·apply ra_cut
       ·rfl
       ·rfl
       ·rfl
       ·rfl
       ·exact hm0
       ·exact hm1
       ·exact hm2
       ·exact hm3
      ·rfl
     rotate_left
     ·simp only [Act.put,List.setIfInBounds_toArray,List.set_cons_zero,List.set_cons_succ,i64_w,i32_w]
      rfl
     rw [ra_t3.1,ra_t3.2]
     clear hS
     refine Cw.done1D (i:=10) (N:=some 74) (by simp only [List.getElem?_toArray,List.getElem?_cons_succ,List.getElem?_cons_zero];rfl) rfl (by as_aux_lemma=>kernel_rfl) (by decide) (fun K hK=>?_)
     refine goes_ Try.func79 (by as_aux_lemma=>kernel_rfl) rfl _ (by rfl) rfl rfl (by go_simp;rfl) ?_
     refine (ra_num (w:=w) (32 + 3 * q) 3 hPd.out.below hC.out hl.out hcc.out ho.out hb3 (by decide) (by rfl) hc3).mono ?_
     rintro e wx ⟨rfl,hbx⟩
     have hPx:=hPd.out.go hbx
     clear hPd hbx
     have hPd:=zm hPx
     clear hPx
     refine ⟨_,rfl,?_⟩
     refine hK.out _ _ ⟨hPd.out.below,hPd.out.h5⟩ (fun _=>?_)
     clear hK K
     refine norm_ (a':=?_) ?_ ?_
     rotate_left
     ·show Act.put _ (some 74) _=_
      simp only [Act.put,List.setIfInBounds_toArray,List.set_cons_zero,List.set_cons_succ,i64_w,i32_w]
      rfl
     refine Cw.done1D (i:=11) (N:=some 75) (by simp only [List.getElem?_toArray,List.getElem?_cons_succ,List.getElem?_cons_zero];rfl) rfl (by as_aux_lemma=>kernel_rfl) (by decide) (fun K hK=>?_)
     refine Kd.R_lit_step (Kd.int .i64) (w0:=w) w.heap.size 2 (by rfl) (N:=75) rfl (xs:=[pWr b q]) (inner:=[.int .i64 (pWr b q)]) (ok:=fun _=>True) (okp:=fun _=>True) ?hr (Kd.reps_scalar _) (fun _ h=>h) trivial hPd.out.below (below_size hPd.out.below) (by simp) ?_
     case hr=>first|(go_simp;done)|(go_simp;rfl)
     intro vx wx hox hbx hgx _
     have hPx:=hPd.out.go (below_grown0 hgx)
     try (replace hrd:=hrd.out.go (below_grown0 hgx))
     obtain ⟨Ax,cx,rfl⟩:=Kd.R_slice hox
     have hCx:=(Kd.R_reads' hox).2.2
     clear hPd hox hgx hbx
     refine hK.out _ _ ⟨hPx.below,hPx.h5⟩ (fun _=>?_)
     clear hK K
     refine norm_ (a':=?_) ?_ ?_
     rotate_left
     ·show Act.put _ (some 75) _=_
      simp only [Act.put,List.setIfInBounds_toArray,List.set_cons_zero,List.set_cons_succ,i64_w,i32_w]
      rfl
     refine Cw.lastD (i:=12) (N:=some 76) (by simp only [List.getElem?_toArray,List.getElem?_cons_succ,List.getElem?_cons_zero];rfl) rfl (by as_aux_lemma=>kernel_rfl) (by decide) (fun K hK=>?_)
     apply Kd.R_append_rows_step (Kd.int .i64) (w0:=w) w.heap.size (by rfl) (.tmp 65) (.tmp 75) 23 2 (.int .i64 0) 8 rfl Try.underlying23 info2 rfl (by decide) (by decide) (xs:=pWear b q) (ys:=[pWr b q]) (m:=1) (A:=Ax) (c:=cx) (ok:=fun _=>True) (okp:=fun _=>False) (HO:=hPx.rW) (HR:=hCx) (hKM:=fun _ _ h=>h) (hokp:=fun _ h=>h.elim) (hfresh:=fun _ _=>trivial) (HB:=hPx.below) (hbase:=below_size hPx.below)
     case hs=>rfl
     case hx=>rfl
     case hl=>rw [pWear_len];omega
     clear hCx
     intro vy wy hoy hby hgy _
     rw [← pWear_snoc] at hoy
     obtain ⟨Ay,cy,rfl⟩:=Kd.R_slice hoy
     have hPy:=hPx.rowW hoy hby hgy
     try (replace hrd:=hrd.row hPx.rW hgy (by decide))
     clear hPx hoy hgy hby
     refine hK.out _ _ ?_
     clear hK K
     refine norm_ (a':=?_) ?_ ?_
     rotate_left
     ·show Act.put _ (some 76) _=_
      simp only [Act.put,List.setIfInBounds_toArray,List.set_cons_zero,List.set_cons_succ,i64_w,i32_w]
      rfl
     refine Cw.dpu (i:=13) (v:=?_) (a':=?_) (by simp only [List.getElem?_toArray,List.getElem?_cons_succ,List.getElem?_cons_zero];rfl) rfl (by as_aux_lemma=>kernel_rfl) (by rfl) (by exact fun _ _ _ h=>h) ?_ ?_ ?_
     rotate_left
     ·intro w'
      go_simp
      with_reducible rfl
     rotate_left
     ·simp only [Act.put,List.setIfInBounds_toArray,List.set_cons_zero,List.set_cons_succ,i64_w,i32_w]
      rfl
     refine Cw.lastD (i:=14) (N:=none) (by simp only [List.getElem?_toArray,List.getElem?_cons_succ,List.getElem?_cons_zero];rfl) rfl (by as_aux_lemma=>kernel_rfl) (by decide) (fun K hK=>?_)
     refine pa_skip (by rfl) rfl (pa_st23 rfl rfl rfl hPy.h5 rfl) ?_
     intro wz hwz
     have hPz:=hPy.cell' hwz
     try (replace hrd:=hrd.oth hPy.h5 hwz)
     simp only [List.setIfInBounds_toArray,List.set_cons_zero,List.set_cons_succ] at hPz
     clear hPy hwz
     refine hK.out _ _ ?_
     clear hK K
     refine done_ (by as_aux_lemma=>kernel_rfl) ?_
     clear h3q h32 h35 hm0 hm1 hm2 hm3 hb3 hc3
     go_wp2_with fail
     go_roundw
     case rel=>exact ⟨q + 1,_,_,by first|with_reducible rfl|(rw [hqw];done)|rfl,⟨hqn⟩,⟨hPz⟩⟩
     case measure=>first|exact mb_m hqn|(rw [hqw];exact mb_m hqn)
    ·obtain rfl:q=n:=ra_qn hq.out hqn
     have hd:decide ((q:Int) < (q:Int))=false:=decide_eq_false (Int.lt_irrefl _)
     obtain ⟨AB,cB,rfl⟩:=Kd.R_slice hP.out.rB
     obtain ⟨AW,cW,rfl⟩:=Kd.R_slice hP.out.rW
     have hpc:pc b=⟨1,pGen b,pB b 1,pSeq b,pBad b q,pWear b q,[]⟩:=ra_pc1 hk1 hn' hn
     have H:=H.out
     rw [hpc] at H
     have hg_:=Option.bind_eq_some_iff.mp H;clear H;obtain ⟨⟨own,er⟩,F0,H⟩:=hg_;have hh_:=zm F0;clear F0;have F0:=hh_;clear hh_;(try dsimp only at H)
     have hh_:=zm H;clear H;have H:=hh_;clear hh_
     go_wp2_with (first|((with_reducible refine gate_dst (N:=28) rfl ?_);refine Kd.event_run rfl (ra_idx rfl rfl rfl (by decide) (by decide)) ?_)|((with_reducible refine gate_dst (N:=29) rfl ?_);refine Kd.event_run rfl (ra_ld5 rfl rfl (Kd.C_below hC2.out hP.out.below) (by decide)) ?_)|((with_reducible refine gate_ (.load 3 _) rfl ?_);refine Kd.event_run rfl (mb_c3 rfl rfl hP.out.h5 rfl) ?_)|((with_reducible refine gate_ (.load 42 _) rfl ?_);refine Kd.event_run rfl (mb_ld42 rfl rfl hP.out.h5) ?_))
     refine (slipwayref06_Bytes.calls k 1 _ _ _ AB cB _ AW cW _ none 0 _ own er _ (Kd.R_reads' hP.out.rB).2.2 (Kd.R_reads' hP.out.rB).2.1 (Kd.R_reads' hP.out.rW).2.2 (Kd.R_reads' hP.out.rW).2.1 (Kd.R_reads' hP.out.rR).2.2 (Kd.R_reads' hP.out.rR).2.1 F0.out).mono ?_
     rintro e wy ⟨vo,rfl,hoo,hbo⟩
     have hP:=hP.out.go hbo
     clear hbo
     obtain ⟨Ao,co,rfl⟩:=Kd.R_slice hoo
     have hh_:=zm hP;clear hP;have hP:=hh_;clear hh_;have hh_:=zm hoo;clear hoo;have hoo:=hh_;clear hh_
     by_cases he:er=0
     rotate_left
     ·have heb:(er != 0)=true:=bne_iff_ne.mpr he
      have H:=H.out
      rw [if_neg (fun h_=>he h_.1)] at H
      simp only [Option.some.injEq,Prod.mk.injEq] at H
      obtain ⟨rfl,rfl,rfl,rfl,rfl,rfl,rfl,rfl⟩:=H
      go_wp2_with (first|((with_reducible refine gate_store (t:=42) (p:=2) rfl ?_);refine Cw.put_event rfl rfl rfl (mb_st42 rfl rfl rfl hP.out.h2) ?_;rintro w9 hw9;have hh_:=zm hw9;clear hw9;have hw9:=hh_;clear hh_))
      obtain ⟨hk9,hb9,_,_,_⟩:=hP.out.result _ rfl hw9.out
      clear hw9
      refine bodyPost_ret (results_ct rfl _ _ g2 42 _ (0,0) _ rfl hk9 Try.underlying42 rfl (by kernel_rfl)) rfl ?_
      exact ⟨_,_,_,rfl,Kd.R_nil _ _ _ _ _,Kd.R_nil _ _ _ _ _,Kd.R_nil _ _ _ _ _,hb9⟩
     subst he
     by_cases hs:((strOfNums own).toList == (strOfNums b).toList)=true
     rotate_left
     ·have hsb:((strOfNums own).toList == (strOfNums b).toList)=false:=by simpa using hs
      have H:=H.out
      rw [if_neg (fun h_=>hs h_.2)] at H
      simp only [Option.some.injEq,Prod.mk.injEq] at H
      obtain ⟨rfl,rfl,rfl,rfl,rfl,rfl,rfl,rfl⟩:=H
      clear hs
      go_wp2_with (first|((with_reducible refine Cw.guarded rfl ?gw ?_);(case gw=>first|rfl|(go_simp;done));dsimp only)|((with_reducible refine gate_dst (N:=121) rfl ?_);refine Kd.event_run rfl (ra_str rfl rfl (Kd.R_reads' hoo.out).2.2) ?_)|((with_reducible refine gate_dst (N:=123) rfl ?_);refine Kd.event_run rfl (ra_str rfl rfl (Kd.C_below hC2.out hP.out.below)) ?_)|((with_reducible refine gate_dst (N:=124) rfl ?_);refine Kd.event_run rfl (ra_strne (xs:=own) (ys:=b) rfl rfl rfl) ?_;rw [hsb];dsimp only [Bool.not_true,Bool.not_false])|((with_reducible refine gate_store (t:=42) (p:=2) rfl ?_);refine Cw.put_event rfl rfl rfl (mb_st42 rfl rfl rfl hP.out.h2) ?_;rintro w9 hw9;have hh_:=zm hw9;clear hw9;have hw9:=hh_;clear hh_))
      obtain ⟨hk9,hb9,_,_,_⟩:=hP.out.result _ rfl hw9.out
      clear hw9
      refine bodyPost_ret (results_ct rfl _ _ g2 42 _ (0,0) _ rfl hk9 Try.underlying42 rfl (by kernel_rfl)) rfl ?_
      exact ⟨_,_,_,rfl,Kd.R_nil _ _ _ _ _,Kd.R_nil _ _ _ _ _,Kd.R_nil _ _ _ _ _,hb9⟩
     have H:=H.out
     rw [if_pos ⟨by first|rfl|trivial,hs⟩] at H
     simp only [Option.some.injEq,Prod.mk.injEq] at H
     obtain ⟨rfl,rfl,rfl,rfl,rfl,rfl,rfl,rfl⟩:=H
     have hsb:=hs
     clear hs
     go_wp2_with (first|((with_reducible refine Cw.guarded rfl ?gw ?_);(case gw=>first|rfl|(go_simp;done));dsimp only)|((with_reducible refine gate_dst (N:=121) rfl ?_);refine Kd.event_run rfl (ra_str rfl rfl (Kd.R_reads' hoo.out).2.2) ?_)|((with_reducible refine gate_dst (N:=123) rfl ?_);refine Kd.event_run rfl (ra_str rfl rfl (Kd.C_below hC2.out hP.out.below)) ?_)|((with_reducible refine gate_dst (N:=124) rfl ?_);refine Kd.event_run rfl (ra_strne (xs:=own) (ys:=b) rfl rfl rfl) ?_;rw [hsb];dsimp only [Bool.not_true,Bool.not_false])|((with_reducible refine gate_ (.load 42 _) rfl ?_);refine Kd.event_run rfl (mb_ld42 rfl rfl hP.out.h5) ?_)|((with_reducible refine gate_store (t:=42) (p:=2) rfl ?_);refine Cw.put_event rfl rfl rfl (mb_st42 rfl rfl rfl hP.out.h2) ?_;rintro w9 hw9;have hh_:=zm hw9;clear hw9;have hw9:=hh_;clear hh_))
     obtain ⟨hk9,hb9,hB9,hW9,hR9⟩:=hP.out.result _ rfl hw9.out
     clear hw9
     refine bodyPost_ret (results_ct rfl _ _ g2 42 _ (0,0) _ rfl hk9 Try.underlying42 rfl (by kernel_rfl)) rfl ?_
     exact ⟨_,_,_,rfl,hB9,hW9,hR9,hb9⟩
  ·have hnb:decide (pB b 2≤64)=false:=decide_eq_false hn
   have hpc:pc b=⟨1,pGen b,pB b 1,0,[],[],[]⟩:=by
    unfold pc
    rw [if_neg (by omega),if_neg (by omega),hk1]
   rw [hk1] at hP
   have H:=H.out
   rw [hpc] at H
   have hg_:=Option.bind_eq_some_iff.mp H;clear H;obtain ⟨⟨own,er⟩,F0,H⟩:=hg_;have hh_:=zm F0;clear F0;have F0:=hh_;clear hh_;(try dsimp only at H)
   have hh_:=zm H;clear H;have H:=hh_;clear hh_
   go_wp2_with (first|((with_reducible refine gate_dst (N:=28) rfl ?_);refine Kd.event_run rfl (ra_idx rfl rfl rfl (by decide) (by decide)) ?_)|((with_reducible refine gate_dst (N:=29) rfl ?_);refine Kd.event_run rfl (ra_ld5 rfl rfl (Kd.C_below hC2.out hP.out.below) (by decide)) ?_)|((with_reducible refine gate_ (.load 3 _) rfl ?_);refine Kd.event_run rfl (mb_c3 rfl rfl hP.out.h5 rfl) ?_)|((with_reducible refine gate_ (.load 42 _) rfl ?_);refine Kd.event_run rfl (mb_ld42 rfl rfl hP.out.h5) ?_))
   refine (slipwayref06_Bytes.calls k 1 _ _ _ none 0 _ none 0 _ none 0 _ own er _ (Kd.R_reads' hP.out.rB).2.2 (Kd.R_reads' hP.out.rB).2.1 (Kd.R_reads' hP.out.rW).2.2 (Kd.R_reads' hP.out.rW).2.1 (Kd.R_reads' hP.out.rR).2.2 (Kd.R_reads' hP.out.rR).2.1 F0.out).mono ?_
   rintro e wy ⟨vo,rfl,hoo,hbo⟩
   have hP:=hP.out.go hbo
   clear hbo
   obtain ⟨Ao,co,rfl⟩:=Kd.R_slice hoo
   have hh_:=zm hP;clear hP;have hP:=hh_;clear hh_;have hh_:=zm hoo;clear hoo;have hoo:=hh_;clear hh_
   by_cases he:er=0
   rotate_left
   ·have heb:(er != 0)=true:=bne_iff_ne.mpr he
    have H:=H.out
    rw [if_neg (fun h_=>he h_.1)] at H
    simp only [Option.some.injEq,Prod.mk.injEq] at H
    obtain ⟨rfl,rfl,rfl,rfl,rfl,rfl,rfl,rfl⟩:=H
    go_wp2_with (first|((with_reducible refine gate_store (t:=42) (p:=2) rfl ?_);refine Cw.put_event rfl rfl rfl (mb_st42 rfl rfl rfl hP.out.h2) ?_;rintro w9 hw9;have hh_:=zm hw9;clear hw9;have hw9:=hh_;clear hh_))
    obtain ⟨hk9,hb9,_,_,_⟩:=hP.out.result _ rfl hw9.out
    clear hw9
    refine bodyPost_ret (results_ct rfl _ _ g2 42 _ (0,0) _ rfl hk9 Try.underlying42 rfl (by kernel_rfl)) rfl ?_
    exact ⟨_,_,_,rfl,Kd.R_nil _ _ _ _ _,Kd.R_nil _ _ _ _ _,Kd.R_nil _ _ _ _ _,hb9⟩
   subst he
   by_cases hs:((strOfNums own).toList == (strOfNums b).toList)=true
   rotate_left
   ·have hsb:((strOfNums own).toList == (strOfNums b).toList)=false:=by simpa using hs
    have H:=H.out
    rw [if_neg (fun h_=>hs h_.2)] at H
    simp only [Option.some.injEq,Prod.mk.injEq] at H
    obtain ⟨rfl,rfl,rfl,rfl,rfl,rfl,rfl,rfl⟩:=H
    clear hs
    go_wp2_with (first|((with_reducible refine Cw.guarded rfl ?gw ?_);(case gw=>first|rfl|(go_simp;done));dsimp only)|((with_reducible refine gate_dst (N:=121) rfl ?_);refine Kd.event_run rfl (ra_str rfl rfl (Kd.R_reads' hoo.out).2.2) ?_)|((with_reducible refine gate_dst (N:=123) rfl ?_);refine Kd.event_run rfl (ra_str rfl rfl (Kd.C_below hC2.out hP.out.below)) ?_)|((with_reducible refine gate_dst (N:=124) rfl ?_);refine Kd.event_run rfl (ra_strne (xs:=own) (ys:=b) rfl rfl rfl) ?_;rw [hsb];dsimp only [Bool.not_true,Bool.not_false])|((with_reducible refine gate_store (t:=42) (p:=2) rfl ?_);refine Cw.put_event rfl rfl rfl (mb_st42 rfl rfl rfl hP.out.h2) ?_;rintro w9 hw9;have hh_:=zm hw9;clear hw9;have hw9:=hh_;clear hh_))
    obtain ⟨hk9,hb9,_,_,_⟩:=hP.out.result _ rfl hw9.out
    clear hw9
    refine bodyPost_ret (results_ct rfl _ _ g2 42 _ (0,0) _ rfl hk9 Try.underlying42 rfl (by kernel_rfl)) rfl ?_
    exact ⟨_,_,_,rfl,Kd.R_nil _ _ _ _ _,Kd.R_nil _ _ _ _ _,Kd.R_nil _ _ _ _ _,hb9⟩
   have H:=H.out
   rw [if_pos ⟨by first|rfl|trivial,hs⟩] at H
   simp only [Option.some.injEq,Prod.mk.injEq] at H
   obtain ⟨rfl,rfl,rfl,rfl,rfl,rfl,rfl,rfl⟩:=H
   have hsb:=hs
   clear hs
   go_wp2_with (first|((with_reducible refine Cw.guarded rfl ?gw ?_);(case gw=>first|rfl|(go_simp;done));dsimp only)|((with_reducible refine gate_dst (N:=121) rfl ?_);refine Kd.event_run rfl (ra_str rfl rfl (Kd.R_reads' hoo.out).2.2) ?_)|((with_reducible refine gate_dst (N:=123) rfl ?_);refine Kd.event_run rfl (ra_str rfl rfl (Kd.C_below hC2.out hP.out.below)) ?_)|((with_reducible refine gate_dst (N:=124) rfl ?_);refine Kd.event_run rfl (ra_strne (xs:=own) (ys:=b) rfl rfl rfl) ?_;rw [hsb];dsimp only [Bool.not_true,Bool.not_false])|((with_reducible refine gate_ (.load 42 _) rfl ?_);refine Kd.event_run rfl (mb_ld42 rfl rfl hP.out.h5) ?_)|((with_reducible refine gate_store (t:=42) (p:=2) rfl ?_);refine Cw.put_event rfl rfl rfl (mb_st42 rfl rfl rfl hP.out.h2) ?_;rintro w9 hw9;have hh_:=zm hw9;clear hw9;have hw9:=hh_;clear hh_))
   obtain ⟨hk9,hb9,hB9,hW9,hR9⟩:=hP.out.result _ rfl hw9.out
   clear hw9
   refine bodyPost_ret (results_ct rfl _ _ g2 42 _ (0,0) _ rfl hk9 Try.underlying42 rfl (by kernel_rfl)) rfl ?_
   exact ⟨_,_,_,rfl,hB9,hW9,hR9,hb9⟩
 ·have hk1b:(pB b 0 == 1)=false:=beq_eq_false_iff_ne.mpr hk1
  by_cases hk2:pB b 0=2
  ·have hk2b:(pB b 0 == 2)=true:=beq_iff_eq.mpr hk2
   rw [hk2] at hP
   by_cases hn:pB b 2≤24
   ·have hnb:decide (pB b 2≤24)=true:=decide_eq_true hn
    obtain ⟨n,hn'⟩:∃ n:Nat,pB b 2=n:=⟨(pB b 2).toNat,by omega⟩
    rw [hn'] at hn hnb
    go_wp2_with (first|((with_reducible refine gate_dst (N:=28) rfl ?_);refine Kd.event_run rfl (ra_idx rfl rfl rfl (by decide) (by decide)) ?_)|((with_reducible refine gate_dst (N:=29) rfl ?_);refine Kd.event_run rfl (ra_ld5 rfl rfl (Kd.C_below hC2.out hP.out.below) (by decide)) ?_)|((with_reducible refine gate_ (.load 3 _) rfl ?_);refine Kd.event_run rfl (mb_c3 rfl rfl hP.out.h5 rfl) ?_))
    have hn24:=zm (show n≤24 from by omega)
    go_loopw [7] (fun v wi=>∃ (q:Nat) (vR:Value),v=.int .i64 (q:Int)∧Aside0 (q≤n)∧Aside0 (PSt w wi g2 g5 #[.int .i64 2,.int .i64 (pGen b),.int .i64 (pB b 1),.int .i64 0,.slice none 0 0,.slice none 0 0,vR] (.slice none 0 0) [] (.slice none 0 0) [] vR (pRecs b q))) (fun v _=>n - (intOf v).toNat)
    case atStart=>exact ⟨0,_,rfl,⟨Nat.zero_le _⟩,hP⟩
    case round =>
     clear hP
     obtain ⟨q,vR,rfl,hq,hP⟩:=hrel
     by_cases hqn:q < n
     ·have hd:decide ((q:Int) < (n:Int))=true:=decide_eq_true (by omega)
      have hqw:=mb_w (ra_300' hqn hn)
      obtain ⟨AR,cR,rfl⟩:=Kd.R_slice hP.out.rR
      obtain ⟨h10,h16,hs0,hs1,hs2,hs3,hs4,hs5⟩:=ra_q10 hqn hn hcc.out
      obtain ⟨ar,har⟩:∃ ar,ar=a0.add (16 + 10 * q):=⟨_,rfl⟩
      have hh_:=zm har;clear har;have har:=hh_;clear hh_;have hh_:=zm hs0;clear hs0;have hs0:=hh_;clear hh_;have hh_:=zm hs1;clear hs1;have hs1:=hh_;clear hh_;have hh_:=zm hs2;clear hs2;have hs2:=hh_;clear hh_;have hh_:=zm hs3;clear hs3;have hs3:=hh_;clear hh_;have hh_:=zm hs4;clear hs4;have hs4:=hh_;clear hh_;have hh_:=zm hs5;clear hs5;have hs5:=hh_;clear hh_
      go_wp2_with (first|((with_reducible refine gate_dst (N:=94) rfl ?_);refine Kd.event_run rfl (ra_cutq rfl rfl rfl hs0.out hs1.out har.out) ?_))
      clear h10 h16
      obtain ⟨hq0,hq1,hq2,hq3,hq4,hq5⟩:=ra_b10 hqn hn hcc.out
      refine mb_startS (fun w'=>Below w.heap.size w w'∧w'.heap[g5]?=some (.cells #[.int .i64 2,.int .i64 (pGen b),.int .i64 (pB b 1),.int .i64 0,.slice none 0 0,.slice none 0 0,.slice AR (pRecs b q).length cR] 42 (0,0))) [15,17] (by as_aux_lemma=>kernel_rfl) rfl (fun wd h_=>⟨below_step hP.out.below h_,zbB hP.out.h5 h_⟩) (fun wd h_=>?_)
      have hPd:=zm (hP.out.go h_)
      have hS:(fun w'=>Below w.heap.size w w'∧w'.heap[g5]?=some (.cells #[.int .i64 2,.int .i64 (pGen b),.int .i64 (pB b 1),.int .i64 0,.slice none 0 0,.slice none 0 0,.slice AR (pRecs b q).length cR] 42 (0,0))) wd:=⟨hPd.out.below,hPd.out.h5⟩
      clear h_ hP
      refine Cw.dpu (i:=0) (v:=?_) (a':=?_) (by simp only [List.getElem?_toArray,List.getElem?_cons_succ,List.getElem?_cons_zero];rfl) rfl (by as_aux_lemma=>kernel_rfl) (by rfl) (by exact fun _ _ _ h=>h) ?_ ?_ ?_
      rotate_left
      ·intro w'
       go_simp
       with_reducible rfl
      rotate_left
      ·simp only [Act.put,List.setIfInBounds_toArray,List.set_cons_zero,List.set_cons_succ,i64_w,i32_w]
       rfl
      refine Cw.dtkD (i:=1) (v:=?_) (a':=?_) (by simp only [List.getElem?_toArray,List.getElem?_cons_succ,List.getElem?_cons_zero];rfl) rfl (by as_aux_lemma=>kernel_rfl) (by rfl) (by exact fun _ _ _ h=>h) ?_ hS ?_ ?_
      rotate_left
      ·intro w' hs_
       apply Eq.trans
       ·apply mb_c34
        ·rfl
        ·rfl
        ·exact hs_.2
        ·rfl
       ·rfl
      rotate_left
      ·simp only [Act.put,List.setIfInBounds_toArray,List.set_cons_zero,List.set_cons_succ,i64_w,i32_w]
       rfl
      refine Cw.dpu (i:=2) (v:=?_) (a':=?_) (by simp only [List.getElem?_toArray,List.getElem?_cons_succ,List.getElem?_cons_zero];rfl) rfl (by as_aux_lemma=>kernel_rfl) (by rfl) (by exact fun _ _ _ h=>h) ?_ ?_ ?_
      rotate_left
      ·intro w'
       go_simp
       with_reducible rfl
      rotate_left
      ·simp only [Act.put,List.setIfInBounds_toArray,List.set_cons_zero,List.set_cons_succ,i64_w,i32_w]
       rfl
      refine Cw.dpu (i:=3) (v:=?_) (a':=?_) (by simp only [List.getElem?_toArray,List.getElem?_cons_succ,List.getElem?_cons_zero];rfl) rfl (by as_aux_lemma=>kernel_rfl) (by rfl) (by exact fun _ _ _ h=>h) ?_ ?_ ?_
      rotate_left
      ·intro w'
       apply Eq.trans
       ·apply ra_idx
        ·rfl
        ·rfl
        ·rfl
        ·decide
        ·exact hs3.out
       ·rfl
      rotate_left
      ·simp only [Act.put,List.setIfInBounds_toArray,List.set_cons_zero,List.set_cons_succ,i64_w,i32_w]
       rfl
      refine Cw.dtkD (i:=4) (v:=?_) (a':=?_) (by simp only [List.getElem?_toArray,List.getElem?_cons_succ,List.getElem?_cons_zero];rfl) rfl (by as_aux_lemma=>kernel_rfl) (by rfl) (by exact fun _ _ _ h=>h) ?_ hS ?_ ?_
      rotate_left
      ·intro w' hs_
       apply Eq.trans
       ·apply ra_ld5
        ·rfl
        ·rfl
        ·exact (ra_arC hC.out hs_.1 hl.out hcc.out har.out hq4)
        ·exact hq3
       ·rfl
      rotate_left
      ·simp only [Act.put,List.setIfInBounds_toArray,List.set_cons_zero,List.set_cons_succ,i64_w,i32_w]
       rfl
      refine Cw.dpu (i:=5) (v:=?_) (a':=?_) (by simp only [List.getElem?_toArray,List.getElem?_cons_succ,List.getElem?_cons_zero];rfl) rfl (by as_aux_lemma=>kernel_rfl) (by rfl) (by exact fun _ _ _ h=>h) ?_ ?_ ?_
      rotate_left
      ·intro w'
       go_simp
       with_reducible rfl
      rotate_left
      ·simp only [Act.put,List.setIfInBounds_toArray,List.set_cons_zero,List.set_cons_succ,i64_w,i32_w]
       rfl
      refine Cw.dpu (i:=6) (v:=?_) (a':=?_) (by simp only [List.getElem?_toArray,List.getElem?_cons_succ,List.getElem?_cons_zero];rfl) rfl (by as_aux_lemma=>kernel_rfl) (by rfl) (by exact fun _ _ _ h=>h) ?_ ?_ ?_
      rotate_left
      ·intro w'
       go_simp
       with_reducible rfl
      rotate_left
      ·simp only [Act.put,List.setIfInBounds_toArray,List.set_cons_zero,List.set_cons_succ,i64_w,i32_w]
       rfl
      refine Cw.dpu (i:=7) (v:=?_) (a':=?_) (by simp only [List.getElem?_toArray,List.getElem?_cons_succ,List.getElem?_cons_zero];rfl) rfl (by as_aux_lemma=>kernel_rfl) (by rfl) (by exact fun _ _ _ h=>h) ?_ ?_ ?_
      rotate_left
      ·intro w'
       apply Eq.trans
       ·apply ra_idx
        ·rfl
        ·rfl
        ·rfl
        ·decide
        ·exact hs2.out
       ·rfl
      rotate_left
      ·simp only [Act.put,List.setIfInBounds_toArray,List.set_cons_zero,List.set_cons_succ,i64_w,i32_w]
       rfl
      refine Cw.dtkD (i:=8) (v:=?_) (a':=?_) (by simp only [List.getElem?_toArray,List.getElem?_cons_succ,List.getElem?_cons_zero];rfl) rfl (by as_aux_lemma=>kernel_rfl) (by rfl) (by exact fun _ _ _ h=>h) ?_ hS ?_ ?_
      rotate_left
      ·intro w' hs_
       apply Eq.trans
       ·apply ra_ld5
        ·rfl
        ·rfl
        ·exact (ra_arC hC.out hs_.1 hl.out hcc.out har.out hq4)
        ·exact hq2
       ·rfl
      rotate_left
      ·simp only [Act.put,List.setIfInBounds_toArray,List.set_cons_zero,List.set_cons_succ,i64_w,i32_w]
       rfl
      refine Cw.dpu (i:=9) (v:=?_) (a':=?_) (by simp only [List.getElem?_toArray,List.getElem?_cons_succ,List.getElem?_cons_zero];rfl) rfl (by as_aux_lemma=>kernel_rfl) (by rfl) (by exact fun _ _ _ h=>h) ?_ ?_ ?_
      rotate_left
      ·intro w'
       go_simp
       with_reducible rfl
      rotate_left
      ·simp only [Act.put,List.setIfInBounds_toArray,List.set_cons_zero,List.set_cons_succ,i64_w,i32_w]
       rfl
      refine Cw.dpu (i:=10) (v:=?_) (a':=?_) (by simp only [List.getElem?_toArray,List.getElem?_cons_succ,List.getElem?_cons_zero];rfl) rfl (by as_aux_lemma=>kernel_rfl) (by rfl) (by exact fun _ _ _ h=>h) ?_ ?_ ?_
      rotate_left
      ·intro w'
       go_simp
       with_reducible rfl
      rotate_left
      ·simp only [Act.put,List.setIfInBounds_toArray,List.set_cons_zero,List.set_cons_succ,i64_w,i32_w]
       rfl
      refine Cw.dpu (i:=11) (v:=?_) (a':=?_) (by simp only [List.getElem?_toArray,List.getElem?_cons_succ,List.getElem?_cons_zero];rfl) rfl (by as_aux_lemma=>kernel_rfl) (by rfl) (by exact fun _ _ _ h=>h) ?_ ?_ ?_
      rotate_left
      ·intro w'
       apply Eq.trans
       ·apply ra_cut
        ·rfl
        ·rfl
        ·rfl
        ·rfl
        ·decide
        ·decide
        ·exact hs4.out
        ·exact hs5.out
       ·rfl
      rotate_left
      ·simp only [Act.put,List.setIfInBounds_toArray,List.set_cons_zero,List.set_cons_succ,i64_w,i32_w]
       rfl
      rw [ra_w (o:=16 + 10 * q) (i:=0) hl.out ho.out hq4,ra_w (o:=16 + 10 * q) (i:=1) hl.out ho.out hq5]
      clear hS
      refine Cw.done1D (i:=12) (N:=some 107) (by simp only [List.getElem?_toArray,List.getElem?_cons_succ,List.getElem?_cons_zero];rfl) rfl (by as_aux_lemma=>kernel_rfl) (by decide) (fun K hK=>?_)
      refine goes_ Try.func79 (by as_aux_lemma=>kernel_rfl) rfl _ (by rfl) rfl rfl (by go_simp;rfl) ?_
      refine (ra_num (w:=w) (16 + 10 * q + 2) 8 hPd.out.below hC.out hl.out hcc.out ho.out hq0 (by decide) (ra_add2 har.out) hq1).mono ?_
      rintro e wx ⟨rfl,hbx⟩
      have hPx:=hPd.out.go hbx
      clear hPd hbx
      have hPd:=zm hPx
      clear hPx
      refine ⟨_,rfl,?_⟩
      refine hK.out _ _ ⟨hPd.out.below,hPd.out.h5⟩ (fun _=>?_)
      clear hK K
      refine norm_ (a':=?_) ?_ ?_
      rotate_left
      ·show Act.put _ (some 107) _=_
       simp only [Act.put,List.setIfInBounds_toArray,List.set_cons_zero,List.set_cons_succ,i64_w,i32_w]
       rfl
      refine Cw.dpu (i:=13) (v:=?_) (a':=?_) (by simp only [List.getElem?_toArray,List.getElem?_cons_succ,List.getElem?_cons_zero];rfl) rfl (by as_aux_lemma=>kernel_rfl) (by rfl) (by exact fun _ _ _ h=>h) ?_ ?_ ?_
      rotate_left
      ·intro w'
       go_simp
       with_reducible rfl
      rotate_left
      ·simp only [Act.put,List.setIfInBounds_toArray,List.set_cons_zero,List.set_cons_succ,i64_w,i32_w]
       rfl
      refine Cw.done1D (i:=14) (N:=some 109) (by simp only [List.getElem?_toArray,List.getElem?_cons_succ,List.getElem?_cons_zero];rfl) rfl (by as_aux_lemma=>kernel_rfl) (by decide) (fun K hK=>?_)
      refine Kd.R_lit_step k55 (w0:=w) w.heap.size 55 (by rfl) (N:=109) rfl (xs:=[pRec b q]) (inner:=[.int .i64 (pB b (16 + 10 * q)),.int .i64 (pB b (16 + 10 * q + 1)),.int .i64 (pNum ((b.drop (16 + 10 * q + 2)).take 8))]) (ok:=fun _=>True) (okp:=fun _=>True) ?hr (pa_rep _ _ _ (pRec b q)) (fun _ h=>h) trivial hPd.out.below (below_size hPd.out.below) (by simp) ?_
      case hr=>first|(go_simp;done)|(go_simp;rfl)
      intro vx wx hox hbx hgx _
      have hPx:=hPd.out.go (below_grown0 hgx)
      try (replace hrd:=hrd.out.go (below_grown0 hgx))
      obtain ⟨Ax,cx,rfl⟩:=Kd.R_slice hox
      have hCx:=(Kd.R_reads' hox).2.2
      clear hPd hox hgx hbx
      refine hK.out _ _ ⟨hPx.below,hPx.h5⟩ (fun _=>?_)
      clear hK K
      refine norm_ (a':=?_) ?_ ?_
      rotate_left
      ·show Act.put _ (some 109) _=_
       simp only [Act.put,List.setIfInBounds_toArray,List.set_cons_zero,List.set_cons_succ,i64_w,i32_w]
       rfl
      refine Cw.lastD (i:=15) (N:=some 110) (by simp only [List.getElem?_toArray,List.getElem?_cons_succ,List.getElem?_cons_zero];rfl) rfl (by as_aux_lemma=>kernel_rfl) (by decide) (fun K hK=>?_)
      apply Kd.R_append_rows_step k55 (w0:=w) w.heap.size (by rfl) (.tmp 96) (.tmp 109) 34 55 (.agg #[(.int .i64 0),(.int .i64 0),(.int .i64 0)]) 24 rfl Try.underlying34 info55 rfl (by decide) (by decide) (xs:=pRecs b q) (ys:=[pRec b q]) (m:=1) (A:=Ax) (c:=cx) (ok:=fun _=>True) (okp:=fun _=>False) (HO:=hPx.rR) (HR:=hCx) (hKM:=fun x cs h=>by rw [k55_open h];exact k55_mkM _ _ _ x) (hokp:=fun _ h=>h.elim) (hfresh:=fun _ _=>trivial) (HB:=hPx.below) (hbase:=below_size hPx.below)
      case hs=>rfl
      case hx=>rfl
      case hl=>rw [pRecs_len];exact pa_cap24 hqn hn24.out
      clear hCx
      intro vy wy hoy hby hgy _
      rw [← pRecs_snoc] at hoy
      obtain ⟨Ay,cy,rfl⟩:=Kd.R_slice hoy
      have hPy:=hPx.rowR hoy hby hgy
      try (replace hrd:=hrd.row hPx.rR hgy (by decide))
      clear hPx hoy hgy hby
      refine hK.out _ _ ?_
      clear hK K
      refine norm_ (a':=?_) ?_ ?_
      rotate_left
      ·show Act.put _ (some 110) _=_
       simp only [Act.put,List.setIfInBounds_toArray,List.set_cons_zero,List.set_cons_succ,i64_w,i32_w]
       rfl
      refine Cw.dpu (i:=16) (v:=?_) (a':=?_) (by simp only [List.getElem?_toArray,List.getElem?_cons_succ,List.getElem?_cons_zero];rfl) rfl (by as_aux_lemma=>kernel_rfl) (by rfl) (by exact fun _ _ _ h=>h) ?_ ?_ ?_
      rotate_left
      ·intro w'
       go_simp
       with_reducible rfl
      rotate_left
      ·simp only [Act.put,List.setIfInBounds_toArray,List.set_cons_zero,List.set_cons_succ,i64_w,i32_w]
       rfl
      refine Cw.lastD (i:=17) (N:=none) (by simp only [List.getElem?_toArray,List.getElem?_cons_succ,List.getElem?_cons_zero];rfl) rfl (by as_aux_lemma=>kernel_rfl) (by decide) (fun K hK=>?_)
      refine pa_skip (by rfl) rfl (pa_st34 rfl rfl rfl hPy.h5 rfl) ?_
      intro wz hwz
      have hPz:=hPy.cell' hwz
      try (replace hrd:=hrd.oth hPy.h5 hwz)
      simp only [List.setIfInBounds_toArray,List.set_cons_zero,List.set_cons_succ] at hPz
      clear hPy hwz
      refine hK.out _ _ ?_
      clear hK K
      refine done_ (by as_aux_lemma=>kernel_rfl) ?_
      clear hq0 hq1 hq2 hq3 hq4 hq5
      go_wp2_with fail
      go_roundw
      case rel=>exact ⟨q + 1,_,by first|with_reducible rfl|(rw [hqw];done)|rfl,⟨hqn⟩,⟨hPz⟩⟩
      case measure=>first|exact mb_m hqn|(rw [hqw];exact mb_m hqn)
     ·obtain rfl:q=n:=ra_qn hq.out hqn
      have hd:decide ((q:Int) < (q:Int))=false:=decide_eq_false (Int.lt_irrefl _)
      obtain ⟨AR,cR,rfl⟩:=Kd.R_slice hP.out.rR
      have hpc:pc b=⟨2,pGen b,pB b 1,0,[],[],pRecs b q⟩:=ra_pc2 hk2 hn' hn
      have H:=H.out
      rw [hpc] at H
      have hg_:=Option.bind_eq_some_iff.mp H;clear H;obtain ⟨⟨own,er⟩,F0,H⟩:=hg_;have hh_:=zm F0;clear F0;have F0:=hh_;clear hh_;(try dsimp only at H)
      have hh_:=zm H;clear H;have H:=hh_;clear hh_
      go_wp2_with (first|((with_reducible refine gate_dst (N:=28) rfl ?_);refine Kd.event_run rfl (ra_idx rfl rfl rfl (by decide) (by decide)) ?_)|((with_reducible refine gate_dst (N:=29) rfl ?_);refine Kd.event_run rfl (ra_ld5 rfl rfl (Kd.C_below hC2.out hP.out.below) (by decide)) ?_)|((with_reducible refine gate_ (.load 3 _) rfl ?_);refine Kd.event_run rfl (mb_c3 rfl rfl hP.out.h5 rfl) ?_)|((with_reducible refine gate_ (.load 42 _) rfl ?_);refine Kd.event_run rfl (mb_ld42 rfl rfl hP.out.h5) ?_))
      refine (slipwayref06_Bytes.calls k 2 _ _ _ none 0 _ none 0 _ AR cR _ own er _ (Kd.R_reads' hP.out.rB).2.2 (Kd.R_reads' hP.out.rB).2.1 (Kd.R_reads' hP.out.rW).2.2 (Kd.R_reads' hP.out.rW).2.1 (Kd.R_reads' hP.out.rR).2.2 (Kd.R_reads' hP.out.rR).2.1 F0.out).mono ?_
      rintro e wy ⟨vo,rfl,hoo,hbo⟩
      have hP:=hP.out.go hbo
      clear hbo
      obtain ⟨Ao,co,rfl⟩:=Kd.R_slice hoo
      have hh_:=zm hP;clear hP;have hP:=hh_;clear hh_;have hh_:=zm hoo;clear hoo;have hoo:=hh_;clear hh_
      by_cases he:er=0
      rotate_left
      ·have heb:(er != 0)=true:=bne_iff_ne.mpr he
       have H:=H.out
       rw [if_neg (fun h_=>he h_.1)] at H
       simp only [Option.some.injEq,Prod.mk.injEq] at H
       obtain ⟨rfl,rfl,rfl,rfl,rfl,rfl,rfl,rfl⟩:=H
       go_wp2_with (first|((with_reducible refine gate_store (t:=42) (p:=2) rfl ?_);refine Cw.put_event rfl rfl rfl (mb_st42 rfl rfl rfl hP.out.h2) ?_;rintro w9 hw9;have hh_:=zm hw9;clear hw9;have hw9:=hh_;clear hh_))
       obtain ⟨hk9,hb9,_,_,_⟩:=hP.out.result _ rfl hw9.out
       clear hw9
       refine bodyPost_ret (results_ct rfl _ _ g2 42 _ (0,0) _ rfl hk9 Try.underlying42 rfl (by kernel_rfl)) rfl ?_
       exact ⟨_,_,_,rfl,Kd.R_nil _ _ _ _ _,Kd.R_nil _ _ _ _ _,Kd.R_nil _ _ _ _ _,hb9⟩
      subst he
      by_cases hs:((strOfNums own).toList == (strOfNums b).toList)=true
      rotate_left
      ·have hsb:((strOfNums own).toList == (strOfNums b).toList)=false:=by simpa using hs
       have H:=H.out
       rw [if_neg (fun h_=>hs h_.2)] at H
       simp only [Option.some.injEq,Prod.mk.injEq] at H
       obtain ⟨rfl,rfl,rfl,rfl,rfl,rfl,rfl,rfl⟩:=H
       clear hs
       go_wp2_with (first|((with_reducible refine Cw.guarded rfl ?gw ?_);(case gw=>first|rfl|(go_simp;done));dsimp only)|((with_reducible refine gate_dst (N:=121) rfl ?_);refine Kd.event_run rfl (ra_str rfl rfl (Kd.R_reads' hoo.out).2.2) ?_)|((with_reducible refine gate_dst (N:=123) rfl ?_);refine Kd.event_run rfl (ra_str rfl rfl (Kd.C_below hC2.out hP.out.below)) ?_)|((with_reducible refine gate_dst (N:=124) rfl ?_);refine Kd.event_run rfl (ra_strne (xs:=own) (ys:=b) rfl rfl rfl) ?_;rw [hsb];dsimp only [Bool.not_true,Bool.not_false])|((with_reducible refine gate_store (t:=42) (p:=2) rfl ?_);refine Cw.put_event rfl rfl rfl (mb_st42 rfl rfl rfl hP.out.h2) ?_;rintro w9 hw9;have hh_:=zm hw9;clear hw9;have hw9:=hh_;clear hh_))
       obtain ⟨hk9,hb9,_,_,_⟩:=hP.out.result _ rfl hw9.out
       clear hw9
       refine bodyPost_ret (results_ct rfl _ _ g2 42 _ (0,0) _ rfl hk9 Try.underlying42 rfl (by kernel_rfl)) rfl ?_
       exact ⟨_,_,_,rfl,Kd.R_nil _ _ _ _ _,Kd.R_nil _ _ _ _ _,Kd.R_nil _ _ _ _ _,hb9⟩
      have H:=H.out
      rw [if_pos ⟨by first|rfl|trivial,hs⟩] at H
      simp only [Option.some.injEq,Prod.mk.injEq] at H
      obtain ⟨rfl,rfl,rfl,rfl,rfl,rfl,rfl,rfl⟩:=H
      have hsb:=hs
      clear hs
      go_wp2_with (first|((with_reducible refine Cw.guarded rfl ?gw ?_);(case gw=>first|rfl|(go_simp;done));dsimp only)|((with_reducible refine gate_dst (N:=121) rfl ?_);refine Kd.event_run rfl (ra_str rfl rfl (Kd.R_reads' hoo.out).2.2) ?_)|((with_reducible refine gate_dst (N:=123) rfl ?_);refine Kd.event_run rfl (ra_str rfl rfl (Kd.C_below hC2.out hP.out.below)) ?_)|((with_reducible refine gate_dst (N:=124) rfl ?_);refine Kd.event_run rfl (ra_strne (xs:=own) (ys:=b) rfl rfl rfl) ?_;rw [hsb];dsimp only [Bool.not_true,Bool.not_false])|((with_reducible refine gate_ (.load 42 _) rfl ?_);refine Kd.event_run rfl (mb_ld42 rfl rfl hP.out.h5) ?_)|((with_reducible refine gate_store (t:=42) (p:=2) rfl ?_);refine Cw.put_event rfl rfl rfl (mb_st42 rfl rfl rfl hP.out.h2) ?_;rintro w9 hw9;have hh_:=zm hw9;clear hw9;have hw9:=hh_;clear hh_))
      obtain ⟨hk9,hb9,hB9,hW9,hR9⟩:=hP.out.result _ rfl hw9.out
      clear hw9
      refine bodyPost_ret (results_ct rfl _ _ g2 42 _ (0,0) _ rfl hk9 Try.underlying42 rfl (by kernel_rfl)) rfl ?_
      exact ⟨_,_,_,rfl,hB9,hW9,hR9,hb9⟩
   ·have hnb:decide (pB b 2≤24)=false:=decide_eq_false hn
    have hpc:pc b=⟨2,pGen b,pB b 1,0,[],[],[]⟩:=by
     unfold pc
     rw [if_neg (by omega),if_neg (by omega),hk2]
    have H:=H.out
    rw [hpc] at H
    have hg_:=Option.bind_eq_some_iff.mp H;clear H;obtain ⟨⟨own,er⟩,F0,H⟩:=hg_;have hh_:=zm F0;clear F0;have F0:=hh_;clear hh_;(try dsimp only at H)
    have hh_:=zm H;clear H;have H:=hh_;clear hh_
    go_wp2_with (first|((with_reducible refine gate_dst (N:=28) rfl ?_);refine Kd.event_run rfl (ra_idx rfl rfl rfl (by decide) (by decide)) ?_)|((with_reducible refine gate_dst (N:=29) rfl ?_);refine Kd.event_run rfl (ra_ld5 rfl rfl (Kd.C_below hC2.out hP.out.below) (by decide)) ?_)|((with_reducible refine gate_ (.load 3 _) rfl ?_);refine Kd.event_run rfl (mb_c3 rfl rfl hP.out.h5 rfl) ?_)|((with_reducible refine gate_ (.load 42 _) rfl ?_);refine Kd.event_run rfl (mb_ld42 rfl rfl hP.out.h5) ?_))
    refine (slipwayref06_Bytes.calls k 2 _ _ _ none 0 _ none 0 _ none 0 _ own er _ (Kd.R_reads' hP.out.rB).2.2 (Kd.R_reads' hP.out.rB).2.1 (Kd.R_reads' hP.out.rW).2.2 (Kd.R_reads' hP.out.rW).2.1 (Kd.R_reads' hP.out.rR).2.2 (Kd.R_reads' hP.out.rR).2.1 F0.out).mono ?_
    rintro e wy ⟨vo,rfl,hoo,hbo⟩
    have hP:=hP.out.go hbo
    clear hbo
    obtain ⟨Ao,co,rfl⟩:=Kd.R_slice hoo
    have hh_:=zm hP;clear hP;have hP:=hh_;clear hh_;have hh_:=zm hoo;clear hoo;have hoo:=hh_;clear hh_
    by_cases he:er=0
    rotate_left
    ·have heb:(er != 0)=true:=bne_iff_ne.mpr he
     have H:=H.out
     rw [if_neg (fun h_=>he h_.1)] at H
     simp only [Option.some.injEq,Prod.mk.injEq] at H
     obtain ⟨rfl,rfl,rfl,rfl,rfl,rfl,rfl,rfl⟩:=H
     go_wp2_with (first|((with_reducible refine gate_store (t:=42) (p:=2) rfl ?_);refine Cw.put_event rfl rfl rfl (mb_st42 rfl rfl rfl hP.out.h2) ?_;rintro w9 hw9;have hh_:=zm hw9;clear hw9;have hw9:=hh_;clear hh_))
     obtain ⟨hk9,hb9,_,_,_⟩:=hP.out.result _ rfl hw9.out
     clear hw9
     refine bodyPost_ret (results_ct rfl _ _ g2 42 _ (0,0) _ rfl hk9 Try.underlying42 rfl (by kernel_rfl)) rfl ?_
     exact ⟨_,_,_,rfl,Kd.R_nil _ _ _ _ _,Kd.R_nil _ _ _ _ _,Kd.R_nil _ _ _ _ _,hb9⟩
    subst he
    by_cases hs:((strOfNums own).toList == (strOfNums b).toList)=true
    rotate_left
    ·have hsb:((strOfNums own).toList == (strOfNums b).toList)=false:=by simpa using hs
     have H:=H.out
     rw [if_neg (fun h_=>hs h_.2)] at H
     simp only [Option.some.injEq,Prod.mk.injEq] at H
     obtain ⟨rfl,rfl,rfl,rfl,rfl,rfl,rfl,rfl⟩:=H
     clear hs
     go_wp2_with (first|((with_reducible refine Cw.guarded rfl ?gw ?_);(case gw=>first|rfl|(go_simp;done));dsimp only)|((with_reducible refine gate_dst (N:=121) rfl ?_);refine Kd.event_run rfl (ra_str rfl rfl (Kd.R_reads' hoo.out).2.2) ?_)|((with_reducible refine gate_dst (N:=123) rfl ?_);refine Kd.event_run rfl (ra_str rfl rfl (Kd.C_below hC2.out hP.out.below)) ?_)|((with_reducible refine gate_dst (N:=124) rfl ?_);refine Kd.event_run rfl (ra_strne (xs:=own) (ys:=b) rfl rfl rfl) ?_;rw [hsb];dsimp only [Bool.not_true,Bool.not_false])|((with_reducible refine gate_store (t:=42) (p:=2) rfl ?_);refine Cw.put_event rfl rfl rfl (mb_st42 rfl rfl rfl hP.out.h2) ?_;rintro w9 hw9;have hh_:=zm hw9;clear hw9;have hw9:=hh_;clear hh_))
     obtain ⟨hk9,hb9,_,_,_⟩:=hP.out.result _ rfl hw9.out
     clear hw9
     refine bodyPost_ret (results_ct rfl _ _ g2 42 _ (0,0) _ rfl hk9 Try.underlying42 rfl (by kernel_rfl)) rfl ?_
     exact ⟨_,_,_,rfl,Kd.R_nil _ _ _ _ _,Kd.R_nil _ _ _ _ _,Kd.R_nil _ _ _ _ _,hb9⟩
    have H:=H.out
    rw [if_pos ⟨by first|rfl|trivial,hs⟩] at H
    simp only [Option.some.injEq,Prod.mk.injEq] at H
    obtain ⟨rfl,rfl,rfl,rfl,rfl,rfl,rfl,rfl⟩:=H
    have hsb:=hs
    clear hs
    go_wp2_with (first|((with_reducible refine Cw.guarded rfl ?gw ?_);(case gw=>first|rfl|(go_simp;done));dsimp only)|((with_reducible refine gate_dst (N:=121) rfl ?_);refine Kd.event_run rfl (ra_str rfl rfl (Kd.R_reads' hoo.out).2.2) ?_)|((with_reducible refine gate_dst (N:=123) rfl ?_);refine Kd.event_run rfl (ra_str rfl rfl (Kd.C_below hC2.out hP.out.below)) ?_)|((with_reducible refine gate_dst (N:=124) rfl ?_);refine Kd.event_run rfl (ra_strne (xs:=own) (ys:=b) rfl rfl rfl) ?_;rw [hsb];dsimp only [Bool.not_true,Bool.not_false])|((with_reducible refine gate_ (.load 42 _) rfl ?_);refine Kd.event_run rfl (mb_ld42 rfl rfl hP.out.h5) ?_)|((with_reducible refine gate_store (t:=42) (p:=2) rfl ?_);refine Cw.put_event rfl rfl rfl (mb_st42 rfl rfl rfl hP.out.h2) ?_;rintro w9 hw9;have hh_:=zm hw9;clear hw9;have hw9:=hh_;clear hh_))
    obtain ⟨hk9,hb9,hB9,hW9,hR9⟩:=hP.out.result _ rfl hw9.out
    clear hw9
    refine bodyPost_ret (results_ct rfl _ _ g2 42 _ (0,0) _ rfl hk9 Try.underlying42 rfl (by kernel_rfl)) rfl ?_
    exact ⟨_,_,_,rfl,hB9,hW9,hR9,hb9⟩
  ·have hk2b:(pB b 0 == 2)=false:=beq_eq_false_iff_ne.mpr hk2
   have hpc:pc b=⟨pB b 0,pGen b,pB b 1,0,[],[],[]⟩:=by
    unfold pc
    rw [if_neg (by omega),if_neg (by omega)]
   have H:=H.out
   rw [hpc] at H
   have hg_:=Option.bind_eq_some_iff.mp H;clear H;obtain ⟨⟨own,er⟩,F0,H⟩:=hg_;have hh_:=zm F0;clear F0;have F0:=hh_;clear hh_;(try dsimp only at H)
   have hh_:=zm H;clear H;have H:=hh_;clear hh_
   go_wp2_with (first|((with_reducible refine gate_dst (N:=28) rfl ?_);refine Kd.event_run rfl (ra_idx rfl rfl rfl (by decide) (by decide)) ?_)|((with_reducible refine gate_dst (N:=29) rfl ?_);refine Kd.event_run rfl (ra_ld5 rfl rfl (Kd.C_below hC2.out hP.out.below) (by decide)) ?_)|((with_reducible refine gate_ (.load 3 _) rfl ?_);refine Kd.event_run rfl (mb_c3 rfl rfl hP.out.h5 rfl) ?_)|((with_reducible refine gate_ (.load 42 _) rfl ?_);refine Kd.event_run rfl (mb_ld42 rfl rfl hP.out.h5) ?_))
   refine (slipwayref06_Bytes.calls k (pB b 0) _ _ _ none 0 _ none 0 _ none 0 _ own er _ (Kd.R_reads' hP.out.rB).2.2 (Kd.R_reads' hP.out.rB).2.1 (Kd.R_reads' hP.out.rW).2.2 (Kd.R_reads' hP.out.rW).2.1 (Kd.R_reads' hP.out.rR).2.2 (Kd.R_reads' hP.out.rR).2.1 F0.out).mono ?_
   rintro e wy ⟨vo,rfl,hoo,hbo⟩
   have hP:=hP.out.go hbo
   clear hbo
   obtain ⟨Ao,co,rfl⟩:=Kd.R_slice hoo
   have hh_:=zm hP;clear hP;have hP:=hh_;clear hh_;have hh_:=zm hoo;clear hoo;have hoo:=hh_;clear hh_
   by_cases he:er=0
   rotate_left
   ·have heb:(er != 0)=true:=bne_iff_ne.mpr he
    have H:=H.out
    rw [if_neg (fun h_=>he h_.1)] at H
    simp only [Option.some.injEq,Prod.mk.injEq] at H
    obtain ⟨rfl,rfl,rfl,rfl,rfl,rfl,rfl,rfl⟩:=H
    go_wp2_with (first|((with_reducible refine gate_store (t:=42) (p:=2) rfl ?_);refine Cw.put_event rfl rfl rfl (mb_st42 rfl rfl rfl hP.out.h2) ?_;rintro w9 hw9;have hh_:=zm hw9;clear hw9;have hw9:=hh_;clear hh_))
    obtain ⟨hk9,hb9,_,_,_⟩:=hP.out.result _ rfl hw9.out
    clear hw9
    refine bodyPost_ret (results_ct rfl _ _ g2 42 _ (0,0) _ rfl hk9 Try.underlying42 rfl (by kernel_rfl)) rfl ?_
    exact ⟨_,_,_,rfl,Kd.R_nil _ _ _ _ _,Kd.R_nil _ _ _ _ _,Kd.R_nil _ _ _ _ _,hb9⟩
   subst he
   by_cases hs:((strOfNums own).toList == (strOfNums b).toList)=true
   rotate_left
   ·have hsb:((strOfNums own).toList == (strOfNums b).toList)=false:=by simpa using hs
    have H:=H.out
    rw [if_neg (fun h_=>hs h_.2)] at H
    simp only [Option.some.injEq,Prod.mk.injEq] at H
    obtain ⟨rfl,rfl,rfl,rfl,rfl,rfl,rfl,rfl⟩:=H
    clear hs
    go_wp2_with (first|((with_reducible refine Cw.guarded rfl ?gw ?_);(case gw=>first|rfl|(go_simp;done));dsimp only)|((with_reducible refine gate_dst (N:=121) rfl ?_);refine Kd.event_run rfl (ra_str rfl rfl (Kd.R_reads' hoo.out).2.2) ?_)|((with_reducible refine gate_dst (N:=123) rfl ?_);refine Kd.event_run rfl (ra_str rfl rfl (Kd.C_below hC2.out hP.out.below)) ?_)|((with_reducible refine gate_dst (N:=124) rfl ?_);refine Kd.event_run rfl (ra_strne (xs:=own) (ys:=b) rfl rfl rfl) ?_;rw [hsb];dsimp only [Bool.not_true,Bool.not_false])|((with_reducible refine gate_store (t:=42) (p:=2) rfl ?_);refine Cw.put_event rfl rfl rfl (mb_st42 rfl rfl rfl hP.out.h2) ?_;rintro w9 hw9;have hh_:=zm hw9;clear hw9;have hw9:=hh_;clear hh_))
    obtain ⟨hk9,hb9,_,_,_⟩:=hP.out.result _ rfl hw9.out
    clear hw9
    refine bodyPost_ret (results_ct rfl _ _ g2 42 _ (0,0) _ rfl hk9 Try.underlying42 rfl (by kernel_rfl)) rfl ?_
    exact ⟨_,_,_,rfl,Kd.R_nil _ _ _ _ _,Kd.R_nil _ _ _ _ _,Kd.R_nil _ _ _ _ _,hb9⟩
   have H:=H.out
   rw [if_pos ⟨by first|rfl|trivial,hs⟩] at H
   simp only [Option.some.injEq,Prod.mk.injEq] at H
   obtain ⟨rfl,rfl,rfl,rfl,rfl,rfl,rfl,rfl⟩:=H
   have hsb:=hs
   clear hs
   go_wp2_with (first|((with_reducible refine Cw.guarded rfl ?gw ?_);(case gw=>first|rfl|(go_simp;done));dsimp only)|((with_reducible refine gate_dst (N:=121) rfl ?_);refine Kd.event_run rfl (ra_str rfl rfl (Kd.R_reads' hoo.out).2.2) ?_)|((with_reducible refine gate_dst (N:=123) rfl ?_);refine Kd.event_run rfl (ra_str rfl rfl (Kd.C_below hC2.out hP.out.below)) ?_)|((with_reducible refine gate_dst (N:=124) rfl ?_);refine Kd.event_run rfl (ra_strne (xs:=own) (ys:=b) rfl rfl rfl) ?_;rw [hsb];dsimp only [Bool.not_true,Bool.not_false])|((with_reducible refine gate_ (.load 42 _) rfl ?_);refine Kd.event_run rfl (mb_ld42 rfl rfl hP.out.h5) ?_)|((with_reducible refine gate_store (t:=42) (p:=2) rfl ?_);refine Cw.put_event rfl rfl rfl (mb_st42 rfl rfl rfl hP.out.h2) ?_;rintro w9 hw9;have hh_:=zm hw9;clear hw9;have hw9:=hh_;clear hh_))
   obtain ⟨hk9,hb9,hB9,hW9,hR9⟩:=hP.out.result _ rfl hw9.out
   clear hw9
   refine bodyPost_ret (results_ct rfl _ _ g2 42 _ (0,0) _ rfl hk9 Try.underlying42 rfl (by kernel_rfl)) rfl ?_
   exact ⟨_,_,_,rfl,hB9,hW9,hR9,hb9⟩
end Go.Proofs.Ytkhbmgclklmimaa.Print
end
