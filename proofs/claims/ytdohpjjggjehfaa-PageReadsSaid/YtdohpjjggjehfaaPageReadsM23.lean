/- Texts of the proof of PageReads, part 23. -/
import Derived.Test.YtdohpjjggjehfaaPageReadsMA
import Derived.Test.YtdohpjjggjehfaaPageReadsM20
import Derived.Test.YtdohpjjggjehfaaPageReadsM22
import Derived.Test.YtdohpjjggjehfaaPageReadsM13
import Derived.Test.YtdohpjjggjehfaaPageReadsM21
import Derived.Test.YtdohpjjggjehfaaPageReadsM15
import Derived.RangeFuncNested
import Derived.RangeFuncBox
import Derived.RangeFuncLeaves
import Derived.Shelf.Abstract
import Derived.WalkKit
import Derived.OwnWalkIn
import Derived.TacticsInMore
import Derived.LoopNIn
import Derived.LoopIn
import Derived.Stop.RegionWithIn
import Derived.Maps.AppendAt
section
namespace Go.Proofs.Ytdohpjjggjehfaa.Print
open Go.RowKit Go.Proofs.YtdohpjjggjehfaaW.PrintWords Go.Proofs.YtdohpjjggjehfaaW.PrintLast Go.Proofs.YtdohpjjggjehfaaW.PrintMore
attribute [local go_sem] max2_int min2_int max_two min_two max_three min_three max_four min_four   -- for this text's walks alone
attribute [local go_sem ↓] Go.Proofs.Ytdohpjjggjehfaa.Sem.isSome_setCell
attribute [local go_sem] Go.Instr.field Go.asAgg
set_option linter.unusedVariables false
set_option linter.unusedSimpArgs false
-- CX
-- PG
theorem pg_str {o:Oper} {a:Act} {W:World} {x:Operand} {A:Option Addr} {n c:Nat} {xs:List Int} (hop:o.op=.convert 24 9 x) (hx:a.eval x=.slice A n c) (hC:(Kd.int .u8).C W A n xs):(execOp a.eval o).run Try.prog W=.ok (.value (.string (strOfNums xs))) W:=by
 have h:=Kd.C_string (P:=Try.prog) (c:=c) Try.underlying24 Try.underlying5 Try.underlying9 hC
 simp only [execOp,hop,hx]
 simp [h]
 done
theorem pg_strne {o:Oper} {a:Act} {W:World} {x y:Operand} {xs ys:List Int} (hop:o.op=.binOp .neq 9 x y 9) (hx:a.eval x=.string (strOfNums xs)) (hy:a.eval y=.string (strOfNums ys)):(execOp a.eval o).run Try.prog W=.ok (.value (.bool (!((strOfNums xs).toList == (strOfNums ys).toList)))) W:=by
 have hu:=Try.underlying9
 simp only [execOp,hop,hx,hy]
 go_simp
 done
theorem pg_head {o:Oper} {a:Act} {W:World} {x y:Operand} {A:Option Addr} {n c:Nat} {hi:Int} (hop:o.op=.slice 24 x none (some y) none) (hx:a.eval x=.slice A n c) (hy:a.eval y=.int .i64 hi) (h0:0≤hi) (h1:hi≤(c:Int)) :
  (execOp a.eval o).run Try.prog W=.ok (.value (.slice A hi.toNat c)) W:=by
 have hel:Try.prog.elem 24=5:=by simp [Program.elem,Try.underlying24]
 have hu:Try.prog.underlying 24=some (.slice (Try.prog.elem 24)):=by rw [hel];exact Try.underlying24
 generalize hE:a.eval=ev at hx hy ⊢
 simp only [execOp,hop,hx,hy,Option.map_some,Option.map_none]
 have h:=run_slice_h (P:=Try.prog) W 24 A n c hu .i64 hi h0 h1
 rw [hel] at h
 have hs:=(run_sliceAt_slice (P:=Try.prog) (w:=W) 24 (.slice A n c) none (some (.int .i64 hi)) none hu).trans h
 simp [hs,size5,sliced,Result.andThen]
 intro _
 cases A <;> simp [pg_add0]
theorem pr_C22 {W:World} {A:Option Addr} {xs:List Int} (h:(Kd.int .u8).C W A xs.length xs) (h1:22≤xs.length):(Kd.int .u8).C W A 22 (xs.take 22):=by
 have:=Kd.C_take (m:=22) h h1
 rw [List.length_take,Nat.min_eq_left h1] at this
 exact this
theorem pr_unpack (k:Nat) (A0:Option Addr) (c0:Nat) (l0:List Int) (A1:Option Addr) (c1 n1:Nat) (l1:List Int) (r1:List Int) (r2:Int) (w:World) (e1:l1.length=n1) (hr0:Kd.C (Kd.int .i64) w A0 l0.length l0) (hc0:l0.length≤c0) (hr1:Kd.C (Kd.int .u8) w A1 n1 l1) (hc1:n1≤c1) (h:slipwayref01_Unpack.f k l0 l1=some (r1,r2)) :
  Calls Try.prog 43 #[.slice A0 l0.length c0,.slice A1 n1 c1] w fun e w'=>∃ (A:Option Addr) (c:Nat),e=.returned (.tuple #[.slice A r1.length c,.int .i64 r2])∧r1.length≤c∧Kd.C (Kd.int .u64) w' A r1.length r1∧Below w.heap.size w w':=by
 subst e1
 refine (slipwayref01_Unpack.calls k A0 c0 l0 A1 c1 l1 r1 r2 w hr0 hc0 hr1 hc1 h).mono ?_
 rintro e w' ⟨v,rfl,ho,hb⟩
 obtain ⟨A,c,rfl,hl,hC⟩:=Kd.R_reads ho
 exact ⟨A,c,rfl,hl,hC,hb⟩
theorem pr_tail {W:World} {A:Option Addr} {xs:List Int} {c:Nat} (h:(Kd.int .u8).C W A xs.length xs) (h1:256≤xs.length) (hc:xs.length≤c) (hcc:¬ c=256):(Kd.int .u8).C W (A.map (fun z=>⟨z.block,z.off + 256,none⟩)) (xs.drop 256).length (xs.drop 256):=by
 have:=pg_Ctail (m:=256) rfl h h1 hc
 rw [if_neg hcc] at this
 have e:(fun z:Addr=>z.add 256)=(fun z:Addr=>(⟨z.block,z.off + 256,none⟩:Addr)):=funext fun z=>by
  unfold Addr.add
  rw [if_neg (by decide)]
 rw [e] at this
 exact this
def slipwayref03_Decode.j (k:Nat) (b l:List Int):Option (Int × Int × Int × Int × List Int × Int) :=
 (slipwayref03_Check.f (wrap64 (rd l 0)) (wrap64 (rd l 2)) (wrap64 (rd l 3)) (wrap64 (rd l 4))).bind fun c=>if c=0 then
 (slipwayref03_header.f k (wrap64 (rd l 0)) (wrap64 (rd l 2)) (wrap64 (rd l 3)) (wrap64 (rd l 4))).bind fun h=>if ((strOfNums h).toList == (strOfNums (b.drop 256)).toList)=true then some (wrap64 (rd l 0),wrap64 (rd l 2),wrap64 (rd l 3),wrap64 (rd l 4),b.take 256,0)
 else some (0,0,0,0,[],30)
 else some (0,0,0,0,[],30)
def slipwayref03_Decode.f (k:Nat) (p:List Int):Option (Int × Int × Int × Int × List Int × Int) :=
 if p.length=288 then
 (slipwayref01_Open.f k p).bind fun b=>if b.2=0 then if b.1.length=284 then
 (slipwayref01_Unpack.f k [8,8,32,64,64] ((b.1.drop 256).take 22)).bind fun l=>if l.1.length=5 then
 if rd l.1 3 > 1152921504606846976 then some (0,0,0,0,[],30) else if rd l.1 4 > 1152921504606846976 then some (0,0,0,0,[],30) else slipwayref03_Decode.j k b.1 l.1
 else none
 else none
 else some (0,0,0,0,[],b.2)
 else none
set_option maxHeartbeats 4000000 in
set_option maxRecDepth 100000 in
theorem slipwayref03_Decode.calls (k:Nat) (p:List Int) (r1:Int) (r2:Int) (r3:Int) (r4:Int) (r5:List Int) (r6:Int) (w:World) (h:slipwayref03_Decode.f k p=some (r1,r2,r3,r4,r5,r6)) :
  Calls Try.prog 19 #[.agg (pc p)] w fun e w'=>∃ (A:Option Addr) (c:Nat),e=.returned (.tuple #[.agg #[.int .i64 r1,.int .i64 r2,.int .i64 r3,.int .i64 r4],.slice A r5.length c,.int .i64 r6])∧r5.length≤c∧Kd.C (Kd.int .u8) w' A r5.length r5∧Below w.heap.size w w':=by
 have hu29:=Try.underlying29
 have hu23:=Try.underlying23
 have H:slipwayref03_Decode.f k p=some (r1,r2,r3,r4,r5,r6):=h
 clear h
 unfold slipwayref03_Decode.f at H
 have hg_:=Cw.gt_ H;clear H;obtain ⟨hp,H⟩:=hg_
 have hg_:=Option.bind_eq_some_iff.mp H;clear H;obtain ⟨⟨b,ec⟩,F0,H⟩:=hg_;have hh_:=zm F0;clear F0;have F0:=hh_;clear hh_;(try dsimp only at H)
 have hh_:=zm hp;clear hp;have hp:=hh_;clear hh_
 by_cases hz:ec=0
 rotate_left
 ·rw [if_neg hz] at H
  simp only [Option.some.injEq,Prod.mk.injEq] at H
  obtain ⟨rfl,rfl,rfl,rfl,rfl,rfl⟩:=H
  have hz0:(ec != 0)=true:=bne_iff_ne.mpr hz
  clear hz
  go_enter Try.func19,Try.ntmps19
  go_wp2_with (first|((with_reducible refine gate_ (.box 29 _) rfl ?_);refine box_event rfl rfl (pg_box rfl rfl) ?_;rintro g1 hg w1 hbk hb;skip;clear hg;have hh_:=zm hbk;clear hbk;have hbk:=hh_;clear hh_;have hh_:=zm hb;clear hb;have hb:=hh_;clear hh_)|((with_reducible refine gate_ (.alloc 23) rfl ?_);refine box_event rfl rfl (pg_new23 rfl) ?_;rintro g2 hg w1 hbk hb;have hge2:Aside0 (w.heap.size≤g2):=⟨by rw [hg];exact below_size (by repeat (first|exact Below.refl _ _|with_reducible apply zlN|with_reducible apply zlA|refine below_step ?_ (Aside0.out (by assumption))))⟩;clear hg;have hh_:=zm hbk;clear hbk;have hbk:=hh_;clear hh_;have hh_:=zm hb;clear hb;have hb:=hh_;clear hh_)|((with_reducible refine gate_ (.load 29 _) rfl ?_);refine Kd.event_run rfl (pg_load rfl rfl (zbB (Aside0.out (by assumption)) (by repeat (first|exact Below.refl _ _|with_reducible apply zlN|with_reducible apply zlA|refine below_step ?_ (Aside0.out (by assumption))))) hp.out) ?_)|(go_at_call 42;refine (slipwayref03_Bytes.calls p p _ (if_pos hp.out)).mono ?_;rintro e w1 ⟨vb,rfl,ho,hb⟩;obtain ⟨Ap,cp,rfl⟩:=Kd.R_slice ho;have hrp:=zm (Kd.R_reads' ho).2.2;have hcp:=zm (Kd.R_reads' ho).2.1;clear ho;have hh_:=zm hb;clear hb;have hb:=hh_;clear hh_)|(go_at_call 41;refine (slipwayref01_Open.calls k Ap cp p b _ _ (Kd.C_below (Aside0.out (by assumption)) (by repeat (first|exact Below.refl _ _|with_reducible apply zlN|with_reducible apply zlA|refine below_step ?_ (Aside0.out (by assumption))))) hcp.out F0.out).mono ?_;rintro e w1 ⟨vb,rfl,ho,hb⟩;obtain ⟨Ab,cbb,rfl⟩:=Kd.R_slice ho;have hrb:=zm (Kd.R_reads' ho).2.2;have hcb:=zm (Kd.R_reads' ho).2.1;have hh_:=zm ho;clear ho;have ho:=hh_;clear hh_;have hh_:=zm hb;clear hb;have hb:=hh_;clear hh_)|((with_reducible refine gate_ (.store 23 (.tmp 2) _) rfl ?_);refine Cw.put_event (g:=g2) (ys:=[.int .i64 0,.int .i64 0,.int .i64 0,.int .i64 0]) rfl rfl rfl (by apply pg_st23;exact rfl;exact rfl;exact rfl;exact (zbB (Aside0.out (by assumption)) (by repeat (first|exact Below.refl _ _|with_reducible apply zlN|with_reducible apply zlA|refine below_step ?_ (Aside0.out (by assumption)))))) ?_;rintro w2 hw2;have hb2:Aside0 (Below w.heap.size w w2):=⟨by rw [hw2];exact Cw.setL_below hge2.out _ _ _ (by repeat (first|exact Below.refl _ _|with_reducible apply zlN|with_reducible apply zlA|refine below_step ?_ (Aside0.out (by assumption))))⟩;have hzz:Aside0 (w2.heap[g2]?=some (.cells #[.int .i64 0,.int .i64 0,.int .i64 0,.int .i64 0] 23 (0,0))):=⟨by rw [hw2];exact Cw.setL_full [.int .i64 0,.int .i64 0,.int .i64 0,.int .i64 0] (show _=some (Obj.cells #[.int .i64 0,.int .i64 0,.int .i64 0,.int .i64 0] 23 (0,0)) from (zbB (Aside0.out (by assumption)) (by repeat (first|exact Below.refl _ _|with_reducible apply zlN|with_reducible apply zlA|refine below_step ?_ (Aside0.out (by assumption)))))) rfl⟩;clear hw2))
  refine bodyPost_ret (results_ctt rfl _ _ g2 23 #[.int .i64 0,.int .i64 0,.int .i64 0,.int .i64 0] (0,0) _ rfl hzz.out Try.underlying23 rfl (by kernel_rfl)) rfl ?_
  exact ⟨none,0,rfl,Nat.le_refl _,(Kd.R_reads' (Kd.R_nil (Kd.int .u8) 5 _ 0 (fun _=>True))).2.2,hb2.out⟩
 subst hz
 rw [if_pos rfl] at H
 have hg_:=Cw.gt_ H;clear H;obtain ⟨h284,H⟩:=hg_;have hg_:=Option.bind_eq_some_iff.mp H;clear H;obtain ⟨⟨l1,le⟩,F1,H⟩:=hg_;have hh_:=zm F1;clear F1;have F1:=hh_;clear hh_;(try dsimp only at H);have hg_:=Cw.gt_ H;clear H;obtain ⟨hl5,H⟩:=hg_
 have hh_:=zm H;clear H;have H:=hh_;clear hh_;have hh_:=zm hl5;clear hl5;have hl5:=hh_;clear hh_;have hh_:=zm h284;clear h284;have h284:=hh_;clear hh_
 go_enter Try.func19,Try.ntmps19
 go_wp2_with (first|((with_reducible refine gate_ (.box 29 _) rfl ?_);refine box_event rfl rfl (pg_box rfl rfl) ?_;rintro g1 hg w1 hbk hb;skip;clear hg;have hh_:=zm hbk;clear hbk;have hbk:=hh_;clear hh_;have hh_:=zm hb;clear hb;have hb:=hh_;clear hh_)|((with_reducible refine gate_ (.alloc 23) rfl ?_);refine box_event rfl rfl (pg_new23 rfl) ?_;rintro g2 hg w1 hbk hb;have hge2:Aside0 (w.heap.size≤g2):=⟨by rw [hg];exact below_size (by repeat (first|exact Below.refl _ _|with_reducible apply zlN|with_reducible apply zlA|refine below_step ?_ (Aside0.out (by assumption))))⟩;clear hg;have hh_:=zm hbk;clear hbk;have hbk:=hh_;clear hh_;have hh_:=zm hb;clear hb;have hb:=hh_;clear hh_)|((with_reducible refine gate_ (.load 29 _) rfl ?_);refine Kd.event_run rfl (pg_load rfl rfl (zbB (Aside0.out (by assumption)) (by repeat (first|exact Below.refl _ _|with_reducible apply zlN|with_reducible apply zlA|refine below_step ?_ (Aside0.out (by assumption))))) hp.out) ?_)|(go_at_call 42;refine (slipwayref03_Bytes.calls p p _ (if_pos hp.out)).mono ?_;rintro e w1 ⟨vb,rfl,ho,hb⟩;obtain ⟨Ap,cp,rfl⟩:=Kd.R_slice ho;have hrp:=zm (Kd.R_reads' ho).2.2;have hcp:=zm (Kd.R_reads' ho).2.1;clear ho;have hh_:=zm hb;clear hb;have hb:=hh_;clear hh_)|(go_at_call 41;refine (slipwayref01_Open.calls k Ap cp p b _ _ (Kd.C_below (Aside0.out (by assumption)) (by repeat (first|exact Below.refl _ _|with_reducible apply zlN|with_reducible apply zlA|refine below_step ?_ (Aside0.out (by assumption))))) hcp.out F0.out).mono ?_;rintro e w1 ⟨vb,rfl,ho,hb⟩;obtain ⟨Ab,cbb,rfl⟩:=Kd.R_slice ho;have hrb:=zm (Kd.R_reads' ho).2.2;have hcb:=zm (Kd.R_reads' ho).2.1;have hcc:¬ cbb=256:=(by have:=h284.out;have:=hcb.out;omega);have hh_:=zm ho;clear ho;have ho:=hh_;clear hh_;have hh_:=zm hb;clear hb;have hb:=hh_;clear hh_)|((with_reducible refine gate_dst (N:=22) rfl ?_);refine Kd.event_run rfl (pg_tail (m:=256) rfl rfl rfl rfl (by rw [h284.out];decide) hcb.out) ?_)|((with_reducible refine gate_dst (N:=24) rfl ?_);refine pg_made (fun g=>.slice (some ⟨g,0,none⟩) 5 5) rfl (cs:=#[.int .i64 8,.int .i64 8,.int .i64 32,.int .i64 64,.int .i64 64]) (t:=3) (by first|(go_simp;done)|(go_simp;rfl)) ?_;rintro gw hg w1 hbk hb;clear hg;have hh_:=zm hbk;clear hbk;have hbk:=hh_;clear hh_;have hh_:=zm hb;clear hb;have hb:=hh_;clear hh_)|((with_reducible refine gate_dst (N:=26) rfl ?_);refine Kd.event_run rfl (pg_head rfl rfl rfl (by decide) (by have:=h284.out;have:=hcb.out;omega)) ?_))
 refine (pr_unpack k (some ⟨gw,0,none⟩) 5 [8,8,32,64,64] _ _ 22 ((b.drop 256).take 22) l1 le _ (by rw [List.length_take,List.length_drop,h284.out];rfl) (Cw.C_ints (zbB (Aside0.out (by assumption)) (by repeat (first|exact Below.refl _ _|with_reducible apply zlN|with_reducible apply zlA|refine below_step ?_ (Aside0.out (by assumption))))) rfl (by simp)) (by decide) (pr_C22 (pr_tail (Kd.C_below (Aside0.out (by assumption)) (by repeat (first|exact Below.refl _ _|with_reducible apply zlN|with_reducible apply zlA|refine below_step ?_ (Aside0.out (by assumption))))) (by rw [h284.out];decide) hcb.out hcc) (by rw [List.length_drop,h284.out];decide)) (by have:=h284.out;have:=hcb.out;omega) F1.out).mono ?_
 rintro e w1 ⟨A1,c1,rfl,hc1,hr1,hb⟩
 obtain ⟨ad1,rfl,_⟩:=hr1.2.2 (by rw [hl5.out];omega)
 rw [hl5.out] at hr1 hc1 ⊢
 have hh_:=zm hc1;clear hc1;have hc1:=hh_;clear hh_;have hh_:=zm hr1;clear hr1;have hr1:=hh_;clear hh_;have hh_:=zm hb;clear hb;have hb:=hh_;clear hh_
 replace H:=H.out
 have q5:=hl5.out
 by_cases q3:rd l1 3 > 1152921504606846976
 ·rw [if_pos q3] at H
  simp only [Option.some.injEq,Prod.mk.injEq] at H
  obtain ⟨rfl,rfl,rfl,rfl,rfl,rfl⟩:=H
  have q3b:decide (1152921504606846976 < rd l1 3)=true:=decide_eq_true q3
  clear q3
  go_wp2_with (first|((with_reducible refine gate_ (.load 58 _) rfl ?_);refine Kd.event_run rfl (by apply pg_u64;exact rfl;exact rfl;exact (Kd.C_below (Aside0.out (by assumption)) (by repeat (first|exact Below.refl _ _|with_reducible apply zlN|with_reducible apply zlA|refine below_step ?_ (Aside0.out (by assumption)))));omega;omega) ?_)|((with_reducible refine Cw.guarded rfl ?gw ?_);(case gw=>first|rfl|(go_simp;done));dsimp only)|((with_reducible refine gate_ (.store 23 (.tmp 2) _) rfl ?_);refine Cw.put_event (g:=g2) (ys:=[.int .i64 0,.int .i64 0,.int .i64 0,.int .i64 0]) rfl rfl rfl (by apply pg_st23;exact rfl;exact rfl;exact rfl;exact (zbB (Aside0.out (by assumption)) (by repeat (first|exact Below.refl _ _|with_reducible apply zlN|with_reducible apply zlA|refine below_step ?_ (Aside0.out (by assumption)))))) ?_;rintro w2 hw2;have hb2:Aside0 (Below w.heap.size w w2):=⟨by rw [hw2];exact Cw.setL_below hge2.out _ _ _ (by repeat (first|exact Below.refl _ _|with_reducible apply zlN|with_reducible apply zlA|refine below_step ?_ (Aside0.out (by assumption))))⟩;have hzz:Aside0 (w2.heap[g2]?=some (.cells #[.int .i64 0,.int .i64 0,.int .i64 0,.int .i64 0] 23 (0,0))):=⟨by rw [hw2];exact Cw.setL_full [.int .i64 0,.int .i64 0,.int .i64 0,.int .i64 0] (show _=some (Obj.cells #[.int .i64 0,.int .i64 0,.int .i64 0,.int .i64 0] 23 (0,0)) from (zbB (Aside0.out (by assumption)) (by repeat (first|exact Below.refl _ _|with_reducible apply zlN|with_reducible apply zlA|refine below_step ?_ (Aside0.out (by assumption)))))) rfl⟩;clear hw2))
  refine bodyPost_ret (results_ctt rfl _ _ g2 23 #[.int .i64 0,.int .i64 0,.int .i64 0,.int .i64 0] (0,0) _ rfl hzz.out Try.underlying23 rfl (by kernel_rfl)) rfl ?_
  exact ⟨none,0,rfl,Nat.le_refl _,(Kd.R_reads' (Kd.R_nil (Kd.int .u8) 5 _ 0 (fun _=>True))).2.2,hb2.out⟩
 rw [if_neg q3] at H
 have q3b:decide (1152921504606846976 < rd l1 3)=false:=decide_eq_false q3
 clear q3
 by_cases q4:rd l1 4 > 1152921504606846976
 ·rw [if_pos q4] at H
  simp only [Option.some.injEq,Prod.mk.injEq] at H
  obtain ⟨rfl,rfl,rfl,rfl,rfl,rfl⟩:=H
  have q4b:decide (1152921504606846976 < rd l1 4)=true:=decide_eq_true q4
  clear q4
  go_wp2_with (first|((with_reducible refine gate_ (.load 58 _) rfl ?_);refine Kd.event_run rfl (by apply pg_u64;exact rfl;exact rfl;exact (Kd.C_below (Aside0.out (by assumption)) (by repeat (first|exact Below.refl _ _|with_reducible apply zlN|with_reducible apply zlA|refine below_step ?_ (Aside0.out (by assumption)))));omega;omega) ?_)|((with_reducible refine Cw.guarded rfl ?gw ?_);(case gw=>first|rfl|(go_simp;done));dsimp only)|((with_reducible refine gate_ (.store 23 (.tmp 2) _) rfl ?_);refine Cw.put_event (g:=g2) (ys:=[.int .i64 0,.int .i64 0,.int .i64 0,.int .i64 0]) rfl rfl rfl (by apply pg_st23;exact rfl;exact rfl;exact rfl;exact (zbB (Aside0.out (by assumption)) (by repeat (first|exact Below.refl _ _|with_reducible apply zlN|with_reducible apply zlA|refine below_step ?_ (Aside0.out (by assumption)))))) ?_;rintro w2 hw2;have hb2:Aside0 (Below w.heap.size w w2):=⟨by rw [hw2];exact Cw.setL_below hge2.out _ _ _ (by repeat (first|exact Below.refl _ _|with_reducible apply zlN|with_reducible apply zlA|refine below_step ?_ (Aside0.out (by assumption))))⟩;have hzz:Aside0 (w2.heap[g2]?=some (.cells #[.int .i64 0,.int .i64 0,.int .i64 0,.int .i64 0] 23 (0,0))):=⟨by rw [hw2];exact Cw.setL_full [.int .i64 0,.int .i64 0,.int .i64 0,.int .i64 0] (show _=some (Obj.cells #[.int .i64 0,.int .i64 0,.int .i64 0,.int .i64 0] 23 (0,0)) from (zbB (Aside0.out (by assumption)) (by repeat (first|exact Below.refl _ _|with_reducible apply zlN|with_reducible apply zlA|refine below_step ?_ (Aside0.out (by assumption)))))) rfl⟩;clear hw2))
  refine bodyPost_ret (results_ctt rfl _ _ g2 23 #[.int .i64 0,.int .i64 0,.int .i64 0,.int .i64 0] (0,0) _ rfl hzz.out Try.underlying23 rfl (by kernel_rfl)) rfl ?_
  exact ⟨none,0,rfl,Nat.le_refl _,(Kd.R_reads' (Kd.R_nil (Kd.int .u8) 5 _ 0 (fun _=>True))).2.2,hb2.out⟩
 rw [if_neg q4] at H
 have q4b:decide (1152921504606846976 < rd l1 4)=false:=decide_eq_false q4
 clear q4
 unfold slipwayref03_Decode.j at H
 have hg_:=Option.bind_eq_some_iff.mp H;clear H;obtain ⟨cc,F2,H⟩:=hg_;have hh_:=zm F2;clear F2;have F2:=hh_;clear hh_;(try dsimp only at H)
 have hh_:=zm H;clear H;have H:=hh_;clear hh_;have hh_:=zm q5;clear q5;have q5:=hh_;clear hh_
 go_wp2_with (first|((with_reducible refine gate_ (.load 58 _) rfl ?_);refine Kd.event_run rfl (by apply pg_u64;exact rfl;exact rfl;exact (Kd.C_below (Aside0.out (by assumption)) (by repeat (first|exact Below.refl _ _|with_reducible apply zlN|with_reducible apply zlA|refine below_step ?_ (Aside0.out (by assumption)))));(have:=hl5.out;omega);omega) ?_)|((with_reducible refine Cw.guarded rfl ?gw ?_);(case gw=>first|rfl|(go_simp;done));dsimp only))
 refine Cw.dstart (by as_aux_lemma=>kernel_rfl) rfl (fun wd hb=>?_)
 have hh_:=zm hb;clear hb;have hb:=hh_;clear hh_
 have q5:=hl5.out
 refine zpu 0 ?_
 refine zpu 1 ?_
 refine Cw.dtk (i:=2) (v:=?_) (a':=?_) (by simp only [List.getElem?_toArray,List.getElem?_cons_succ,List.getElem?_cons_zero];rfl) rfl (by as_aux_lemma=>kernel_rfl) (by rfl) (by exact fun _ _ _ h=>h) ?_ (by repeat (first|exact Below.refl _ _|with_reducible apply zlN|with_reducible apply zlA|refine below_step ?_ (Aside0.out (by assumption)))) ?_ ?_
 rotate_left
 ·intro w' hs_
  have hs:=zm hs_
  clear hs_
  apply Eq.trans
  ·apply pg_u64z
   ·rfl
   ·rfl
   ·exact (Kd.C_below (Aside0.out (by assumption)) (by repeat (first|exact Below.refl _ _|with_reducible apply zlN|with_reducible apply zlA|refine below_step ?_ (Aside0.out (by assumption)))))
   ·omega
  ·rfl
 rotate_left
 ·simp only [Act.put,List.setIfInBounds_toArray,List.set_cons_zero,List.set_cons_succ,i64_w,i32_w]
  rfl
 refine zpu 3 ?_
 refine zpu 4 ?_
 refine zpu 5 ?_
 refine Cw.dtk (i:=6) (v:=?_) (a':=?_) (by simp only [List.getElem?_toArray,List.getElem?_cons_succ,List.getElem?_cons_zero];rfl) rfl (by as_aux_lemma=>kernel_rfl) (by rfl) (by exact fun _ _ _ h=>h) ?_ (by repeat (first|exact Below.refl _ _|with_reducible apply zlN|with_reducible apply zlA|refine below_step ?_ (Aside0.out (by assumption)))) ?_ ?_
 rotate_left
 ·intro w' hs_
  have hs:=zm hs_
  clear hs_
  apply Eq.trans
  ·apply pg_u64
   ·rfl
   ·rfl
   ·exact (Kd.C_below (Aside0.out (by assumption)) (by repeat (first|exact Below.refl _ _|with_reducible apply zlN|with_reducible apply zlA|refine below_step ?_ (Aside0.out (by assumption)))))
   ·omega
   ·omega
  ·rfl
 rotate_left
 ·simp only [Act.put,List.setIfInBounds_toArray,List.set_cons_zero,List.set_cons_succ,i64_w,i32_w]
  rfl
 refine zpu 7 ?_
 refine zpu 8 ?_
 refine zpu 9 ?_
 refine Cw.dtk (i:=10) (v:=?_) (a':=?_) (by simp only [List.getElem?_toArray,List.getElem?_cons_succ,List.getElem?_cons_zero];rfl) rfl (by as_aux_lemma=>kernel_rfl) (by rfl) (by exact fun _ _ _ h=>h) ?_ (by repeat (first|exact Below.refl _ _|with_reducible apply zlN|with_reducible apply zlA|refine below_step ?_ (Aside0.out (by assumption)))) ?_ ?_
 rotate_left
 ·intro w' hs_
  have hs:=zm hs_
  clear hs_
  apply Eq.trans
  ·apply pg_u64
   ·rfl
   ·rfl
   ·exact (Kd.C_below (Aside0.out (by assumption)) (by repeat (first|exact Below.refl _ _|with_reducible apply zlN|with_reducible apply zlA|refine below_step ?_ (Aside0.out (by assumption)))))
   ·omega
   ·omega
  ·rfl
 rotate_left
 ·simp only [Act.put,List.setIfInBounds_toArray,List.set_cons_zero,List.set_cons_succ,i64_w,i32_w]
  rfl
 refine zpu 11 ?_
 refine zpu 12 ?_
 refine zpu 13 ?_
 refine Cw.dtk (i:=14) (v:=?_) (a':=?_) (by simp only [List.getElem?_toArray,List.getElem?_cons_succ,List.getElem?_cons_zero];rfl) rfl (by as_aux_lemma=>kernel_rfl) (by rfl) (by exact fun _ _ _ h=>h) ?_ (by repeat (first|exact Below.refl _ _|with_reducible apply zlN|with_reducible apply zlA|refine below_step ?_ (Aside0.out (by assumption)))) ?_ ?_
 rotate_left
 ·intro w' hs_
  have hs:=zm hs_
  clear hs_
  apply Eq.trans
  ·apply pg_u64
   ·rfl
   ·rfl
   ·exact (Kd.C_below (Aside0.out (by assumption)) (by repeat (first|exact Below.refl _ _|with_reducible apply zlN|with_reducible apply zlA|refine below_step ?_ (Aside0.out (by assumption)))))
   ·omega
   ·omega
  ·rfl
 rotate_left
 ·simp only [Act.put,List.setIfInBounds_toArray,List.set_cons_zero,List.set_cons_succ,i64_w,i32_w]
  rfl
 refine zpu 15 ?_
 refine zpu 16 ?_
 refine Cw.done1 (i:=17) (N:=some 10) (by simp only [List.getElem?_toArray,List.getElem?_cons_succ,List.getElem?_cons_zero];rfl) rfl (by as_aux_lemma=>kernel_rfl) (fun K hK=>?_)
 refine Cw.dnew (fun g=>.pointer (some ⟨g,0,none⟩)) (by rfl) rfl (by apply pg_new23;rfl) ?_
 rintro gx hg w1 hbk hb
 have hge:Aside0 (wd.heap.size≤gx):=⟨Nat.le_trans (below_size (by repeat (first|exact Below.refl _ _|with_reducible apply zlN|with_reducible apply zlA|refine below_step ?_ (Aside0.out (by assumption))))) (Nat.le_of_eq hg.symm)⟩
 clear hg
 have hh_:=zm hbk;clear hbk;have hbk:=hh_;clear hh_;have hh_:=zm hb;clear hb;have hb:=hh_;clear hh_
 refine hK.out _ _ (by repeat (first|exact Below.refl _ _|with_reducible apply zlN|with_reducible apply zlA|refine below_step ?_ (Aside0.out (by assumption)))) (fun _=>?_)
 clear hK K
 refine znm (some 10) ?_
 refine Cw.done1 (i:=18) (N:=none) (by simp only [List.getElem?_toArray,List.getElem?_cons_succ,List.getElem?_cons_zero];rfl) rfl (by as_aux_lemma=>kernel_rfl) (fun K hK=>?_)
 refine Cw.dput (g:=gx) (ys:=[.int .i64 (wrap64 (rd l1 0)),.int .i64 (wrap64 (rd l1 2)),.int .i64 (wrap64 (rd l1 3)),.int .i64 (wrap64 (rd l1 4))]) (by rfl) rfl ?_ ?_
 ·apply pg_st23
  ·rfl
  ·rfl
  ·rfl
  ·exact (zbB (Aside0.out (by assumption)) (by repeat (first|exact Below.refl _ _|with_reducible apply zlN|with_reducible apply zlA|refine below_step ?_ (Aside0.out (by assumption)))))
 rintro wx hwx
 have hb2:Aside0 (Below wd.heap.size wd wx):=⟨by rw [hwx];exact Cw.setL_below hge.out _ _ _ (by repeat (first|exact Below.refl _ _|with_reducible apply zlN|with_reducible apply zlA|refine below_step ?_ (Aside0.out (by assumption))))⟩
 have hbx:Aside0 (wx.heap[gx]?=some (.cells #[.int .i64 (wrap64 (rd l1 0)),.int .i64 (wrap64 (rd l1 2)),.int .i64 (wrap64 (rd l1 3)),.int .i64 (wrap64 (rd l1 4))] 23 (0,0))):=⟨by rw [hwx];exact Cw.setL_full [.int .i64 (wrap64 (rd l1 0)),.int .i64 (wrap64 (rd l1 2)),.int .i64 (wrap64 (rd l1 3)),.int .i64 (wrap64 (rd l1 4))] (show _=some (Obj.cells #[.int .i64 0,.int .i64 0,.int .i64 0,.int .i64 0] 23 (0,0)) from (zbB (Aside0.out (by assumption)) (by repeat (first|exact Below.refl _ _|with_reducible apply zlN|with_reducible apply zlA|refine below_step ?_ (Aside0.out (by assumption)))))) rfl⟩
 clear hwx
 refine hK.out _ _ hb2.out (fun _=>?_)
 clear hK K
 refine zdo ?_
 replace H:=H.out
 have hCx:Aside0 (Kd.C (Kd.int .u8) wx (Ab.map (fun z=>⟨z.block,z.off + 256,none⟩)) (b.length - 256) (b.drop 256)):=⟨by have:=pr_tail (W:=wx) (c:=cbb) (Kd.C_below (Aside0.out (by assumption)) (by repeat (first|exact Below.refl _ _|with_reducible apply zlN|with_reducible apply zlA|refine below_step ?_ (Aside0.out (by assumption))))) (by rw [h284.out];decide) hcb.out hcc;rw [List.length_drop] at this;exact this⟩
 by_cases hz:cc=0
 rotate_left
 ·rw [if_neg hz] at H
  simp only [Option.some.injEq,Prod.mk.injEq] at H
  obtain ⟨rfl,rfl,rfl,rfl,rfl,rfl⟩:=H
  have hz0:(cc != 0)=true:=bne_iff_ne.mpr hz
  clear hz
  go_wp2_with fail
  refine Cw.dstart (by as_aux_lemma=>kernel_rfl) rfl (fun we hb=>?_)
  have hh_:=zm hb;clear hb;have hb:=hh_;clear hh_
  refine Cw.dtk (i:=0) (v:=?_) (a':=?_) (by simp only [List.getElem?_toArray,List.getElem?_cons_succ,List.getElem?_cons_zero];rfl) rfl (by as_aux_lemma=>kernel_rfl) (by rfl) (by exact fun _ _ _ h=>h) ?_ (by repeat (first|exact Below.refl _ _|with_reducible apply zlN|with_reducible apply zlA|refine below_step ?_ (Aside0.out (by assumption)))) ?_ ?_
  rotate_left
  ·intro w' hs_
   have hs:=zm hs_
   clear hs_
   apply Eq.trans
   ·apply pg_h23
    ·rfl
    ·rfl
    ·exact (zbB (Aside0.out (by assumption)) (by repeat (first|exact Below.refl _ _|with_reducible apply zlN|with_reducible apply zlA|refine below_step ?_ (Aside0.out (by assumption)))))
   ·rfl
  rotate_left
  ·simp only [Act.put,List.setIfInBounds_toArray,List.set_cons_zero,List.set_cons_succ,i64_w,i32_w]
   rfl
  refine Cw.done1 (i:=1) (N:=some 59) (by simp only [List.getElem?_toArray,List.getElem?_cons_succ,List.getElem?_cons_zero];rfl) rfl (by as_aux_lemma=>kernel_rfl) (fun K hK=>?_)
  refine goes_ Try.func13 (by as_aux_lemma=>kernel_rfl) rfl _ (by rfl) rfl rfl (by go_simp;rfl) ?_
  refine (slipwayref03_Check.calls _ _ _ _ _ _ F2.out).mono ?_
  rintro e w1 ⟨rfl,hb⟩
  have hh_:=zm hb;clear hb;have hb:=hh_;clear hh_
  refine ⟨_,rfl,?_⟩
  refine hK.out _ _ (by repeat (first|exact Below.refl _ _|with_reducible apply zlN|with_reducible apply zlA|refine below_step ?_ (Aside0.out (by assumption)))) (fun _=>?_)
  clear hK K
  refine znm (some 59) ?_
  refine zpu 2 ?_
  refine zpu 3 ?_
  refine zpn 4 ?_
  refine zpn 5 ?_
  refine zpn 6 ?_
  refine zpn 7 ?_
  refine zpn 8 ?_
  refine zpn 9 ?_
  refine zpu 10 ?_
  refine zdo ?_
  go_wp2_with (first|((with_reducible refine gate_ (.store 23 (.tmp 2) _) rfl ?_);refine Cw.put_event (g:=g2) (ys:=[.int .i64 0,.int .i64 0,.int .i64 0,.int .i64 0]) rfl rfl rfl (by apply pg_st23;exact rfl;exact rfl;exact rfl;exact (zbB (Aside0.out (by assumption)) (by repeat (first|exact Below.refl _ _|with_reducible apply zlN|with_reducible apply zlA|refine below_step ?_ (Aside0.out (by assumption)))))) ?_;rintro w2 hw2;have hb2:Aside0 (Below w.heap.size w w2):=⟨by rw [hw2];exact Cw.setL_below hge2.out _ _ _ (by repeat (first|exact Below.refl _ _|with_reducible apply zlN|with_reducible apply zlA|refine below_step ?_ (Aside0.out (by assumption))))⟩;have hzz:Aside0 (w2.heap[g2]?=some (.cells #[.int .i64 0,.int .i64 0,.int .i64 0,.int .i64 0] 23 (0,0))):=⟨by rw [hw2];exact Cw.setL_full [.int .i64 0,.int .i64 0,.int .i64 0,.int .i64 0] (show _=some (Obj.cells #[.int .i64 0,.int .i64 0,.int .i64 0,.int .i64 0] 23 (0,0)) from (zbB (Aside0.out (by assumption)) (by repeat (first|exact Below.refl _ _|with_reducible apply zlN|with_reducible apply zlA|refine below_step ?_ (Aside0.out (by assumption)))))) rfl⟩;clear hw2))
  refine bodyPost_ret (results_ctt rfl _ _ g2 23 #[.int .i64 0,.int .i64 0,.int .i64 0,.int .i64 0] (0,0) _ rfl hzz.out Try.underlying23 rfl (by kernel_rfl)) rfl ?_
  exact ⟨none,0,rfl,Nat.le_refl _,(Kd.R_reads' (Kd.R_nil (Kd.int .u8) 5 _ 0 (fun _=>True))).2.2,hb2.out⟩
 subst hz
 rw [if_pos rfl] at H
 have hg_:=Option.bind_eq_some_iff.mp H;clear H;obtain ⟨hd,F3,H⟩:=hg_;have hh_:=zm F3;clear F3;have F3:=hh_;clear hh_;(try dsimp only at H)
 by_cases he:((strOfNums hd).toList == (strOfNums (b.drop 256)).toList)=true
 rotate_left
 ·rw [if_neg he] at H
  simp only [Option.some.injEq,Prod.mk.injEq] at H
  obtain ⟨rfl,rfl,rfl,rfl,rfl,rfl⟩:=H
  have heb:((strOfNums hd).toList == (strOfNums (b.drop 256)).toList)=false:=by simpa using he
  clear he
  go_wp2_with fail
  refine Cw.dstart (by as_aux_lemma=>kernel_rfl) rfl (fun we hb=>?_)
  have hh_:=zm hb;clear hb;have hb:=hh_;clear hh_
  refine Cw.dtk (i:=0) (v:=?_) (a':=?_) (by simp only [List.getElem?_toArray,List.getElem?_cons_succ,List.getElem?_cons_zero];rfl) rfl (by as_aux_lemma=>kernel_rfl) (by rfl) (by exact fun _ _ _ h=>h) ?_ (by repeat (first|exact Below.refl _ _|with_reducible apply zlN|with_reducible apply zlA|refine below_step ?_ (Aside0.out (by assumption)))) ?_ ?_
  rotate_left
  ·intro w' hs_
   have hs:=zm hs_
   clear hs_
   apply Eq.trans
   ·apply pg_h23
    ·rfl
    ·rfl
    ·exact (zbB (Aside0.out (by assumption)) (by repeat (first|exact Below.refl _ _|with_reducible apply zlN|with_reducible apply zlA|refine below_step ?_ (Aside0.out (by assumption)))))
   ·rfl
  rotate_left
  ·simp only [Act.put,List.setIfInBounds_toArray,List.set_cons_zero,List.set_cons_succ,i64_w,i32_w]
   rfl
  refine Cw.done1 (i:=1) (N:=some 59) (by simp only [List.getElem?_toArray,List.getElem?_cons_succ,List.getElem?_cons_zero];rfl) rfl (by as_aux_lemma=>kernel_rfl) (fun K hK=>?_)
  refine goes_ Try.func13 (by as_aux_lemma=>kernel_rfl) rfl _ (by rfl) rfl rfl (by go_simp;rfl) ?_
  refine (slipwayref03_Check.calls _ _ _ _ _ _ F2.out).mono ?_
  rintro e w1 ⟨rfl,hb⟩
  have hh_:=zm hb;clear hb;have hb:=hh_;clear hh_
  refine ⟨_,rfl,?_⟩
  refine hK.out _ _ (by repeat (first|exact Below.refl _ _|with_reducible apply zlN|with_reducible apply zlA|refine below_step ?_ (Aside0.out (by assumption)))) (fun _=>?_)
  clear hK K
  refine znm (some 59) ?_
  refine zpu 2 ?_
  refine zpu 3 ?_
  refine Cw.dtk (i:=4) (v:=?_) (a':=?_) (by simp only [List.getElem?_toArray,List.getElem?_cons_succ,List.getElem?_cons_zero];rfl) rfl (by as_aux_lemma=>kernel_rfl) (by rfl) (by exact fun _ _ _ h=>h) ?_ (by repeat (first|exact Below.refl _ _|with_reducible apply zlN|with_reducible apply zlA|refine below_step ?_ (Aside0.out (by assumption)))) ?_ ?_
  rotate_left
  ·intro w' hs_
   have hs:=zm hs_
   clear hs_
   apply Eq.trans
   ·apply pg_h23
    ·rfl
    ·rfl
    ·exact (zbB (Aside0.out (by assumption)) (by repeat (first|exact Below.refl _ _|with_reducible apply zlN|with_reducible apply zlA|refine below_step ?_ (Aside0.out (by assumption)))))
   ·rfl
  rotate_left
  ·simp only [Act.put,List.setIfInBounds_toArray,List.set_cons_zero,List.set_cons_succ,i64_w,i32_w]
   rfl
  refine zpu 7 ?_
  refine Cw.dtk (i:=8) (v:=?_) (a':=?_) (by simp only [List.getElem?_toArray,List.getElem?_cons_succ,List.getElem?_cons_zero];rfl) rfl (by as_aux_lemma=>kernel_rfl) (by rfl) (by exact fun _ _ _ h=>h) ?_ (by repeat (first|exact Below.refl _ _|with_reducible apply zlN|with_reducible apply zlA|refine below_step ?_ (Aside0.out (by assumption)))) ?_ ?_
  rotate_left
  ·intro w' hs_
   have hs:=zm hs_
   clear hs_
   apply Eq.trans
   ·apply pg_str
    ·rfl
    ·rfl
    ·exact (Kd.C_below (Aside0.out (by assumption)) (by repeat (first|exact Below.refl _ _|with_reducible apply zlN|with_reducible apply zlA|refine below_step ?_ (Aside0.out (by assumption)))))
   ·rfl
  rotate_left
  ·simp only [Act.put,List.setIfInBounds_toArray,List.set_cons_zero,List.set_cons_succ,i64_w,i32_w]
   rfl
  refine Cw.done1 (i:=5) (N:=some 63) (by simp only [List.getElem?_toArray,List.getElem?_cons_succ,List.getElem?_cons_zero];rfl) rfl (by as_aux_lemma=>kernel_rfl) (fun K hK=>?_)
  refine goes_ Try.func34 (by as_aux_lemma=>kernel_rfl) rfl _ (by rfl) rfl rfl (by go_simp;rfl) ?_
  refine (slipwayref03_header.calls k _ _ _ _ hd _ F3.out).mono ?_
  rintro e w1 ⟨vh,rfl,hoh,hb⟩
  obtain ⟨Ah,ch,rfl⟩:=Kd.R_slice hoh
  have hrh:=zm (Kd.R_reads' hoh).2.2
  clear hoh
  have hh_:=zm hb;clear hb;have hb:=hh_;clear hh_
  refine ⟨_,rfl,?_⟩
  refine hK.out _ _ (by repeat (first|exact Below.refl _ _|with_reducible apply zlN|with_reducible apply zlA|refine below_step ?_ (Aside0.out (by assumption)))) (fun _=>?_)
  clear hK K
  refine znm (some 63) ?_
  refine Cw.done1 (i:=6) (N:=some 64) (by simp only [List.getElem?_toArray,List.getElem?_cons_succ,List.getElem?_cons_zero];rfl) rfl (by as_aux_lemma=>kernel_rfl) (fun K hK=>?_)
  refine value_ (by rfl) rfl (pg_str rfl rfl (Kd.C_below (Aside0.out (by assumption)) (by repeat (first|exact Below.refl _ _|with_reducible apply zlN|with_reducible apply zlA|refine below_step ?_ (Aside0.out (by assumption)))))) ?_
  refine hK.out _ _ (by repeat (first|exact Below.refl _ _|with_reducible apply zlN|with_reducible apply zlA|refine below_step ?_ (Aside0.out (by assumption)))) (fun _=>?_)
  clear hK K
  refine znm (some 64) ?_
  refine Cw.dpu (i:=9) (v:=?_) (a':=?_) (by simp only [List.getElem?_toArray,List.getElem?_cons_succ,List.getElem?_cons_zero];rfl) rfl (by as_aux_lemma=>kernel_rfl) (by rfl) (by exact fun _ _ _ h=>h) ?_ ?_ ?_
  rotate_left
  ·intro w'
   apply Eq.trans
   ·apply pg_strne (xs:=hd) (ys:=b.drop 256)
    ·rfl
    ·rfl
    ·rfl
   ·rw [heb]
  rotate_left
  ·simp only [Act.put,List.setIfInBounds_toArray,List.set_cons_zero,List.set_cons_succ,i64_w,i32_w]
   rfl
  refine zpu 10 ?_
  refine zdo ?_
  go_wp2_with (first|((with_reducible refine gate_ (.store 23 (.tmp 2) _) rfl ?_);refine Cw.put_event (g:=g2) (ys:=[.int .i64 0,.int .i64 0,.int .i64 0,.int .i64 0]) rfl rfl rfl (by apply pg_st23;exact rfl;exact rfl;exact rfl;exact (zbB (Aside0.out (by assumption)) (by repeat (first|exact Below.refl _ _|with_reducible apply zlN|with_reducible apply zlA|refine below_step ?_ (Aside0.out (by assumption)))))) ?_;rintro w2 hw2;have hb2:Aside0 (Below w.heap.size w w2):=⟨by rw [hw2];exact Cw.setL_below hge2.out _ _ _ (by repeat (first|exact Below.refl _ _|with_reducible apply zlN|with_reducible apply zlA|refine below_step ?_ (Aside0.out (by assumption))))⟩;have hzz:Aside0 (w2.heap[g2]?=some (.cells #[.int .i64 0,.int .i64 0,.int .i64 0,.int .i64 0] 23 (0,0))):=⟨by rw [hw2];exact Cw.setL_full [.int .i64 0,.int .i64 0,.int .i64 0,.int .i64 0] (show _=some (Obj.cells #[.int .i64 0,.int .i64 0,.int .i64 0,.int .i64 0] 23 (0,0)) from (zbB (Aside0.out (by assumption)) (by repeat (first|exact Below.refl _ _|with_reducible apply zlN|with_reducible apply zlA|refine below_step ?_ (Aside0.out (by assumption)))))) rfl⟩;clear hw2))
  refine bodyPost_ret (results_ctt rfl _ _ g2 23 #[.int .i64 0,.int .i64 0,.int .i64 0,.int .i64 0] (0,0) _ rfl hzz.out Try.underlying23 rfl (by kernel_rfl)) rfl ?_
  exact ⟨none,0,rfl,Nat.le_refl _,(Kd.R_reads' (Kd.R_nil (Kd.int .u8) 5 _ 0 (fun _=>True))).2.2,hb2.out⟩
 rw [if_pos he] at H
 simp only [Option.some.injEq,Prod.mk.injEq] at H
 obtain ⟨rfl,rfl,rfl,rfl,rfl,rfl⟩:=H
 have heb:((strOfNums hd).toList == (strOfNums (b.drop 256)).toList)=true:=he
 clear he
 go_wp2_with fail
 refine Cw.dstart (by as_aux_lemma=>kernel_rfl) rfl (fun we hb=>?_)
 have hh_:=zm hb;clear hb;have hb:=hh_;clear hh_
 refine Cw.dtk (i:=0) (v:=?_) (a':=?_) (by simp only [List.getElem?_toArray,List.getElem?_cons_succ,List.getElem?_cons_zero];rfl) rfl (by as_aux_lemma=>kernel_rfl) (by rfl) (by exact fun _ _ _ h=>h) ?_ (by repeat (first|exact Below.refl _ _|with_reducible apply zlN|with_reducible apply zlA|refine below_step ?_ (Aside0.out (by assumption)))) ?_ ?_
 rotate_left
 ·intro w' hs_
  have hs:=zm hs_
  clear hs_
  apply Eq.trans
  ·apply pg_h23
   ·rfl
   ·rfl
   ·exact (zbB (Aside0.out (by assumption)) (by repeat (first|exact Below.refl _ _|with_reducible apply zlN|with_reducible apply zlA|refine below_step ?_ (Aside0.out (by assumption)))))
  ·rfl
 rotate_left
 ·simp only [Act.put,List.setIfInBounds_toArray,List.set_cons_zero,List.set_cons_succ,i64_w,i32_w]
  rfl
 refine Cw.done1 (i:=1) (N:=some 59) (by simp only [List.getElem?_toArray,List.getElem?_cons_succ,List.getElem?_cons_zero];rfl) rfl (by as_aux_lemma=>kernel_rfl) (fun K hK=>?_)
 refine goes_ Try.func13 (by as_aux_lemma=>kernel_rfl) rfl _ (by rfl) rfl rfl (by go_simp;rfl) ?_
 refine (slipwayref03_Check.calls _ _ _ _ _ _ F2.out).mono ?_
 rintro e w1 ⟨rfl,hb⟩
 have hh_:=zm hb;clear hb;have hb:=hh_;clear hh_
 refine ⟨_,rfl,?_⟩
 refine hK.out _ _ (by repeat (first|exact Below.refl _ _|with_reducible apply zlN|with_reducible apply zlA|refine below_step ?_ (Aside0.out (by assumption)))) (fun _=>?_)
 clear hK K
 refine znm (some 59) ?_
 refine zpu 2 ?_
 refine zpu 3 ?_
 refine Cw.dtk (i:=4) (v:=?_) (a':=?_) (by simp only [List.getElem?_toArray,List.getElem?_cons_succ,List.getElem?_cons_zero];rfl) rfl (by as_aux_lemma=>kernel_rfl) (by rfl) (by exact fun _ _ _ h=>h) ?_ (by repeat (first|exact Below.refl _ _|with_reducible apply zlN|with_reducible apply zlA|refine below_step ?_ (Aside0.out (by assumption)))) ?_ ?_
 rotate_left
 ·intro w' hs_
  have hs:=zm hs_
  clear hs_
  apply Eq.trans
  ·apply pg_h23
   ·rfl
   ·rfl
   ·exact (zbB (Aside0.out (by assumption)) (by repeat (first|exact Below.refl _ _|with_reducible apply zlN|with_reducible apply zlA|refine below_step ?_ (Aside0.out (by assumption)))))
  ·rfl
 rotate_left
 ·simp only [Act.put,List.setIfInBounds_toArray,List.set_cons_zero,List.set_cons_succ,i64_w,i32_w]
  rfl
 refine zpu 7 ?_
 refine Cw.dtk (i:=8) (v:=?_) (a':=?_) (by simp only [List.getElem?_toArray,List.getElem?_cons_succ,List.getElem?_cons_zero];rfl) rfl (by as_aux_lemma=>kernel_rfl) (by rfl) (by exact fun _ _ _ h=>h) ?_ (by repeat (first|exact Below.refl _ _|with_reducible apply zlN|with_reducible apply zlA|refine below_step ?_ (Aside0.out (by assumption)))) ?_ ?_
 rotate_left
 ·intro w' hs_
  have hs:=zm hs_
  clear hs_
  apply Eq.trans
  ·apply pg_str
   ·rfl
   ·rfl
   ·exact (Kd.C_below (Aside0.out (by assumption)) (by repeat (first|exact Below.refl _ _|with_reducible apply zlN|with_reducible apply zlA|refine below_step ?_ (Aside0.out (by assumption)))))
  ·rfl
 rotate_left
 ·simp only [Act.put,List.setIfInBounds_toArray,List.set_cons_zero,List.set_cons_succ,i64_w,i32_w]
  rfl
 refine Cw.done1 (i:=5) (N:=some 63) (by simp only [List.getElem?_toArray,List.getElem?_cons_succ,List.getElem?_cons_zero];rfl) rfl (by as_aux_lemma=>kernel_rfl) (fun K hK=>?_)
 refine goes_ Try.func34 (by as_aux_lemma=>kernel_rfl) rfl _ (by rfl) rfl rfl (by go_simp;rfl) ?_
 refine (slipwayref03_header.calls k _ _ _ _ hd _ F3.out).mono ?_
 rintro e w1 ⟨vh,rfl,hoh,hb⟩
 obtain ⟨Ah,ch,rfl⟩:=Kd.R_slice hoh
 have hrh:=zm (Kd.R_reads' hoh).2.2
 clear hoh
 have hh_:=zm hb;clear hb;have hb:=hh_;clear hh_
 refine ⟨_,rfl,?_⟩
 refine hK.out _ _ (by repeat (first|exact Below.refl _ _|with_reducible apply zlN|with_reducible apply zlA|refine below_step ?_ (Aside0.out (by assumption)))) (fun _=>?_)
 clear hK K
 refine znm (some 63) ?_
 refine Cw.done1 (i:=6) (N:=some 64) (by simp only [List.getElem?_toArray,List.getElem?_cons_succ,List.getElem?_cons_zero];rfl) rfl (by as_aux_lemma=>kernel_rfl) (fun K hK=>?_)
 refine value_ (by rfl) rfl (pg_str rfl rfl (Kd.C_below (Aside0.out (by assumption)) (by repeat (first|exact Below.refl _ _|with_reducible apply zlN|with_reducible apply zlA|refine below_step ?_ (Aside0.out (by assumption)))))) ?_
 refine hK.out _ _ (by repeat (first|exact Below.refl _ _|with_reducible apply zlN|with_reducible apply zlA|refine below_step ?_ (Aside0.out (by assumption)))) (fun _=>?_)
 clear hK K
 refine znm (some 64) ?_
 refine Cw.dpu (i:=9) (v:=?_) (a':=?_) (by simp only [List.getElem?_toArray,List.getElem?_cons_succ,List.getElem?_cons_zero];rfl) rfl (by as_aux_lemma=>kernel_rfl) (by rfl) (by exact fun _ _ _ h=>h) ?_ ?_ ?_
 rotate_left
 ·intro w'
  apply Eq.trans
  ·apply pg_strne (xs:=hd) (ys:=b.drop 256)
   ·rfl
   ·rfl
   ·rfl
  ·rw [heb]
 rotate_left
 ·simp only [Act.put,List.setIfInBounds_toArray,List.set_cons_zero,List.set_cons_succ,i64_w,i32_w]
  rfl
 refine zpu 10 ?_
 refine zdo ?_
 go_wp2_with fail
 refine Cw.dstartD [3] (by as_aux_lemma=>kernel_rfl) rfl (fun wf hb=>?_)
 have hh_:=zm hb;clear hb;have hb:=hh_;clear hh_
 refine Cw.dtkD (i:=0) (v:=?_) (a':=?_) (by simp only [List.getElem?_toArray,List.getElem?_cons_succ,List.getElem?_cons_zero];rfl) rfl (by as_aux_lemma=>kernel_rfl) (by rfl) (by exact fun _ _ _ h=>h) ?_ (by repeat (first|exact Below.refl _ _|with_reducible apply zlN|with_reducible apply zlA|refine below_step ?_ (Aside0.out (by assumption)))) ?_ ?_
 rotate_left
 ·intro w' hs_
  have hs:=zm hs_
  clear hs_
  apply Eq.trans
  ·apply pg_h23
   ·rfl
   ·rfl
   ·exact (zbB (Aside0.out (by assumption)) (by repeat (first|exact Below.refl _ _|with_reducible apply zlN|with_reducible apply zlA|refine below_step ?_ (Aside0.out (by assumption)))))
  ·rfl
 rotate_left
 ·simp only [Act.put,List.setIfInBounds_toArray,List.set_cons_zero,List.set_cons_succ,i64_w,i32_w]
  rfl
 refine zpu 1 ?_
 refine Cw.dpu (i:=2) (v:=?_) (a':=?_) (by simp only [List.getElem?_toArray,List.getElem?_cons_succ,List.getElem?_cons_zero];rfl) rfl (by as_aux_lemma=>kernel_rfl) (by rfl) (by exact fun _ _ _ h=>h) ?_ ?_ ?_
 rotate_left
 ·intro w'
  apply Eq.trans
  ·apply pg_head
   ·rfl
   ·rfl
   ·rfl
   ·decide
   ·have:=h284.out
    have:=hcb.out
    omega
  ·rfl
 rotate_left
 ·simp only [Act.put,List.setIfInBounds_toArray,List.set_cons_zero,List.set_cons_succ,i64_w,i32_w]
  rfl
 refine Cw.lastD (i:=3) (N:=none) (by simp only [List.getElem?_toArray,List.getElem?_cons_succ,List.getElem?_cons_zero];rfl) rfl (by as_aux_lemma=>kernel_rfl) (by decide) (fun K hK=>?_)
 refine Cw.dput (g:=g2) (ys:=[.int .i64 (wrap64 (rd l1 0)),.int .i64 (wrap64 (rd l1 2)),.int .i64 (wrap64 (rd l1 3)),.int .i64 (wrap64 (rd l1 4))]) (by rfl) rfl ?_ ?_
 ·apply pg_st23
  ·rfl
  ·rfl
  ·rfl
  ·exact (zbB (Aside0.out (by assumption)) (by repeat (first|exact Below.refl _ _|with_reducible apply zlN|with_reducible apply zlA|refine below_step ?_ (Aside0.out (by assumption)))))
 rintro w2 hw2
 have hb2:Aside0 (Below w.heap.size w w2):=⟨by rw [hw2];exact Cw.setL_below hge2.out _ _ _ (by repeat (first|exact Below.refl _ _|with_reducible apply zlN|with_reducible apply zlA|refine below_step ?_ (Aside0.out (by assumption))))⟩
 have hzz:Aside0 (w2.heap[g2]?=some (.cells #[.int .i64 (wrap64 (rd l1 0)),.int .i64 (wrap64 (rd l1 2)),.int .i64 (wrap64 (rd l1 3)),.int .i64 (wrap64 (rd l1 4))] 23 (0,0))):=⟨by rw [hw2];exact Cw.setL_full [.int .i64 (wrap64 (rd l1 0)),.int .i64 (wrap64 (rd l1 2)),.int .i64 (wrap64 (rd l1 3)),.int .i64 (wrap64 (rd l1 4))] (show _=some (Obj.cells #[.int .i64 0,.int .i64 0,.int .i64 0,.int .i64 0] 23 (0,0)) from (zbB (Aside0.out (by assumption)) (by repeat (first|exact Below.refl _ _|with_reducible apply zlN|with_reducible apply zlA|refine below_step ?_ (Aside0.out (by assumption)))))) rfl⟩
 have hR2:Aside0 (Kd.R (Kd.int .u8) 5 w2 w.heap.size (fun _=>True) (.slice Ab b.length cbb) b):=⟨by rw [hw2];exact Cw.setL_R (Kd.R_lower (Kd.R_below ho.out (by repeat (first|exact Below.refl _ _|with_reducible apply zlN|with_reducible apply zlA|refine below_step ?_ (Aside0.out (by assumption))))) (below_size (by repeat (first|exact Below.refl _ _|with_reducible apply zlN|with_reducible apply zlA|refine below_step ?_ (Aside0.out (by assumption)))))) (show _=some (Obj.cells #[.int .i64 0,.int .i64 0,.int .i64 0,.int .i64 0] 23 (0,0)) from (zbB (Aside0.out (by assumption)) (by repeat (first|exact Below.refl _ _|with_reducible apply zlN|with_reducible apply zlA|refine below_step ?_ (Aside0.out (by assumption)))))) (by intro q hq;simp [Kd.int,Kd.scalar] at hq;omega) 0 _⟩
 clear hw2
 refine hK.out _ _ ?_
 clear hK K
 refine zpu 4 ?_
 refine zpu 5 ?_
 refine zdo ?_
 go_wp2
 refine bodyPost_ret (results_ctt rfl _ _ g2 23 #[.int .i64 (wrap64 (rd l1 0)),.int .i64 (wrap64 (rd l1 2)),.int .i64 (wrap64 (rd l1 3)),.int .i64 (wrap64 (rd l1 4))] (0,0) _ rfl hzz.out Try.underlying23 rfl (by kernel_rfl)) rfl ?_
 exact ⟨Ab,cbb,by rw [List.length_take,h284.out];rfl,by rw [List.length_take];have:=hcb.out;omega,Kd.C_take (Kd.R_reads' hR2.out).2.2 (by rw [h284.out];decide),hb2.out⟩
end Go.Proofs.Ytdohpjjggjehfaa.Print
end
section
namespace Go.Proofs.Ytdohpjjggjehfaa.Print
open Go.RowKit Go.Proofs.YtdohpjjggjehfaaW.PrintWords Go.Proofs.YtdohpjjggjehfaaW.PrintLast Go.Proofs.YtdohpjjggjehfaaW.PrintMore
attribute [local go_sem] max2_int min2_int max_two min_two max_three min_three max_four min_four   -- for this text's walks alone
attribute [local go_sem ↓] Go.Proofs.Ytdohpjjggjehfaa.Sem.isSome_setCell
attribute [local go_sem] Go.Instr.field Go.asAgg
set_option linter.unusedVariables false
set_option linter.unusedSimpArgs false
-- CX
-- PG
def slipwayref03_State.f (k:Nat) (p:List Int):Option Int :=
 if p.length=288 then (slipwayref03_Decode.f k p).bind fun r=>some r.2.2.2.2.2 else none
set_option maxHeartbeats 4000000 in
set_option maxRecDepth 100000 in
theorem slipwayref03_State.calls (k:Nat) (p:List Int) (r:Int) (w:World) (h:slipwayref03_State.f k p=some r) :
  Calls Try.prog 21 #[.agg (pc p)] w fun e w'=>e=.returned (.int .i64 r)∧Below w.heap.size w w':=by
 have hu29:=Try.underlying29
 have hu23:=Try.underlying23
 have H:slipwayref03_State.f k p=some r:=h
 clear h
 unfold slipwayref03_State.f at H
 have hg_:=Cw.gt_ H;clear H;obtain ⟨hp,H⟩:=hg_
 have hh_:=zm hp;clear hp;have hp:=hh_;clear hh_
 have hg_:=Option.bind_eq_some_iff.mp H;clear H;obtain ⟨⟨d1,d2,d3,d4,d5,d6⟩,F0,H⟩:=hg_;have hh_:=zm F0;clear F0;have F0:=hh_;clear hh_;(try dsimp only at H)
 obtain rfl:=Option.some.inj H
 clear H
 go_enter Try.func21,Try.ntmps21
 go_wp2_with (first|((with_reducible refine gate_ (.box 29 _) rfl ?_);refine box_event rfl rfl (pg_box rfl rfl) ?_;rintro g1 hg w1 hbk hb;skip;clear hg;have hh_:=zm hbk;clear hbk;have hbk:=hh_;clear hh_;have hh_:=zm hb;clear hb;have hb:=hh_;clear hh_)|((with_reducible refine gate_ (.load 29 _) rfl ?_);refine Kd.event_run rfl (pg_load rfl rfl (zbB (Aside0.out (by assumption)) (by repeat (first|exact Below.refl _ _|with_reducible apply zlN|with_reducible apply zlA|refine below_step ?_ (Aside0.out (by assumption))))) hp.out) ?_)|(go_at_call 19;refine (slipwayref03_Decode.calls k p d1 d2 d3 d4 d5 d6 _ F0.out).mono ?_;rintro e wc ⟨A1,c1,rfl,hc1,hr1,hb⟩;have hh_:=zm hb;clear hb;have hb:=hh_;clear hh_)|((with_reducible refine gate_ (.alloc 23) rfl ?_);refine Cw.box_store rfl rfl rfl rfl rfl rfl (by first|(go_simp;done)|(go_simp;rfl)) (by first|(go_simp;done)|(go_simp;rfl)) ?_;rintro g hg w1 hbk hb;clear hg;have hh_:=zm hbk;clear hbk;have hbk:=hh_;clear hh_;have hh_:=zm hb;clear hb;have hb:=hh_;clear hh_))
 go_ret
 exact ⟨rfl,(by repeat (first|exact Below.refl _ _|with_reducible apply zlN|with_reducible apply zlA|refine below_step ?_ (Aside0.out (by assumption))))⟩
end Go.Proofs.Ytdohpjjggjehfaa.Print
end
section
namespace Go.Proofs.Ytdohpjjggjehfaa.Print
open Go.RowKit Go.Proofs.YtdohpjjggjehfaaW.PrintWords Go.Proofs.YtdohpjjggjehfaaW.PrintLast Go.Proofs.YtdohpjjggjehfaaW.PrintMore
attribute [local go_sem] max2_int min2_int max_two min_two max_three min_three max_four min_four   -- for this text's walks alone
attribute [local go_sem ↓] Go.Proofs.Ytdohpjjggjehfaa.Sem.isSome_setCell
attribute [local go_sem] Go.Instr.field Go.asAgg
set_option linter.unusedVariables false
set_option linter.unusedSimpArgs false
-- NOT PRINTED: function 44 (page_each)
def seal_Mask.l0:Nat → List Int → List Int → Int → Int → Option (List Int)
 | 0,_,_,_,_=>none
 | k + 1,x1,x5,x10,x11=>if x11 < x10 then (if (x1.length:Int) > 0 then (if 0≤x11 then (if x11 < (x5.length:Int) then (if (x1.length:Int)=0 then (none) else (if 0≤(Int.tmod x11 (x1.length:Int)) then (if (Int.tmod x11 (x1.length:Int)) < (x1.length:Int) then (seal_Mask.l0 k x1 (x5.set (x11:Int).toNat (Go.bits .or .u8 (rd x5 x11) (rd x1 (Int.tmod x11 (x1.length:Int))))) x10 (wrap64 (x11 + 1))) else (none)) else (none))) else (none)) else (none)) else (seal_Mask.l0 k x1 x5 x10 (wrap64 (x11 + 1)))) else (some x5)
def seal_Mask.f (k:Nat) (l0:List Int) (l1:List Int):Option (List Int):=(slices_Clone_byte_byte.f l0).bind fun t259=>(seal_Mask.l0 k l1 t259 (t259.length:Int) 0)
def seal_Mask.T6:Bool × List (List Nat × List Nat):=(true,[([],[]),([],[]),([0,1],[0,1]),([2],[2]),([],[]),([],[]),([],[]),([6],[6]),([5,7],[5,7]),([4,8],[4,8]),([9],[9]),([3,10],[3,10]),([0,1,0,1,2,3,4,5,6,7,8,9,10,11],[0,1]),([12,11,0,1,2,3,4,5,6,7,8,9,10,11],[11,12])])
def seal_Mask.B6:List Nat:=[0,0,3,7,0,0,0,64,224,496,1008,2047,4095,8191]
theorem seal_Mask.tab6:rtab .any (opsOf Try.f45 6)=seal_Mask.T6:=by kernel_rfl
theorem seal_Mask.bits6:waitsOk seal_Mask.T6.2 seal_Mask.B6=true:=by kernel_rfl
set_option maxHeartbeats 8000000 in
set_option maxRecDepth 100000 in
theorem seal_Mask.calls (k:Nat) (A0:Option Addr) (c0:Nat) (l0:List Int) (A1:Option Addr) (c1:Nat) (l1:List Int) (r:List Int) (w:World) (hr0:Kd.C (Kd.int .u8) w A0 l0.length l0) (hc0:l0.length≤c0) (hr1:Kd.C (Kd.int .u8) w A1 l1.length l1) (hc1:l1.length≤c1) (h:seal_Mask.f k l0 l1=some r) :
  Calls Try.prog 45 #[.slice A0 l0.length c0,.slice A1 l1.length c1] w fun e w'=>∃ v0_:Value,e=.returned (v0_)∧Kd.R (Kd.int .u8) 5 w' w.heap.size (fun _=>True) v0_ r∧Below w.heap.size w w':=by
 have HR0:=zm hr0
 have HC0:=zm hc0
 clear hr0 hc0
 have HR1:=zm hr1
 have HC1:=zm hc1
 clear hr1 hc1
 have HB:=zm (Below.refl w.heap.size w)
 have H:((slices_Clone_byte_byte.f l0).bind fun t259=>(seal_Mask.l0 k l1 t259 (t259.length:Int) 0))=some r:=h
 clear h
 replace H:=Option.bind_eq_some_iff.mp H
 obtain ⟨t259,A30,H⟩:=H
 replace H:(seal_Mask.l0 k l1 t259 (t259.length:Int) 0)=some r:=H
 have A3:=zm A30
 clear A30
 have H':=zm H
 clear H
 go_enter Try.func45,Try.ntmps45
 go_wp2_with (first|((with_reducible refine gate_callee (f:=40) rfl ?_);refine goesL_ (some 8) rfl rfl Try.func40 (by kernel_rfl) rfl #[.slice A0 l0.length c0] rfl (by (try simp only [List.map_toArray,List.map_cons,List.map_nil]);first|done|rfl|(simp only [List.length_drop,List.length_take];rfl)) ?_;(with_reducible refine (slices_Clone_byte_byte.calls _ _ l0 t259 _ ?side1 ?side2 A3.out).mono ?_);(case side1=>repeat (first|exact HR0.out|(with_reducible refine Kd.C_alloc ?_ _)|(with_reducible refine Kd.C_drewN ?_ _)|(with_reducible refine Kd.C_drew ?_)));(case side2=>exact HC0.out);rintro e w4 ⟨v260,rfl,ho0,hb⟩;refine ⟨_,rfl,?_⟩;have n0_:=zm (Kd.R_lower ho0 (below_size (zb_)));have n1_:=zkH HB hb;clear HB;have HO261:=n0_;have HB:=n1_;clear n0_ n1_;(try clear hb);(try clear hb2);(try clear hk);(try clear hi);(try clear ho0);obtain ⟨Ao5,co5,eo5⟩:=Kd.R_slice HO261.out;subst eo5))
 go_loopg [11] k (fun kq v11 w'=>∃ (x5_1:List Int) (x11_1:Int),v11=.int .i64 x11_1∧Aside0 (seal_Mask.l0 kq l1 x5_1 (t259.length:Int) x11_1=some r)∧Aside0 (kq≤k)∧Aside0 (Kd.R (Kd.int .u8) 5 w' w.heap.size (fun _=>True) (.slice Ao5 t259.length co5) x5_1)∧Aside0 (Below w.heap.size w w'))
 case atStart=>exact ⟨(t259),(0),zs_,H',⟨Nat.le_refl _⟩,⟨by (with_reducible repeat (first|apply zrA|apply zrN|apply zrD));exact HO261.out⟩,⟨zb_⟩⟩
 case round =>
  clear H'
  try clear c1
  try clear p2
  try clear c4
  obtain ⟨x5_1,x11_1,rfl,HA,HK1,HO_5,HB⟩:=hrel
  have hl5_1:=(Kd.R_reads' HO_5.out).1
  rw [hl5_1] at HO_5
  (try simp only [hl5_1])
  cases gk with
  | zero=>exact absurd HA.out (by simp [seal_Mask.l0])
  | succ k1 =>
   have H:=HA.out
   clear HA
   simp only [seal_Mask.l0] at H
   by_cases c6:x11_1 < (t259.length:Int)
   ·rw [if_pos c6] at H
    have c6b0:decide (x11_1 < (t259.length:Int))=true:=decide_eq_true c6
    (try (have c6b0h:=c6b0;simp only [hl5_1] at c6b0h))
    clear c6
    by_cases c7:(l1.length:Int) > 0
    ·rw [if_pos c7] at H
     have c7b0:decide (0 < (l1.length:Int))=true:=decide_eq_true c7
     (try (have c7b0h:=c7b0;simp only [hl5_1] at c7b0h))
     have c7b1:decide (0 < l1.length)=true:=decide_eq_true (by omega)
     (try (have c7b1h:=c7b1;simp only [hl5_1] at c7b1h))
     clear c7
     by_cases c8:0≤x11_1
     ·rw [if_pos c8] at H
      have c8b0:decide (0≤x11_1)=true:=decide_eq_true c8
      clear c8
      by_cases c9:x11_1 < (x5_1.length:Int)
      ·rw [if_pos c9] at H
       have c9b0:decide (x11_1 < (x5_1.length:Int))=true:=decide_eq_true c9
       (try (have c9b0h:=c9b0;simp only [hl5_1] at c9b0h))
       clear c9
       by_cases c10:(l1.length:Int)=0
       ·rw [if_pos c10] at H
        exact absurd H (by simp)
       ·rw [if_neg c10] at H
        have c10b0:((l1.length:Int) == 0)=false:=beq_eq_false_iff_ne.mpr c10
        (try (have c10b0h:=c10b0;simp only [hl5_1] at c10b0h))
        have c10b1:((l1.length:Int) != 0)=true:=bne_iff_ne.mpr c10
        (try (have c10b1h:=c10b1;simp only [hl5_1] at c10b1h))
        have c10b2:¬ (l1=[]):=fun h_=>c10 (by rw [h_];rfl)
        obtain ⟨ji11,hji11⟩:∃ j_:Int,(Int.tmod x11_1 (l1.length:Int))=j_:=⟨_,rfl⟩
        replace H:(if 0≤(ji11) then (if (ji11) < (l1.length:Int) then (seal_Mask.l0 k1 l1 (x5_1.set (x11_1:Int).toNat (Go.bits .or .u8 (rd x5_1 x11_1) (rd l1 (ji11)))) (t259.length:Int) (wrap64 (x11_1 + 1))) else (none)) else (none))=some r:=by first|(rw [hji11] at H;exact H)|(simp only [hji11] at H ⊢;exact H)
        by_cases c12:0≤(ji11)
        ·rw [if_pos c12] at H
         have c12b0:decide (0≤(ji11))=true:=decide_eq_true c12
         clear c12
         by_cases c13:(ji11) < (l1.length:Int)
         ·rw [if_pos c13] at H
          have c13b0:decide ((ji11) < (l1.length:Int))=true:=decide_eq_true c13
          (try (have c13b0h:=c13b0;simp only [hl5_1] at c13b0h))
          clear c13
          obtain ⟨y264,hy264⟩:∃ y_:List Int,y_=(x5_1.set (x11_1:Int).toNat (Go.bits .or .u8 (rd x5_1 x11_1) (rd l1 (ji11)))):=⟨_,rfl⟩
          replace H:(seal_Mask.l0 k1 l1 y264 (t259.length:Int) (wrap64 (x11_1 + 1)))=some r:=by first|(rw [hy264];with_reducible exact H)|(have H2_:=(Option.bind_some _ _).symm.trans H;rw [hy264];with_reducible exact H2_)|(have H2_:=(Option.bind_some _ _).symm.trans H;with_reducible exact H2_)|with_reducible exact H|(rw [hy264];exact H)|exact H
          have Ny264:=zm hy264
          clear hy264
          have H':=zm H
          clear H
          try go_wp2
          have n0_:=zm (zrD HO_5.out)
          have n1_:=zm (zlD HB.out)
          clear HO_5 HB
          have HO_5:=n0_
          have HB:=n1_
          clear n0_ n1_
          have p262:0≤(x11_1:Int):=za_
          have q262:x11_1 < (x5_1.length:Int):=za_
          obtain ⟨ad262,e262,hx262_0⟩:=Kd.at_int (Kd.R_reads' HO_5.out).2.2 x11_1 p262 q262
          cases e262
          replace p262:=eq_true p262
          replace q262:=eq_true q262
          have p263:0≤((ji11):Int):=za_
          have q263:(ji11) < (l1.length:Int):=za_
          obtain ⟨ad263,e263,hx263_0⟩:=Kd.at_int HR1.out (ji11) p263 q263
          have hw263_0:=hx263_0
          cases e263
          replace hx263_0:=zhx HB hx263_0
          replace p263:=eq_true p263
          replace q263:=eq_true q263
          have p14:0≤(x11_1:Int):=za_
          have q14:(x11_1:Int) < ((x5_1.length:Int):Int):=za_
          obtain ⟨go14,co14,eo14,gb14,gl14,cl14,HG14⟩:=Kd.R_form HO_5.out (by omega)
          (first|cases eo14|(injection eo14 with ea_ en_ ec_;(first|subst ea_|(injection ea_ with ea_;subst ea_));subst ec_;clear en_))
          have GB14:=zm gb14
          have GG14:=zm HG14
          clear gb14 gl14 HG14
          (first|simp only [add_plain] at hx262_0|skip)
          obtain ⟨hx14_0,hf14_0⟩:=Kd.R_celln 0 HO_5.out (x11_1:Int) p14 q14
          replace p14:=eq_true p14
          replace q14:=eq_true q14
          have HP16:=Kd.R_putn HO_5.out (x11_1:Int) (Go.bits .or .u8 (rd x5_1 x11_1) (rd l1 (ji11)))
          rw [← Ny264.out] at HP16
          have HQ16:=zm HP16
          clear HP16
          refine start_ (n:=14) (S:=fun w'=>w'.cell? ⟨go14,(x11_1).toNat,none⟩=some (.int .u8 (rd x5_1 x11_1))∧w'.cell? (ad263.add ((ji11)).toNat)=some (.int .u8 (rd l1 (ji11)))) (ds:=[13]) (Array.replicate 14 false) (by kernel_rfl) rfl rfl ⟨hx262_0,(zhx HB hw263_0)⟩ (fun hHeld=>?_);refine with_tabW seal_Mask.tab6 seal_Mask.bits6 (fun HT_ HW_=>?_)
          generalize wr.drew=w15 at HO_5 HB GG14 HQ16 hf14_0 hx14_0 hx262_0 hx263_0 hHeld ⊢
          refine zpu 0 ?_
          refine zpu 1 ?_
          refine zpu 2 ?_
          refine zpu 4 ?_
          refine zpu 5 ?_
          refine zpu 6 ?_
          refine zpu 7 ?_
          refine zpu 8 ?_
          refine zpu 9 ?_
          refine zta 3 hHeld ?_
          refine zta 10 hHeld ?_
          refine zpu 11 ?_
          refine zpu 12 ?_
          refine zla 13 none (fun K hK=>?_)
          refine skip_ (w1:=?_) (by rfl) rfl ?_ ?_
          rotate_left
          ·go_simp
           rfl
          refine hK.out _ _ ?_
          clear hK K
          refine zdo ?_
          try go_wp2
          (try simp only [← hl5_1])
          go_roundg k1
          case measure=>have:=HK1.out;omega
          case rel=>exact ⟨(y264),(wrap64 (x11_1 + 1)),zs_,H',⟨by have:=HK1.out;omega⟩,⟨by (try simp only [hl5_1]);(with_reducible repeat (first|apply zrA|apply zrN|apply zrD));exact HQ16.out⟩,⟨by repeat (first|(with_reducible first|exact HB.out|apply zlA|apply zlN|apply zlD|refine zlS ?_ GB14.out)|exact HB.out)⟩⟩
         ·rw [if_neg c13] at H
          exact absurd H (by simp)
        ·rw [if_neg c12] at H
         exact absurd H (by simp)
      ·rw [if_neg c9] at H
       exact absurd H (by simp)
     ·rw [if_neg c8] at H
      exact absurd H (by simp)
    ·rw [if_neg c7] at H
     have c7b0:decide (0 < (l1.length:Int))=false:=decide_eq_false c7
     (try (have c7b0h:=c7b0;simp only [hl5_1] at c7b0h))
     have c7b1:decide (0 < l1.length)=false:=decide_eq_false (by omega)
     (try (have c7b1h:=c7b1;simp only [hl5_1] at c7b1h))
     clear c7
     have H':=zm H
     clear H
     go_wp2
     (try simp only [← hl5_1])
     go_roundg k1
     case measure=>have:=HK1.out;omega
     case rel=>exact ⟨(x5_1),(wrap64 (x11_1 + 1)),zs_,H',⟨by have:=HK1.out;omega⟩,⟨by (try simp only [hl5_1]);(with_reducible repeat (first|apply zrA|apply zrN|apply zrD));exact HO_5.out⟩,⟨zb_⟩⟩
   ·rw [if_neg c6] at H
    have c6b0:decide (x11_1 < (t259.length:Int))=false:=decide_eq_false c6
    (try (have c6b0h:=c6b0;simp only [hl5_1] at c6b0h))
    clear c6
    obtain rfl:=Option.some.inj H
    go_wp2
    go_ret
    exact ⟨_,ze_,by (with_reducible repeat (first|apply zrA|apply zrN|apply zrD));exact HO_5.out,zb_⟩
end Go.Proofs.Ytdohpjjggjehfaa.Print
end
section
namespace Go.Proofs.Ytdohpjjggjehfaa.Print
open Go.RowKit Go.Proofs.YtdohpjjggjehfaaW.PrintWords Go.Proofs.YtdohpjjggjehfaaW.PrintLast Go.Proofs.YtdohpjjggjehfaaW.PrintMore
attribute [local go_sem] max2_int min2_int max_two min_two max_three min_three max_four min_four   -- for this text's walks alone
attribute [local go_sem ↓] Go.Proofs.Ytdohpjjggjehfaa.Sem.isSome_setCell
attribute [local go_sem] Go.Instr.field Go.asAgg
set_option linter.unusedVariables false
set_option linter.unusedSimpArgs false
-- CX
-- PG
-- RANGEFUNC
section
open Go.Shelf
attribute [local go_sem] Oper.semAt_some
def KpO (bx br:Nat) (A B:World):Prop:=∀ g o,g≠bx → g≠br → A.heap[g]?=some o → o.isCells=true → B.heap[g]?=some o
def eenc (x:Int):Array Value:=#[.int .u8 x]
theorem pe_w {q n:Nat} (h:q < n) (h2:n=288):wrap64 ((q:Int) + 1)=(q:Int) + 1:=by
 unfold wrap64
 omega
theorem pe_m {q n:Nat} (h:q < n):n - (intOf (.int .i64 ((q:Int) + 1))).toNat < n - (intOf (.int .i64 (q:Int))).toNat:=by
 simp [intOf]
 omega
theorem pe_grown {A B:World} (h:Below A.heap.size A B):A.grownBy B none:=⟨h.os,h.tape,h.output,h.size,fun k hk _=>h.block k hk⟩
theorem pe_kept {A B:World} {bx br base:Nat} {ok:Nat → Prop} {v:Value} {xs:List Int} (hk:KpO bx br A B) (h1:bx < base) (h2:br < base) (h:(Kd.int .u8).R 5 A base ok v xs):(Kd.int .u8).R 5 B base ok v xs :=
 Kd.R_mono (Kd.R_move (Kd.R_bound h) (fun g hg=>by
  obtain ⟨_,hge,_,_,_,cells,hc⟩:=hg
  exact (hk g _ (by omega) (by omega) hc rfl).trans hc.symm)) (fun _ hg=>hg.1)
set_option maxHeartbeats 4000000 in
set_option maxRecDepth 100000 in
theorem pe_stops (k:Nat) (p bts:List Int) (hp:p.length=288) (hcat:slices_Concat_byte_byte.f k [(p.drop 0).take 256,(p.drop 256).take 32]=some bts) (hbl:bts.length=288) (n:Nat) (hn:1≤n) (Bs bx br:Nat) (w:World)
  (hBs:w.heap[Bs]?=some (.cells (pc p) 29 (0,0))) (h3:bx < w.heap.size) (h4:br < w.heap.size) :
  SeqStopsK Fence.wide n Try.prog 63 #[.pointer (some ⟨Bs,0,none⟩)] eenc (KpO bx br) (fun xs=>xs=bts) (fun _=>True) bts.length w:=fun l J Jx W hW hJ hJx hY h0=>by
 have hlt:Bs < w.heap.size:=(Array.getElem?_eq_some_iff.1 hBs).1
 have hbx:=zm ((hW.block Bs hlt).trans hBs)
 have hsz:=hW.size
 have hh_:=zm hbl;clear hbl;have hbl:=hh_;clear hh_
 have hh_:=zm hp;clear hp;have hp:=hh_;clear hh_;have hh_:=zm hcat;clear hcat;have hcat:=hh_;clear hh_
 refine callsIn_of_wp Try.func63 rfl (by trivial) ?_ rfl
 simp only [Try.ntmps63,List.size_toArray,List.length_cons,List.length_nil,Nat.reduceAdd,Nat.reduceSub,Array.replicate_succ,Array.replicate_zero,List.push_toArray,List.append_toArray,List.nil_append,List.cons_append]
 refine wpIn_seq_k (fun K0 hK0=>?_)
 refine wpIn_wide.mpr ?_
 refine Cw.dstart (by as_aux_lemma=>kernel_rfl) rfl (fun wd hb=>?_)
 have hh_:=zm hb;clear hb;have hb:=hh_;clear hh_
 refine zpu 0 ?_
 refine zpu 1 ?_
 refine zpu 2 ?_
 refine zpu 3 ?_
 refine zpu 7 ?_
 refine Cw.done1 (i:=4) (N:=some 9) (by simp only [List.getElem?_toArray,List.getElem?_cons_succ,List.getElem?_cons_zero];rfl) rfl (by as_aux_lemma=>kernel_rfl) (fun K hK=>?_)
 refine Cw.dnew (fun g=>.slice (some ⟨g,0,none⟩) 2 2) (by rfl) rfl (by apply pg_lit2 <;> rfl) ?_
 rintro gz hg w1 hbk hb
 clear hg
 have hh_:=zm hbk;clear hbk;have hbk:=hh_;clear hh_;have hh_:=zm hb;clear hb;have hb:=hh_;clear hh_
 refine hK.out _ _ (by repeat (first|exact Below.refl _ _|with_reducible apply zlN|with_reducible apply zlA|refine below_step ?_ (Aside0.out (by assumption)))) (fun _=>?_)
 clear hK K
 refine znm (some 9) ?_
 refine Cw.done1 (i:=5) (N:=some 10) (by simp only [List.getElem?_toArray,List.getElem?_cons_succ,List.getElem?_cons_zero];rfl) rfl (by as_aux_lemma=>kernel_rfl) (fun K hK=>?_)
 refine goes_ Try.func32 (by as_aux_lemma=>kernel_rfl) rfl _ (by rfl) rfl rfl (by go_simp;rfl) ?_
 refine (slices_Concat_byte_byte.calls k (some ⟨gz,0,none⟩) 2 [(p.drop 0).take 256,(p.drop 256).take 32] bts _ (pg_two (n0:=256) (n1:=32) (by rw [List.length_take,List.length_drop,hp.out];rfl) (by rw [List.length_take,List.length_drop,hp.out];rfl) (zbB (Aside0.out (by assumption)) (by repeat (first|exact Below.refl _ _|with_reducible apply zlN|with_reducible apply zlA|refine below_step ?_ (Aside0.out (by assumption))))) (pg_C (zbB (Aside0.out (by assumption)) (by repeat (first|exact Below.refl _ _|with_reducible apply zlN|with_reducible apply zlA|refine below_step ?_ (Aside0.out (by assumption))))) (by rw [hp.out];decide) hp.out) (by decide) (pg_C (zbB (Aside0.out (by assumption)) (by repeat (first|exact Below.refl _ _|with_reducible apply zlN|with_reducible apply zlA|refine below_step ?_ (Aside0.out (by assumption))))) (by rw [hp.out];decide) hp.out) (by decide)) (by simp) hcat.out).mono ?_
 rintro e w1 ⟨vb,rfl,ho,hb⟩
 obtain ⟨Ab,cbb,rfl⟩:=Kd.R_slice ho
 replace ho:=Kd.R_lower ho (show W.heap.size≤_ from below_size (w:=W) (by repeat (first|exact Below.refl _ _|with_reducible apply zlN|with_reducible apply zlA|refine below_step ?_ (Aside0.out (by assumption)))))
 have hh_:=zm ho;clear ho;have ho:=hh_;clear hh_
 have hh_:=zm hb;clear hb;have hb:=hh_;clear hh_
 refine ⟨_,rfl,?_⟩
 refine hK.out _ _ (by repeat (first|exact Below.refl _ _|with_reducible apply zlN|with_reducible apply zlA|refine below_step ?_ (Aside0.out (by assumption)))) (fun _=>?_)
 clear hK K
 refine znm (some 10) ?_
 refine zpu 6 ?_
 refine zdo ?_
 refine hK0 _ _ ?_
 clear hK0 K0
 have hJ1:=hJ [] W w1 none h0 (pe_grown (by repeat (first|exact Below.refl _ _|with_reducible apply zlN|with_reducible apply zlA|refine below_step ?_ (Aside0.out (by assumption))))) (fun r e=>by cases e)
 have hcb:bts.length≤cbb:=(Kd.R_reads' ho.out).2.1
 have hR:=ho.out
 clear h0
 gi_wp2
 gi_loopw [12] (fun i wr=>∃ q:Nat,q≤bts.length∧i=.int .i64 q∧J (bts.take q) wr∧Kd.R (Kd.int .u8) 5 wr W.heap.size (fun _=>True) (.slice Ab bts.length cbb) bts) (fun i _=>bts.length - (intOf i).toNat)
 case atStart=>exact ⟨0,Nat.zero_le _,rfl,hJ1,hR⟩
 case round =>
  obtain ⟨q,hq,rfl,hJs,hRr⟩:=hrel
  have hC:=(Kd.R_reads' hRr).2.2
  by_cases hlq:q < bts.length
  ·have hjn:0≤(q:Int):=by omega
   have hwr:wrap64 ((q:Int) + 1)=(q:Int) + 1:=pe_w hlq hbl.out
   have hj3:(q:Int) < (bts.length:Int):=by omega
   obtain ⟨ad,hA,hx⟩:=Kd.at_int hC (q:Int) hjn hj3
   subst hA
   rw [Int.toNat_natCast] at hx
   have hb0:decide ((q:Int) < (bts.length:Int))=true:=decide_eq_true hj3
   obtain ⟨fn,tmps,assign,body,hy,hR2⟩:=hY _ (rd bts (q:Int)) _ hJs (by rw [List.length_take];omega)
   dsimp only [eenc] at hy
   gi_wp2
   refine hR2.mono ?_
   rintro e w3 (⟨rfl,hJ3,hk3⟩|⟨rfl,hx3⟩)
   ·gi_wp2
    go_roundw
    case rel=>exact ⟨q + 1,by omega,by rw [hwr];rfl,by rw [List.take_add_one,List.getElem?_eq_getElem hlq];simpa [rd,List.getD_eq_getElem?_getD,hlq] using hJ3,pe_kept hk3 (by omega) (by omega) hRr⟩
    case measure=>rw [hwr];exact pe_m hlq
   ·gi_wp2
    refine bodyPost_ret (results_none rfl _ _ _) rfl ?_
    exact ⟨⟨_,rfl⟩,.inr ⟨_,trivial,hx3⟩⟩
  ·obtain rfl:q=bts.length:=by omega
   have hb0:decide ((bts.length:Int) < (bts.length:Int))=false:=decide_eq_false (by omega)
   gi_wp2
   go_end0
   exact ⟨⟨_,rfl⟩,.inl ⟨_,rfl,by rw [List.take_length] at hJs;exact hJs⟩⟩
set_option maxHeartbeats 4000000 in
set_option maxRecDepth 100000 in
theorem pt_each (p:List Int) (hp:p.length=288) (W:World):Calls Try.prog 44 #[.agg (pc p)] W fun e w'=>∃ g:Nat,e=.returned (.func (.func 63) #[] #[.pointer (some ⟨g,0,none⟩)])∧g=W.heap.size∧w'.heap[g]?=some (.cells (pc p) 29 (0,0))∧Below W.heap.size W w':=by
 go_enter Try.func44,Try.ntmps44
 go_wp2_with (first|((with_reducible refine gate_ (.box 29 _) rfl ?_);refine box_event rfl rfl (pg_box rfl rfl) ?_;rintro g1 hg w1 hbk hb;have hh_:=zm hg;clear hg;have hg:=hh_;clear hh_;have hh_:=zm hbk;clear hbk;have hbk:=hh_;clear hh_;have hh_:=zm hb;clear hb;have hb:=hh_;clear hh_))
 go_ret
 exact ⟨g1,rfl,hg.out,hbk.out,hb.out⟩
theorem pt_info:(Try.prog.info? 5).map (fun i=>(i.zero,i.size,i.bytes))=some (some (.int .u8 0),1,1):=by kernel_rfl
theorem pt_zero:madeCells (Value.int .u8 0).cells (288 * 1)=pc pz:=by kernel_rfl
theorem pt_make {o:Oper} {a:Act} {W:World} (hop:o.op=.makeSlice 24 (.const (.int .i64 0)) (.const (.int .i64 288))):(execOp a.eval o).run Try.prog W=.ok (.value (.slice (some ⟨W.heap.size,0,none⟩) 0 288)) (W.alloc (.cells (pc pz) 5 (0,0))):=by
 obtain ⟨i,hi,e⟩:=Option.map_eq_some_iff.1 pt_info
 obtain ⟨hz,hs,hby⟩:i.zero=some (.int .u8 0)∧i.size=1∧i.bytes=1:=by
  simp only [Prod.mk.injEq] at e
  exact e
 have h:=run_makeSlice (P:=Try.prog) W 24 5 i (.int .u8 0) Try.underlying24 hi hz .i64 .i64 0 288 (by decide) (by decide) (by rw [hs];decide) (by rw [hby];decide) (by decide)
 rw [hs] at h
 have e2:madeCells (Value.int .u8 0).cells ((288:Int).toNat * 1)=pc pz:=pt_zero
 rw [e2] at h
 simp only [execOp,hop]
 have e0:a.eval (.const (.int .i64 0))=.int .i64 0:=rfl
 have e1:a.eval (.const (.int .i64 288))=.int .i64 288:=rfl
 simp [e0,e1,h]
 done
def fz (l:List Int):List Int:=l ++ List.replicate (288 - l.length) 0
theorem fz_full {l:List Int} (h:l.length=288):fz l=l:=by unfold fz;rw [h,Nat.sub_self,List.replicate_zero,List.append_nil]
theorem fz_get {l:List Int} (h:l.length < 288):(fz l)[l.length]?=some 0:=by
 unfold fz
 rw [List.getElem?_append_right (Nat.le_refl _),Nat.sub_self,List.getElem?_replicate,if_pos (by omega)]
theorem fz_set {l:List Int} {x:Int} (h:l.length < 288):(fz l).set l.length x=fz (l ++ [x]):=by
 unfold fz
 obtain ⟨d,hd⟩:∃ d,288 - l.length=d + 1:=⟨288 - l.length - 1,by omega⟩
 have hd':288 - (l ++ [x]).length=d:=by rw [List.length_append,List.length_singleton];omega
 rw [hd,hd',List.set_append_right _ _ (Nat.le_refl _),Nat.sub_self,List.replicate_succ,List.set_cons_zero,List.append_assoc]
 rfl
theorem pt_ld24 {o:Oper} {a:Act} {W:World} {x:Operand} {g n c:Nat} {A:Option Addr} (hop:o.op=.load 24 x) (hx:a.eval x=.pointer (some ⟨g,0,none⟩)) (hb:W.heap[g]?=some (.cells #[.slice A n c] 24 (0,0))):(execOp a.eval o).run Try.prog W=.ok (.value (.slice A n c)) W:=by
 have c0:W.cell? ⟨g,0,none⟩=some (.slice A n c):=(blk_cell hb 0).trans rfl
 have hu:=Try.underlying24
 simp only [execOp,hop,hx]
 go_simp
theorem pt_farO {w:World} {g:Nat} {o:Obj} (h:w.heap[g]?=some o) {p:Addr} (hp:g≠p.block) (u:Value):(w.setCell p u).heap[g]?=some o:=(RowKit.Below.heap_setCell _ _ _ _ hp).trans h
theorem pt_gen {c:Code} {P:Program} {Q:Exit → Act → World → Prop} {a:Act} {W:World} (F:World → Prop) (hF:F W) (h:∀ W0,F W0 → c.wp P Q a W0):c.wp P Q a W:=h _ hF
theorem pt_genIn {c:Code} {n:Nat} {P:Program} {Q:Exit → Act → World → Prop} {a:Act} {W:World} (F:World → Prop) (hF:F W) (h:∀ W0,F W0 → c.wpIn Fence.wide n P Q a W0):c.wpIn Fence.wide n P Q a W:=h _ hF
def pt_onlyN (G:Exit → Act → World → Prop):Exit → Act → World → Prop
 | .normal,a,w=>G .normal a w
 | _,_,_=>False
theorem pt_only {P:Program} {c:Code} {a:Act} {w:World} {G:Exit → Act → World → Prop} (h:c.wp P (pt_onlyN G) a w):c.wp P G a w :=
 (wpIn_wide (n:=1)).mp (wpIn_mono ((wpIn_wide (n:=1)).mpr h) (fun e a w hq=>by cases e <;> first|exact hq|exact hq.elim))
theorem pt_splice {p d:List Int} (hp:p.length=288) (hd:d.length=288):splice (splice p 0 (d.take 256)) 256 ((d.drop 256).take 32)=d:=by
 have h1:(d.take 256).length=256:=by rw [List.length_take];omega
 have h2:(d.drop 256).take 32=d.drop 256:=List.take_of_length_le (by rw [List.length_drop];omega)
 have h3:(d.drop 256).length=32:=by rw [List.length_drop];omega
 have h4:(p.drop 256).length=32:=by rw [List.length_drop];omega
 have e1:(d.take 256 ++ p.drop 256).take 256=d.take 256:=by
  rw [List.take_append_of_le_length (by omega)]
  exact List.take_of_length_le (by omega)
 have e2:(d.take 256 ++ p.drop 256).drop (256 + 32)=[]:=List.drop_eq_nil_of_le (by rw [List.length_append];omega)
 simp only [splice,h1,h2,h3,List.take_zero,List.nil_append,Nat.zero_add]
 rw [e1,e2,List.append_nil,List.take_append_drop]
def page_Tear.f (k:Nat) (p l1:List Int):Option (List Int) :=
 if p.length=288 then (slices_Concat_byte_byte.f k [(p.drop 0).take 256,(p.drop 256).take 32]).bind fun b=>if b.length=288 then (seal_Mask.f k b l1).bind fun d=>if d.length=288 then some d else none else none else none
set_option maxHeartbeats 4000000 in
set_option maxRecDepth 100000 in
theorem page_Tear.calls (k:Nat) (p:List Int) (A1:Option Addr) (c1:Nat) (l1:List Int) (r:List Int) (w:World) (hr1:Kd.C (Kd.int .u8) w A1 l1.length l1) (hc1:l1.length≤c1) (h:page_Tear.f k p l1=some r) :
  Calls Try.prog 22 #[.agg (pc p),.slice A1 l1.length c1] w fun e w'=>e=.returned (.agg (pc r))∧Below w.heap.size w w':=by
 have hu29:=Try.underlying29
 have hu24:=Try.underlying24
 have H:page_Tear.f k p l1=some r:=h
 clear h
 have hh_:=zm hr1;clear hr1;have hr1:=hh_;clear hh_;have hh_:=zm hc1;clear hc1;have hc1:=hh_;clear hh_
 unfold page_Tear.f at H
 have hg_:=Cw.gt_ H;clear H;obtain ⟨hp,H⟩:=hg_;have hg_:=Option.bind_eq_some_iff.mp H;clear H;obtain ⟨b,F0,H⟩:=hg_;have hh_:=zm F0;clear F0;have F0:=hh_;clear hh_;(try dsimp only at H);have hg_:=Cw.gt_ H;clear H;obtain ⟨hb9,H⟩:=hg_;have hg_:=Option.bind_eq_some_iff.mp H;clear H;obtain ⟨d,F1,H⟩:=hg_;have hh_:=zm F1;clear F1;have F1:=hh_;clear hh_;(try dsimp only at H);have hg_:=Cw.gt_ H;clear H;obtain ⟨hd,H⟩:=hg_
 obtain rfl:=Option.some.inj H
 clear H
 have hh_:=zm hp;clear hp;have hp:=hh_;clear hh_;have hh_:=zm hb9;clear hb9;have hb9:=hh_;clear hh_;have hh_:=zm hd;clear hd;have hd:=hh_;clear hh_
 refine (callsIn_wide (n:=3)).mp ?_
 refine callsIn_of_wp_marks Try.func22 rfl (by trivial) ?_ rfl
 refine wpIn_wide.mpr ?_
 simp only [Try.ntmps22,List.size_toArray,List.length_cons,List.length_nil,Nat.reduceAdd,Nat.reduceSub,Array.replicate_succ,Array.replicate_zero,List.push_toArray,List.append_toArray,List.nil_append,List.cons_append]
 go_wp2_with (first|((with_reducible refine gate_ (.box 29 _) rfl ?_);refine box_event rfl rfl (pg_box rfl rfl) ?_;rintro g2 hg w1 hbk hb;have hgeg2:Aside0 (w.heap.size≤g2):=⟨by rw [hg];exact below_size (by repeat (first|exact Below.refl _ _|with_reducible apply zlN|with_reducible apply zlA|refine below_step ?_ (Aside0.out (by assumption))))⟩;clear hg;have hh_:=zm hbk;clear hbk;have hbk:=hh_;clear hh_;have hh_:=zm hb;clear hb;have hb:=hh_;clear hh_)|((with_reducible refine gate_dst (N:=4) rfl ?_);(with_reducible refine gate_ (.alloc 29) rfl ?_);refine box_event rfl rfl (pg_new rfl) ?_;rintro g4 hg w1 hbk hb;have hgeg4:Aside0 (w.heap.size≤g4):=⟨by rw [hg];exact below_size (by repeat (first|exact Below.refl _ _|with_reducible apply zlN|with_reducible apply zlA|refine below_step ?_ (Aside0.out (by assumption))))⟩;have hltg4:Aside0 (g2 < g4):=⟨by rw [hg];exact blk_lt (g:=g2) (zbB (Aside0.out (by assumption)) (by repeat (first|exact Below.refl _ _|with_reducible apply zlN|with_reducible apply zlA|refine below_step ?_ (Aside0.out (by assumption)))))⟩;clear hg;have hh_:=zm hbk;clear hbk;have hbk:=hh_;clear hh_;have hh_:=zm hb;clear hb;have hb:=hh_;clear hh_)|((with_reducible refine gate_dst (N:=7) rfl ?_);refine pg_made (fun g=>.slice (some ⟨g,0,none⟩) 0 288) rfl (pt_make rfl) ?_;rintro gb hg w1 hbk hb;have hgegb:Aside0 (w.heap.size≤gb):=⟨by rw [hg];exact below_size (by repeat (first|exact Below.refl _ _|with_reducible apply zlN|with_reducible apply zlA|refine below_step ?_ (Aside0.out (by assumption))))⟩;have hltgb:Aside0 (g4 < gb):=⟨by rw [hg];exact blk_lt (g:=g4) (zbB (Aside0.out (by assumption)) (by repeat (first|exact Below.refl _ _|with_reducible apply zlN|with_reducible apply zlA|refine below_step ?_ (Aside0.out (by assumption)))))⟩;clear hg;have hh_:=zm hbk;clear hbk;have hbk:=hh_;clear hh_;have hh_:=zm hb;clear hb;have hb:=hh_;clear hh_)|((with_reducible refine gate_ (.alloc 24) rfl ?_);refine Cw.box_store rfl rfl rfl rfl rfl rfl (by first|(go_simp;done)|(go_simp;rfl)) (by first|(go_simp;done)|(go_simp;rfl)) ?_;rintro g5 hg w1 hbk hb;have hgeg5:Aside0 (w.heap.size≤g5):=⟨by rw [hg];exact below_size (by repeat (first|exact Below.refl _ _|with_reducible apply zlN|with_reducible apply zlA|refine below_step ?_ (Aside0.out (by assumption))))⟩;have hltg5:Aside0 (gb < g5):=⟨by rw [hg];exact blk_lt (g:=gb) (zbB (Aside0.out (by assumption)) (by repeat (first|exact Below.refl _ _|with_reducible apply zlN|with_reducible apply zlA|refine below_step ?_ (Aside0.out (by assumption)))))⟩;clear hg;have hh_:=zm hbk;clear hbk;have hbk:=hh_;clear hh_;have hh_:=zm hb;clear hb;have hb:=hh_;clear hh_)|((with_reducible refine gate_ (.load 29 _) rfl ?_);refine Kd.event_run rfl (pg_load rfl rfl (zbB (Aside0.out (by assumption)) (by repeat (first|exact Below.refl _ _|with_reducible apply zlN|with_reducible apply zlA|refine below_step ?_ (Aside0.out (by assumption))))) hp.out) ?_)|(go_at_call 44;refine (pt_each p hp.out _).mono ?_;rintro e w1 ⟨gA,rfl,hg,hbk,hb⟩;have hgegA:Aside0 (w.heap.size≤gA):=⟨by rw [hg];exact below_size (by repeat (first|exact Below.refl _ _|with_reducible apply zlN|with_reducible apply zlA|refine below_step ?_ (Aside0.out (by assumption))))⟩;have hltgA:Aside0 (g5 < gA):=⟨by rw [hg];exact blk_lt (g:=g5) (zbB (Aside0.out (by assumption)) (by repeat (first|exact Below.refl _ _|with_reducible apply zlN|with_reducible apply zlA|refine below_step ?_ (Aside0.out (by assumption)))))⟩;clear hg;have hh_:=zm hbk;clear hbk;have hbk:=hh_;clear hh_;have hh_:=zm hb;clear hb;have hb:=hh_;clear hh_))
 refine (wpIn_wide (n:=3)).mp ?_
 refine pt_genIn (fun W0=>W0.heap[g2]?=some (.cells (pc p) 29 (0,0))∧W0.heap[g4]?=some (.cells (pc pz) 29 (0,0))∧W0.heap[gb]?=some (.cells (pc (fz [])) 5 (0,0))∧W0.heap[g5]?=some (.cells #[.slice (some ⟨gb,0,none⟩) 0 288] 24 (0,0))∧W0.heap[gA]?=some (.cells (pc p) 29 (0,0))∧Below w.heap.size w W0) ⟨(zbB (Aside0.out (by assumption)) (by repeat (first|exact Below.refl _ _|with_reducible apply zlN|with_reducible apply zlA|refine below_step ?_ (Aside0.out (by assumption))))),(zbB (Aside0.out (by assumption)) (by repeat (first|exact Below.refl _ _|with_reducible apply zlN|with_reducible apply zlA|refine below_step ?_ (Aside0.out (by assumption))))),(show _=some (Obj.cells (pc pz) 5 (0,0)) from (zbB (Aside0.out (by assumption)) (by repeat (first|exact Below.refl _ _|with_reducible apply zlN|with_reducible apply zlA|refine below_step ?_ (Aside0.out (by assumption)))))),(zbB (Aside0.out (by assumption)) (by repeat (first|exact Below.refl _ _|with_reducible apply zlN|with_reducible apply zlA|refine below_step ?_ (Aside0.out (by assumption))))),(zbB (Aside0.out (by assumption)) (by repeat (first|exact Below.refl _ _|with_reducible apply zlN|with_reducible apply zlA|refine below_step ?_ (Aside0.out (by assumption))))),(by repeat (first|exact Below.refl _ _|with_reducible apply zlN|with_reducible apply zlA|refine below_step ?_ (Aside0.out (by assumption))))⟩ ?_
 rintro W0 ⟨K2,K4,Kb,K5,KA,KB⟩
 have n24:=hltg4.out
 have n4b:=hltgb.out
 have nb5:=hltg5.out
 have n5A:=hltgA.out
 have ge2:=hgeg2.out
 have sA:gA < W0.heap.size:=blk_lt KA
 refine wpIn_rangeFunc_ownH (F:=Fence.wide) rfl (by decide) (gf:=63) (lb:=#[.pointer (some ⟨gA,0,none⟩)]) rfl (by trivial) (enters_of Try.func63 (by kernel_rfl) rfl) (pe_stops k p b hp.out F0.out hb9.out 2 (by decide) gA g5 gb W0 KA (by omega) (by omega))
  (fun h1 h2 g o ha hb' hg ho=>h2 g o ha hb' (h1 g o ha hb' hg ho) ho) (fun W l o o' hl ho hc _ g q ha hb' hg hq=>by
   by_cases e:g=l
   ·subst e
    rw [ho] at hg
    cases hg
    rw [hc] at hq
    cases hq
   ·rw [World.putObj_heap_other (by omega)]
    exact hg) (Below.refl _ _) (fun _=>rfl)
  (fun pre W=>W.heap[g2]?=some (.cells (pc p) 29 (0,0))∧W.heap[g4]?=some (.cells (pc pz) 29 (0,0))∧W.heap[gb]?=some (.cells (pc (fz pre)) 5 (0,0))∧W.heap[g5]?=some (.cells #[.slice (some ⟨gb,0,none⟩) pre.length 288] 24 (0,0))∧Below w.heap.size w W∧W0.heap.size≤W.heap.size)
  (fun _ _ _=>False)
  (fun s A B row hs hg' hr=>by
   have blk:∀ (g:Nat) (o:Obj),g < W0.heap.size → A.heap[g]?=some o → B.heap[g]?=some o:=fun g o hl h=>(hg'.block _ (Array.getElem?_eq_some_iff.1 h).1 (fun e=>by have:=(hr _ e.symm).1;omega)).trans h
   exact ⟨blk _ _ (by omega) hs.1,blk _ _ (by omega) hs.2.1,blk _ _ (by omega) hs.2.2.1,blk _ _ (by omega) hs.2.2.2.1,hs.2.2.2.2.1.grown hg' hs.2.2.2.2.1.size (fun q e=>by have:=(hr q e).1;have:=KB.size;omega),Nat.le_trans hs.2.2.2.2.2 hg'.size⟩)
  (fun _ _ _ _ _ hs _ _=>hs)
  ⟨K2,K4,Kb,K5,KB,Nat.le_refl _⟩
  (fun x a' W=>a'={ tmps:=#[Value.agg (pc p),Value.slice A1 l1.length c1,Value.pointer (some ⟨g2,0,none⟩),undef,Value.pointer (some ⟨g4,0,none⟩),Value.pointer (some ⟨g5,0,none⟩),Value.int .u8 x,Value.slice (some ⟨gb,0,none⟩) 0 288,Value.agg (pc p),Value.func (Fn.func 63) #[] #[Value.pointer (some ⟨gA,0,none⟩)],Value.int .u8 x,undef,undef,undef,undef,undef,undef,undef,undef,undef,undef,undef,undef,undef,undef,undef,undef,undef],defers:=[] })
  (fun x a' s A B row hs hg' hr=>hs)
  ?assign ?body ?done ?stop
 case assign =>
  intro l pre x W K hI hK
  dsimp only [eenc]
  gi_wp2
  exact hK _ _ (KeepsFrom.refl _ _) (fun _ _ _ _ h _=>h) hI rfl
 case body =>
  rintro l pre x a' W hl hlr ⟨h2,h4,hb',h5,hBl,hsz⟩ rfl hpl
  rw [hb9.out] at hpl
  have hc5:W.cell? ⟨g5,0,none⟩=some (.slice (some ⟨gb,0,none⟩) pre.length 288):=(blk_cell h5 0).trans rfl
  have hf5:=blk_frozen h5 0
  have n5:g5 < W.heap.size:=blk_lt h5
  have hcb:W.cell? ⟨gb,pre.length,none⟩=some (.int .u8 0):=(blk_cell hb' pre.length).trans (by rw [pc_get,fz_get hpl];rfl)
  have hfb:=blk_frozen hb' pre.length
  have nb:gb < W.heap.size:=blk_lt hb'
  have hlr:pre.length + 1≤288:=hpl
  gi_wp2
  have hK3:=((KeepsOthers.setCell W ⟨gb,pre.length,none⟩ (.int .u8 x)).trans (KeepsOthers.setCell _ ⟨g5,0,none⟩ (.slice (some ⟨gb,0,none⟩) (pre.length + 1) 288))).trans (KeepsOthers.alloc _ (.cells #[.int .u8 x] 5 (0,0)))
  refine ⟨hK3.from _,fun g o ha hb hg _=>zbB (pt_farO (pt_farO hg hb _) ha _) (zlA (Below.refl _ _) _),zbA (blk_far (blk_far h2 (show g2≠gb by omega) _) (show g2≠g5 by omega) _) _,zbA (blk_far (blk_far h4 (show g4≠gb by omega) _) (show g4≠g5 by omega) _) _,?_,?_,zlA (zlS (zlS hBl hgegb.out) hgeg5.out) _,Nat.le_trans hsz hK3.size⟩
  ·rw [← fz_set hpl,← pc_set]
   exact zbA (blk_far (blk_put hb' _ _ rfl) (show gb≠g5 by omega) _) _
  ·rw [List.length_append]
   exact zbA (blk_put (blk_far h5 (show g5≠gb by omega) _) 0 _ rfl) _
 case done =>
  rintro D xs W hD hxs ⟨h2,h4,hb',h5,hBl,hsz⟩ hKD
  obtain rfl:b=xs:=hxs.symm
  rw [fz_full hb9.out] at hb'
  have hCb:Kd.C (Kd.int .u8) W (some ⟨gb,0,none⟩) b.length b:=by
   have:=pg_C (lo:=0) (m:=288) hb' (by rw [hb9.out];decide) hb9.out
   rw [List.drop_zero,List.take_of_length_le (by rw [hb9.out];decide)] at this
   rw [hb9.out]
   exact this
  have hDw:=hD
  have hc5:W.cell? ⟨g5,0,none⟩=some (.slice (some ⟨gb,0,none⟩) b.length 288):=(blk_cell h5 0).trans rfl
  clear K2 K4 Kb K5
  have s5:g5 < D:=by omega
  have hh_:=zm h2;clear h2;have h2:=hh_;clear hh_;have hh_:=zm h4;clear h4;have h4:=hh_;clear hh_;have hh_:=zm h5;clear h5;have h5:=hh_;clear hh_;have hh_:=zm hBl;clear hBl;have hBl:=hh_;clear hh_;have hh_:=zm hCb;clear hCb;have hCb:=hh_;clear hh_;have hh_:=zm hKD;clear hKD;have hKD:=hh_;clear hh_
  go_wp2_with (first|(go_at_call 45;refine (seal_Mask.calls k _ 288 b _ _ l1 d _ (Kd.C_below (Aside0.out (by assumption)) (by repeat (first|exact Below.refl _ _|with_reducible apply zlN|with_reducible apply zlA|refine below_step ?_ (Aside0.out (by assumption))))) (by have:=hb9.out;omega) (Kd.C_below (Aside0.out (by assumption)) (by repeat (first|exact Below.refl _ _|with_reducible apply zlN|with_reducible apply zlA|refine below_step ?_ (Aside0.out (by assumption))))) (Aside0.out (by assumption)) F1.out).mono ?_;rintro e w2 ⟨v,rfl,ho,hb⟩;obtain ⟨Ad,cd,rfl⟩:=Kd.R_slice ho;have hh_:=zm ho;clear ho;have ho:=hh_;clear hh_;have hh_:=zm hb;clear hb;have hb:=hh_;clear hh_;have hc5':w2.cell? ⟨g5,0,none⟩=some (.slice (some ⟨gb,0,none⟩) b.length 288):=(blk_cell (g:=g5) (zbB (Aside0.out (by assumption)) (by repeat (first|exact Below.refl _ _|with_reducible apply zlN|with_reducible apply zlA|refine below_step ?_ (Aside0.out (by assumption))))) 0).trans rfl;have hf5':=blk_frozen (w:=w2) (g:=g5) (cs:=#[.slice (some ⟨gb,0,none⟩) b.length 288]) (t:=24) (zbB (Aside0.out (by assumption)) (by repeat (first|exact Below.refl _ _|with_reducible apply zlN|with_reducible apply zlA|refine below_step ?_ (Aside0.out (by assumption))))) 0))
  have hgb:=zm (show w.heap.size≤D by omega)
  refine pt_gen (fun W3=>W3.heap[g2]?=some (.cells (pc p) 29 (0,0))∧W3.heap[g4]?=some (.cells (pc pz) 29 (0,0))∧W3.heap[g5]?=some (.cells #[.slice Ad d.length cd] 24 (0,0))∧Kd.R (Kd.int .u8) 5 W3 0 (fun _=>True) (.slice Ad d.length cd) d∧W3.heap[D]?=some (.deferred (some []))∧Below w.heap.size w W3) ⟨blk_far (zbB (Aside0.out (by assumption)) (by repeat (first|exact Below.refl _ _|with_reducible apply zlN|with_reducible apply zlA|refine below_step ?_ (Aside0.out (by assumption))))) (show g2≠g5 by omega) _,blk_far (zbB (Aside0.out (by assumption)) (by repeat (first|exact Below.refl _ _|with_reducible apply zlN|with_reducible apply zlA|refine below_step ?_ (Aside0.out (by assumption))))) (show g4≠g5 by omega) _,blk_put (cs:=#[.slice (some ⟨gb,0,none⟩) b.length 288]) (zbB (Aside0.out (by assumption)) (by repeat (first|exact Below.refl _ _|with_reducible apply zlN|with_reducible apply zlA|refine below_step ?_ (Aside0.out (by assumption))))) 0 _ rfl,Kd.R_lower (Kd.R_set ho.out (g:=g5) (t:=24) (cells:=#[.slice (some ⟨gb,0,none⟩) b.length 288]) (zbB (Aside0.out (by assumption)) (by repeat (first|exact Below.refl _ _|with_reducible apply zlN|with_reducible apply zlA|refine below_step ?_ (Aside0.out (by assumption))))) (by intro q hq;simp [Kd.int,Kd.scalar] at hq;omega) 0 _) (Nat.zero_le _),pt_farO (zbB hKD.out (by repeat (first|exact Below.refl _ _|with_reducible apply zlN|with_reducible apply zlA|refine below_step ?_ (Aside0.out (by assumption))))) (show D≠g5 by omega) _,zlS (by repeat (first|exact Below.refl _ _|with_reducible apply zlN|with_reducible apply zlA|refine below_step ?_ (Aside0.out (by assumption)))) hgeg5.out⟩ ?_
  clear hc5 hc5' hf5' hb h2 h4 h5 hBl hKD ho
  rintro W3 ⟨h2,h4,h5,hR,hKD,hBl⟩
  have hcd:=zm (Kd.R_reads' hR).2.1
  have hCd:=zm (Kd.R_reads' hR).2.2
  have hh_:=zm h2;clear h2;have h2:=hh_;clear hh_;have hh_:=zm h4;clear h4;have h4:=hh_;clear hh_;have hh_:=zm h5;clear h5;have h5:=hh_;clear hh_;have hh_:=zm hR;clear hR;have hR:=hh_;clear hh_;have hh_:=zm hKD;clear hKD;have hKD:=hh_;clear hh_;have hh_:=zm hBl;clear hBl;have hBl:=hh_;clear hh_
  refine pt_only ?_
  refine Cw.dstartD [3] (by as_aux_lemma=>kernel_rfl) rfl (fun wd hb=>?_)
  have hh_:=zm hb;clear hb;have hb:=hh_;clear hh_
  refine zpu 0 ?_
  refine zpu 1 ?_
  refine Cw.dtkD (i:=2) (v:=?_) (a':=?_) (by simp only [List.getElem?_toArray,List.getElem?_cons_succ,List.getElem?_cons_zero];rfl) rfl (by as_aux_lemma=>kernel_rfl) (by rfl) (by exact fun _ _ _ h=>h) ?_ (by repeat (first|exact Below.refl _ _|with_reducible apply zlN|with_reducible apply zlA|refine below_step ?_ (Aside0.out (by assumption)))) ?_ ?_
  rotate_left
  ·intro w' hs_
   have hs:=zm hs_
   clear hs_
   apply Eq.trans
   ·apply pt_ld24
    ·rfl
    ·rfl
    ·exact (zbB (Aside0.out (by assumption)) (by repeat (first|exact Below.refl _ _|with_reducible apply zlN|with_reducible apply zlA|refine below_step ?_ (Aside0.out (by assumption)))))
   ·rfl
  rotate_left
  ·simp only [Act.put,List.setIfInBounds_toArray,List.set_cons_zero,List.set_cons_succ,i64_w,i32_w]
   rfl
  refine Cw.lastD (i:=3) (N:=some 21) (by simp only [List.getElem?_toArray,List.getElem?_cons_succ,List.getElem?_cons_zero];rfl) rfl (by as_aux_lemma=>kernel_rfl) (by decide) (fun K hK=>?_)
  refine pg_putd (g:=g2) (by rfl) rfl (pg_copy (p:=p) (ys:=d) rfl rfl rfl (Kd.C_below (Aside0.out (by assumption)) (by repeat (first|exact Below.refl _ _|with_reducible apply zlN|with_reducible apply zlA|refine below_step ?_ (Aside0.out (by assumption))))) (zbB (Aside0.out (by assumption)) (by repeat (first|exact Below.refl _ _|with_reducible apply zlN|with_reducible apply zlA|refine below_step ?_ (Aside0.out (by assumption))))) (by rw [hp.out,hd.out];decide)) (zbB (Aside0.out (by assumption)) (by repeat (first|exact Below.refl _ _|with_reducible apply zlN|with_reducible apply zlA|refine below_step ?_ (Aside0.out (by assumption))))) ?_
  rintro w4 hq hfar hbel
  have hb4:Aside0 (Below w.heap.size w w4):=⟨hbel _ _ (by repeat (first|exact Below.refl _ _|with_reducible apply zlN|with_reducible apply zlA|refine below_step ?_ (Aside0.out (by assumption)))) hgeg2.out⟩
  have k4:Aside0 (w4.heap[g4]?=some (.cells (pc pz) 29 (0,0))):=⟨by rw [hfar _ (by omega)];exact (zbB (Aside0.out (by assumption)) (by repeat (first|exact Below.refl _ _|with_reducible apply zlN|with_reducible apply zlA|refine below_step ?_ (Aside0.out (by assumption)))))⟩
  have k5:Aside0 (w4.heap[g5]?=some (.cells #[.slice Ad d.length cd] 24 (0,0))):=⟨by rw [hfar _ (by omega)];exact (zbB (Aside0.out (by assumption)) (by repeat (first|exact Below.refl _ _|with_reducible apply zlN|with_reducible apply zlA|refine below_step ?_ (Aside0.out (by assumption)))))⟩
  have kD:Aside0 (w4.heap[D]?=some (.deferred (some []))):=⟨by rw [hfar _ (by omega)];exact zbB hKD.out (by repeat (first|exact Below.refl _ _|with_reducible apply zlN|with_reducible apply zlA|refine below_step ?_ (Aside0.out (by assumption))))⟩
  have kR:Aside0 (Kd.R (Kd.int .u8) 5 w4 0 (fun _=>True) (.slice Ad d.length cd) d):=⟨Kd.R_mono (Kd.R_step (Kd.R_types (Kd.R_below hR.out (by repeat (first|exact Below.refl _ _|with_reducible apply zlN|with_reducible apply zlA|refine below_step ?_ (Aside0.out (by assumption))))) (g:=g2) (t:=29) (cells:=pc p) (zbB (Aside0.out (by assumption)) (by repeat (first|exact Below.refl _ _|with_reducible apply zlN|with_reducible apply zlA|refine below_step ?_ (Aside0.out (by assumption))))) (by intro q hq;simp [Kd.int,Kd.scalar] at hq;omega)) (fun k hk _=>hfar k hk.2)) (fun _ h=>h.1)⟩
  have kC:=zm (Kd.R_reads' kR.out).2.2
  clear hfar hbel
  have hh_:=zm hq;clear hq;have hq:=hh_;clear hh_
  refine hK.out _ _ ?_
  clear hK K
  refine znm (some 21) ?_
  refine zdo ?_
  unfold pt_onlyN
  clear h2 h4 h5 hR hKD hBl hb hCd
  go_wp2_with fail
  refine pt_only ?_
  refine Cw.dstartD [4] (by as_aux_lemma=>kernel_rfl) rfl (fun wd hb=>?_)
  have hh_:=zm hb;clear hb;have hb:=hh_;clear hh_
  refine zpu 0 ?_
  refine zpu 1 ?_
  refine Cw.dtkD (i:=2) (v:=?_) (a':=?_) (by simp only [List.getElem?_toArray,List.getElem?_cons_succ,List.getElem?_cons_zero];rfl) rfl (by as_aux_lemma=>kernel_rfl) (by rfl) (by exact fun _ _ _ h=>h) ?_ (by repeat (first|exact Below.refl _ _|with_reducible apply zlN|with_reducible apply zlA|refine below_step ?_ (Aside0.out (by assumption)))) ?_ ?_
  rotate_left
  ·intro w' hs_
   have hs:=zm hs_
   clear hs_
   apply Eq.trans
   ·apply pt_ld24
    ·rfl
    ·rfl
    ·exact (zbB (Aside0.out (by assumption)) (by repeat (first|exact Below.refl _ _|with_reducible apply zlN|with_reducible apply zlA|refine below_step ?_ (Aside0.out (by assumption)))))
   ·rfl
  rotate_left
  ·simp only [Act.put,List.setIfInBounds_toArray,List.set_cons_zero,List.set_cons_succ,i64_w,i32_w]
   rfl
  refine Cw.dpu (i:=3) (v:=?_) (a':=?_) (by simp only [List.getElem?_toArray,List.getElem?_cons_succ,List.getElem?_cons_zero];rfl) rfl (by as_aux_lemma=>kernel_rfl) (by rfl) (by exact fun _ _ _ h=>h) ?_ ?_ ?_
  rotate_left
  ·intro w'
   apply Eq.trans
   ·apply pg_tail (m:=256)
    ·rfl
    ·rfl
    ·rfl
    ·rfl
    ·rw [hd.out];decide
    ·exact hcd.out
   ·rfl
  rotate_left
  ·simp only [Act.put,List.setIfInBounds_toArray,List.set_cons_zero,List.set_cons_succ,i64_w,i32_w]
   rfl
  refine Cw.lastD (i:=4) (N:=some 26) (by simp only [List.getElem?_toArray,List.getElem?_cons_succ,List.getElem?_cons_zero];rfl) rfl (by as_aux_lemma=>kernel_rfl) (by decide) (fun K hK=>?_)
  refine pg_putd (g:=g2) (by rfl) rfl (pg_copy (p:=splice p 0 (d.take 256)) (ys:=d.drop 256) rfl rfl rfl (pg_Ctail rfl (Kd.C_below (Aside0.out (by assumption)) (by repeat (first|exact Below.refl _ _|with_reducible apply zlN|with_reducible apply zlA|refine below_step ?_ (Aside0.out (by assumption))))) (by rw [hd.out];decide) hcd.out) (zbB (Aside0.out (by assumption)) (by repeat (first|exact Below.refl _ _|with_reducible apply zlN|with_reducible apply zlA|refine below_step ?_ (Aside0.out (by assumption))))) (by rw [splice_len (by rw [List.length_take,hd.out,hp.out];decide),hp.out,List.length_drop,hd.out];decide)) (zbB (Aside0.out (by assumption)) (by repeat (first|exact Below.refl _ _|with_reducible apply zlN|with_reducible apply zlA|refine below_step ?_ (Aside0.out (by assumption))))) ?_
  rintro w5 hq5 hfar hbel
  rw [pt_splice hp.out hd.out] at hq5
  have hb5:Aside0 (Below w.heap.size w w5):=⟨hbel _ _ (by repeat (first|exact Below.refl _ _|with_reducible apply zlN|with_reducible apply zlA|refine below_step ?_ (Aside0.out (by assumption)))) hgeg2.out⟩
  have j4:Aside0 (w5.heap[g4]?=some (.cells (pc pz) 29 (0,0))):=⟨by rw [hfar _ (by omega)];exact (zbB (Aside0.out (by assumption)) (by repeat (first|exact Below.refl _ _|with_reducible apply zlN|with_reducible apply zlA|refine below_step ?_ (Aside0.out (by assumption)))))⟩
  have jD:Aside0 (w5.heap[D]?=some (.deferred (some []))):=⟨by rw [hfar _ (by omega)];exact zbB kD.out (by repeat (first|exact Below.refl _ _|with_reducible apply zlN|with_reducible apply zlA|refine below_step ?_ (Aside0.out (by assumption))))⟩
  clear hfar hbel
  have hh_:=zm hq5;clear hq5;have hq5:=hh_;clear hh_
  refine hK.out _ _ ?_
  clear hK K
  refine znm (some 26) ?_
  refine zdo ?_
  unfold pt_onlyN
  go_wp2_with (first|((with_reducible refine gate_ (.load 29 _) rfl ?_);refine Kd.event_run rfl (pg_load rfl rfl hq5.out hd.out) ?_)|((with_reducible refine gate_ (.store 29 _ _) rfl ?_);refine pg_put (g:=g4) (q:=d) rfl rfl (pg_store rfl rfl rfl j4.out pz_len hd.out) j4.out ?_;rintro w6 hq6 hfar hbel;have hb6:Aside0 (Below w.heap.size w w6):=⟨hbel _ _ hb5.out hgeg4.out⟩;have lD:Aside0 (w6.heap[D]?=some (.deferred (some []))):=⟨by rw [hfar _ (by omega)];exact jD.out⟩;clear hfar hbel;have hh_:=zm hq6;clear hq6;have hq6:=hh_;clear hh_))
  all_goals
   refine ⟨by simp,.inl ⟨_,_,rfl,run_takeDeferred lD.out,?_⟩⟩
   exact ⟨_,results_cell_row rfl _ _ g4 29 (pc d) (0,0) _ rfl ((World.putObj_heap_other (show g4≠D by omega)).trans hq6.out) Try.underlying29 rfl (pg_size hd.out),rfl,hb6.out.grown (grownBy_putObj' _ D _) hb6.out.size (fun q e=>by cases e;exact hgb.out)⟩
 case stop =>
  rintro D c pre W hD _ h
  exact h.elim
end
end Go.Proofs.Ytdohpjjggjehfaa.Print
end
section
namespace Go.Proofs.Ytdohpjjggjehfaa.Print
open Go.RowKit Go.Proofs.YtdohpjjggjehfaaW.PrintWords Go.Proofs.YtdohpjjggjehfaaW.PrintLast Go.Proofs.YtdohpjjggjehfaaW.PrintMore
attribute [local go_sem] max2_int min2_int max_two min_two max_three min_three max_four min_four   -- for this text's walks alone
attribute [local go_sem ↓] Go.Proofs.Ytdohpjjggjehfaa.Sem.isSome_setCell
attribute [local go_sem] Go.Instr.field Go.asAgg
set_option linter.unusedVariables false
set_option linter.unusedSimpArgs false
-- CX
-- PG
def slipwayref03_of.f (l0:List Int):Option (List Int):=if 288≤l0.length then some (l0.take 288) else none
def ofs (l:List Int) (i:Nat):List Int:=l.take i ++ List.replicate (288 - i) 0
theorem ofs_len {l:List Int} {i:Nat} (hl:288≤l.length) (h:i≤288):(ofs l i).length=288:=by unfold ofs;rw [List.length_append,List.length_take,List.length_replicate];omega
theorem ofs_set {l:List Int} {i:Nat} (hl:288≤l.length) (h:i < 288):(ofs l i).set i (rd l (i:Int))=ofs l (i + 1):=by
 have hil:i < l.length:=by omega
 unfold ofs
 obtain ⟨d,hd⟩:∃ d,288 - i=d + 1:=⟨288 - i - 1,by omega⟩
 have hd':288 - (i + 1)=d:=by omega
 have hr:rd l (i:Int)=l[i]:=by simp [rd,List.getD_eq_getElem?_getD,hil]
 rw [hd,hd',List.set_append_right _ _ (by rw [List.length_take];omega),List.length_take,Nat.min_eq_left (by omega),Nat.sub_self,List.replicate_succ,List.set_cons_zero,List.take_add_one,List.getElem?_eq_getElem hil,hr,List.append_assoc]
 rfl
theorem ofs_end (l:List Int):ofs l 288=l.take 288:=by unfold ofs;rw [Nat.sub_self,List.replicate_zero,List.append_nil]
theorem ofs_zero (l:List Int):ofs l 0=pz:=by unfold ofs pz;rw [List.take_zero,List.nil_append]
set_option maxHeartbeats 4000000 in
set_option maxRecDepth 100000 in
theorem slipwayref03_of.calls (A0:Option Addr) (c0:Nat) (l0:List Int) (r:List Int) (w:World) (hr0:Kd.C (Kd.int .u8) w A0 l0.length l0) (hc0:l0.length≤c0) (h:slipwayref03_of.f l0=some r) :
  Calls Try.prog 35 #[.slice A0 l0.length c0] w fun e w'=>e=.returned (.agg (pc r))∧Below w.heap.size w w':=by
 have hu29:=Try.underlying29
 unfold slipwayref03_of.f at h
 obtain ⟨hl,h⟩:=Cw.gt_ h
 obtain rfl:=Option.some.inj h
 clear h
 have hh_:=zm hr0;clear hr0;have hr0:=hh_;clear hh_;have hh_:=zm hc0;clear hc0;have hc0:=hh_;clear hh_;have hh_:=zm hl;clear hl;have hl:=hh_;clear hh_
 go_enter Try.func35,Try.ntmps35
 go_wp2_with (first|((with_reducible refine gate_dst (N:=2) rfl ?_);(with_reducible refine gate_ (.alloc 29) rfl ?_);refine box_event rfl rfl (pg_new rfl) ?_;rintro g0 hg w1 hbk hb;have hge0:Aside0 (w.heap.size≤g0):=⟨by rw [hg];exact below_size (by repeat (first|exact Below.refl _ _|with_reducible apply zlN|with_reducible apply zlA|refine below_step ?_ (Aside0.out (by assumption))))⟩;clear hg;have hh_:=zm hbk;clear hbk;have hbk:=hh_;clear hh_;have hh_:=zm hb;clear hb;have hb:=hh_;clear hh_)|((with_reducible refine gate_dst (N:=3) rfl ?_);(with_reducible refine gate_ (.alloc 29) rfl ?_);refine box_event rfl rfl (pg_new rfl) ?_;rintro g1 hg w1 hbk hb;have hge:Aside0 (w.heap.size≤g1):=⟨by rw [hg];exact below_size (by repeat (first|exact Below.refl _ _|with_reducible apply zlN|with_reducible apply zlA|refine below_step ?_ (Aside0.out (by assumption))))⟩;have hne:Aside0 (g0≠g1):=⟨by rw [hg];exact Nat.ne_of_lt (blk_lt (g:=g0) (o:=.cells (pc pz) 29 (0,0)) (zbB (Aside0.out (by assumption)) (by repeat (first|exact Below.refl _ _|with_reducible apply zlN|with_reducible apply zlA|refine below_step ?_ (Aside0.out (by assumption))))))⟩;clear hg;have hh_:=zm hbk;clear hbk;have hbk:=hh_;clear hh_;have hh_:=zm hb;clear hb;have hb:=hh_;clear hh_))
 have h0:Aside0 (w1.heap[g1]?=some (Obj.cells (pc (ofs l0 0)) 29 (0,0))):=⟨by rw [ofs_zero];exact (zbB (Aside0.out (by assumption)) (by repeat (first|exact Below.refl _ _|with_reducible apply zlN|with_reducible apply zlA|refine below_step ?_ (Aside0.out (by assumption)))))⟩
 go_loopw [4] (fun i wr=>∃ (j:Nat),i=.int .i64 (j:Int)∧Aside0 (j≤256)∧Aside0 (wr.heap[g1]?=some (.cells (pc (ofs l0 j)) 29 (0,0)))∧Aside0 (wr.heap[g0]?=some (.cells (pc pz) 29 (0,0)))∧Aside0 (Below w.heap.size w wr)) (fun i _=>256 - (intOf i).toNat)
 case atStart=>exact ⟨0,by simp,⟨by omega⟩,h0,⟨(zbB (Aside0.out (by assumption)) (by repeat (first|exact Below.refl _ _|with_reducible apply zlN|with_reducible apply zlA|refine below_step ?_ (Aside0.out (by assumption)))))⟩,⟨(by repeat (first|exact Below.refl _ _|with_reducible apply zlN|with_reducible apply zlA|refine below_step ?_ (Aside0.out (by assumption))))⟩⟩
 case round =>
  obtain ⟨j,rfl,hj,hBK,hB0,hbr⟩:=hrel
  have hj:=hj.out
  clear h0 hbk hb
  by_cases hlt:j < 256
  ·have hjn:0≤(j:Int):=by omega
   have hj2:(j:Int) < 256:=by omega
   have hj3:(j:Int) < (l0.length:Int):=by have:=hl.out;omega
   obtain ⟨ad,hA,hx⟩:=Kd.at_int (Kd.C_below hr0.out hbr.out) (j:Int) hjn hj3
   subst hA
   rw [Int.toNat_natCast] at hx
   go_wp2_with (first|((with_reducible refine gate_ (.store 5 _ _) rfl ?_);refine pg_put (g:=g1) (q:=ofs l0 (j + 1)) rfl rfl (by refine (pg_set (p:=ofs l0 (j)) (i:=j) rfl ?_ rfl hBK.out (by rw [ofs_len hl.out (by omega)];omega)).trans ?_;exact rfl;skip;rw [ofs_set hl.out (by omega)]) hBK.out ?_;rintro w2 hq hfar hbel;have hb2:Aside0 (Below w.heap.size w w2):=⟨hbel _ _ hbr.out hge.out⟩;have h02:Aside0 (w2.heap[g0]?=some (Obj.cells (pc pz) 29 (0,0))):=⟨by rw [hfar _ hne.out];exact hB0.out⟩;clear hfar hbel;have hh_:=zm hq;clear hq;have hq:=hh_;clear hh_))
   exact ⟨⟨j + 1,by simp,⟨by omega⟩,hq,h02,hb2⟩,er_meas (by omega) rfl (by omega)⟩
  ·obtain rfl:j=256:=by omega
   have hj2:decide (((256:Nat):Int) < 256)=false:=rfl
   go_wp2
   have h1:Aside0 (wr.heap[g1]?=some (Obj.cells (pc (ofs l0 (256 + 0))) 29 (0,0))):=hBK
   clear hBK
   go_loopw [5] (fun i wr=>∃ (j:Nat),i=.int .i64 (j:Int)∧Aside0 (j≤32)∧Aside0 (wr.heap[g1]?=some (.cells (pc (ofs l0 (256 + j))) 29 (0,0)))∧Aside0 (wr.heap[g0]?=some (.cells (pc pz) 29 (0,0)))∧Aside0 (Below w.heap.size w wr)) (fun i _=>32 - (intOf i).toNat)
   case atStart=>exact ⟨0,by simp,⟨by omega⟩,h1,hB0,hbr⟩
   case round =>
    clear hB0 hbr h1
    obtain ⟨j,rfl,hj,hBK,hB0,hbr⟩:=hrel
    have hj:=hj.out
    by_cases hlt:j < 32
    ·have hjn:0≤(j:Int):=by omega
     have hj2:(j:Int) < 32:=by omega
     have hjm:0≤(256 + (j:Int)):=by omega
     have hj3:256 + (j:Int) < (l0.length:Int):=by have:=hl.out;omega
     obtain ⟨ad,hA,hx⟩:=Kd.at_int (Kd.C_below hr0.out hbr.out) (256 + (j:Int)) hjm hj3
     subst hA
     have e1:(256 + (j:Int)).toNat=256 + j:=by omega
     rw [e1] at hx
     go_wp2_with (first|((with_reducible refine gate_ (.store 5 _ _) rfl ?_);refine pg_put (g:=g1) (q:=ofs l0 (256 + j + 1)) rfl rfl (by refine (pg_set (p:=ofs l0 (256 + j)) (i:=256 + j) rfl ?_ rfl hBK.out (by rw [ofs_len hl.out (by omega)];omega)).trans ?_;exact rfl;rw [show (256 + (j:Int))=((256 + j:Nat):Int) by omega];rw [ofs_set hl.out (by omega)]) hBK.out ?_;rintro w2 hq hfar hbel;have hb2:Aside0 (Below w.heap.size w w2):=⟨hbel _ _ hbr.out hge.out⟩;have h02:Aside0 (w2.heap[g0]?=some (Obj.cells (pc pz) 29 (0,0))):=⟨by rw [hfar _ hne.out];exact hB0.out⟩;clear hfar hbel;have hh_:=zm hq;clear hq;have hq:=hh_;clear hh_))
     exact ⟨⟨j + 1,by simp,⟨by omega⟩,hq,h02,hb2⟩,er_meas (by omega) rfl (by omega)⟩
    ·obtain rfl:j=32:=by omega
     have hj2:decide (((32:Nat):Int) < 32)=false:=rfl
     go_wp2_with (first|((with_reducible refine gate_ (.load 29 _) rfl ?_);refine Kd.event_run rfl (pg_load rfl rfl hBK.out (ofs_len hl.out (by omega))) ?_)|((with_reducible refine gate_ (.store 29 _ _) rfl ?_);refine pg_put (g:=g0) (q:=ofs l0 288) rfl rfl (pg_store rfl rfl rfl hB0.out pz_len (ofs_len hl.out (by omega))) hB0.out ?_;rintro w2 hq hfar hbel;have hb2:Aside0 (Below w.heap.size w w2):=⟨hbel _ _ hbr.out hge0.out⟩;clear hfar hbel;have hh_:=zm hq;clear hq;have hq:=hh_;clear hh_))
     refine bodyPost_ret (results_cell_row rfl _ _ g0 29 (pc (ofs l0 288)) (0,0) _ rfl hq.out Try.underlying29 rfl (pg_size (ofs_len hl.out (by omega)))) rfl ?_
     exact ⟨by rw [ofs_end],hb2.out⟩
end Go.Proofs.Ytdohpjjggjehfaa.Print
end
section
namespace Go.Proofs.Ytdohpjjggjehfaa.Print
open Go.RowKit Go.Proofs.YtdohpjjggjehfaaW.PrintWords Go.Proofs.YtdohpjjggjehfaaW.PrintLast Go.Proofs.YtdohpjjggjehfaaW.PrintMore
attribute [local go_sem] max2_int min2_int max_two min_two max_three min_three max_four min_four   -- for this text's walks alone
attribute [local go_sem ↓] Go.Proofs.Ytdohpjjggjehfaa.Sem.isSome_setCell
attribute [local go_sem] Go.Instr.field Go.asAgg
set_option linter.unusedVariables false
set_option linter.unusedSimpArgs false
def slipwayref01_Mask.l0:Nat → List Int → List Int → List Int → Int → Option (List Int)
 | 0,_,_,_,_=>none
 | k + 1,x0,x1,x5,x6=>if x6 < (x0.length:Int) then (if 0≤x6 then (if (x1.length:Int) > 0 then (if (x1.length:Int)=0 then (none) else (if 0≤(Int.tmod x6 (x1.length:Int)) then (if (Int.tmod x6 (x1.length:Int)) < (x1.length:Int) then (if x5.length < 140737488355328 then (slipwayref01_Mask.l0 k x0 x1 (x5 ++ [Go.bits .or .u8 (rd x0 x6) (rd x1 (Int.tmod x6 (x1.length:Int)))]) (wrap64 (x6 + 1))) else (none)) else (none)) else (none))) else (if x5.length < 140737488355328 then (slipwayref01_Mask.l0 k x0 x1 (x5 ++ [rd x0 x6]) (wrap64 (x6 + 1))) else (none))) else (none)) else (some x5)
def slipwayref01_Mask.f (k:Nat) (l0:List Int) (l1:List Int):Option (List Int):=slipwayref01_Mask.l0 k l0 l1 ([]:List Int) 0
set_option maxHeartbeats 8000000 in
set_option maxRecDepth 100000 in
theorem slipwayref01_Mask.calls (k:Nat) (A0:Option Addr) (c0:Nat) (l0:List Int) (A1:Option Addr) (c1:Nat) (l1:List Int) (r:List Int) (w:World) (hr0:Kd.C (Kd.int .u8) w A0 l0.length l0) (hc0:l0.length≤c0) (hr1:Kd.C (Kd.int .u8) w A1 l1.length l1) (hc1:l1.length≤c1) (h:slipwayref01_Mask.f k l0 l1=some r) :
  Calls Try.prog 46 #[.slice A0 l0.length c0,.slice A1 l1.length c1] w fun e w'=>∃ v0_:Value,e=.returned (v0_)∧Kd.R (Kd.int .u8) 5 w' w.heap.size (fun _=>True) v0_ r∧Below w.heap.size w w':=by
 have HR0:=zm hr0
 have HC0:=zm hc0
 clear hr0 hc0
 have HR1:=zm hr1
 have HC1:=zm hc1
 clear hr1 hc1
 have HB:=zm (Below.refl w.heap.size w)
 have H:(slipwayref01_Mask.l0 k l0 l1 ([]:List Int) 0)=some r:=h
 clear h
 have H':=zm H
 clear H
 go_enter Try.func46,Try.ntmps46
 go_wp2
 go_loopg [5,6] k (fun kq v5 v6 w'=>∃ (x5_1:List Int) (x6_1:Int),v6=.int .i64 x6_1∧Aside0 (slipwayref01_Mask.l0 kq l0 l1 x5_1 x6_1=some r)∧Aside0 (kq≤k)∧Aside0 (Kd.R (Kd.int .u8) 5 w' w.heap.size (fun _=>True) v5 x5_1)∧Aside0 (Below w.heap.size w w'))
 case atStart=>exact ⟨(([]:List Int)),(0),zs_,H',⟨Nat.le_refl _⟩,⟨zr_⟩,⟨zb_⟩⟩
 case round =>
  clear H'
  try clear c1
  try clear p2
  obtain ⟨x5_1,x6_1,rfl,HA,HK1,HO_5,HB⟩:=hrel
  cases gk with
  | zero=>exact absurd HA.out (by simp [slipwayref01_Mask.l0])
  | succ k1 =>
   have H:=HA.out
   clear HA
   simp only [slipwayref01_Mask.l0] at H
   by_cases c3:x6_1 < (l0.length:Int)
   ·rw [if_pos c3] at H
    have c3b0:decide (x6_1 < (l0.length:Int))=true:=decide_eq_true c3
    clear c3
    by_cases c4:0≤x6_1
    ·rw [if_pos c4] at H
     have c4b0:decide (0≤x6_1)=true:=decide_eq_true c4
     clear c4
     by_cases c5:(l1.length:Int) > 0
     ·rw [if_pos c5] at H
      have c5b0:decide (0 < (l1.length:Int))=true:=decide_eq_true c5
      have c5b1:decide (0 < l1.length)=true:=decide_eq_true (by omega)
      clear c5
      by_cases c6:(l1.length:Int)=0
      ·rw [if_pos c6] at H
       exact absurd H (by simp)
      ·rw [if_neg c6] at H
       have c6b0:((l1.length:Int) == 0)=false:=beq_eq_false_iff_ne.mpr c6
       have c6b1:((l1.length:Int) != 0)=true:=bne_iff_ne.mpr c6
       have c6b2:¬ (l1=[]):=fun h_=>c6 (by rw [h_];rfl)
       obtain ⟨ji7,hji7⟩:∃ j_:Int,(Int.tmod x6_1 (l1.length:Int))=j_:=⟨_,rfl⟩
       replace H:(if 0≤(ji7) then (if (ji7) < (l1.length:Int) then (if x5_1.length < 140737488355328 then (slipwayref01_Mask.l0 k1 l0 l1 (x5_1 ++ [Go.bits .or .u8 (rd l0 x6_1) (rd l1 (ji7))]) (wrap64 (x6_1 + 1))) else (none)) else (none)) else (none))=some r:=by first|(rw [hji7] at H;exact H)|(simp only [hji7] at H ⊢;exact H)
       by_cases c8:0≤(ji7)
       ·rw [if_pos c8] at H
        have c8b0:decide (0≤(ji7))=true:=decide_eq_true c8
        clear c8
        by_cases c9:(ji7) < (l1.length:Int)
        ·rw [if_pos c9] at H
         have c9b0:decide ((ji7) < (l1.length:Int))=true:=decide_eq_true c9
         clear c9
         by_cases c10:x5_1.length < 140737488355328
         ·rw [if_pos c10] at H
          have LMc10:=zm c10
          clear c10
          obtain ⟨y267,hy267⟩:∃ y_:List Int,y_=(x5_1 ++ [Go.bits .or .u8 (rd l0 x6_1) (rd l1 (ji7))]):=⟨_,rfl⟩
          replace H:(slipwayref01_Mask.l0 k1 l0 l1 y267 (wrap64 (x6_1 + 1)))=some r:=by first|(rw [hy267];with_reducible exact H)|(have H2_:=(Option.bind_some _ _).symm.trans H;rw [hy267];with_reducible exact H2_)|(have H2_:=(Option.bind_some _ _).symm.trans H;with_reducible exact H2_)|with_reducible exact H|(rw [hy267];exact H)|exact H
          have Ny267:=zm hy267
          clear hy267
          have H':=zm H
          clear H
          have p265:0≤(x6_1:Int):=za_
          have q265:x6_1 < (l0.length:Int):=za_
          obtain ⟨ad265,e265,hx265_0⟩:=Kd.at_int HR0.out x6_1 p265 q265
          cases e265
          replace hx265_0:=zhx HB hx265_0
          replace p265:=eq_true p265
          replace q265:=eq_true q265
          have p266:0≤((ji7):Int):=za_
          have q266:(ji7) < (l1.length:Int):=za_
          obtain ⟨ad266,e266,hx266_0⟩:=Kd.at_int HR1.out (ji7) p266 q266
          cases e266
          replace hx266_0:=zhx HB hx266_0
          replace p266:=eq_true p266
          replace q266:=eq_true q266
          go_wp2_with (first|((with_reducible refine gate_builtin (b:=.append) (xs:=#[.tmp 30,.tmp 32]) rfl ?_);at_builtin;refine Kd.R_append (Kd.int .u8) (w0:=w) w.heap.size rfl (.tmp 30) (.tmp 32) 24 5 (.int .u8 0) 1 rfl Try.underlying24 info5 rfl (by decide) (by omega) u5 x5_1 (Go.bits .or .u8 (rd l0 x6_1) (rd l1 (ji7))) [.int .u8 (Go.bits .or .u8 (rd l0 x6_1) (rd l1 (ji7)))] (fun _=>True) (fun _=>False) rfl rfl ?aP (fun _ hk=>hk.elim) ?aF ?aO ?aB ?aS ?aL ?_;(case aP=>exact rfl);(case aB=>exact (zb_));(case aF=>exact (fun _ _=>trivial));(case aO=>exact (by (with_reducible repeat (first|apply zrA|apply zrN|apply zrD));exact HO_5.out));(case aS=>exact (below_size (zb_)));(case aL=>have:=LMc10.out;omega);intro v268 w11 ho hb hg hat;rw [← Ny267.out] at ho;have n0_:=zm (hb);have n1_:=zm (ho);clear HB HO_5;have HB:=n0_;have HO269:=n1_;clear n0_ n1_;clear ho hb hg hat))
          go_roundg k1
          case measure=>have:=HK1.out;omega
          case rel=>exact ⟨(y267),(wrap64 (x6_1 + 1)),zs_,H',⟨by have:=HK1.out;omega⟩,⟨by (with_reducible repeat (first|apply zrA|apply zrN|apply zrD));exact HO269.out⟩,⟨zb_⟩⟩
         ·rw [if_neg c10] at H
          exact absurd H (by simp)
        ·rw [if_neg c9] at H
         exact absurd H (by simp)
       ·rw [if_neg c8] at H
        exact absurd H (by simp)
     ·rw [if_neg c5] at H
      have c5b0:decide (0 < (l1.length:Int))=false:=decide_eq_false c5
      have c5b1:decide (0 < l1.length)=false:=decide_eq_false (by omega)
      clear c5
      by_cases c12:x5_1.length < 140737488355328
      ·rw [if_pos c12] at H
       have LMc12:=zm c12
       clear c12
       obtain ⟨y270,hy270⟩:∃ y_:List Int,y_=(x5_1 ++ [rd l0 x6_1]):=⟨_,rfl⟩
       replace H:(slipwayref01_Mask.l0 k1 l0 l1 y270 (wrap64 (x6_1 + 1)))=some r:=by first|(rw [hy270];with_reducible exact H)|(have H2_:=(Option.bind_some _ _).symm.trans H;rw [hy270];with_reducible exact H2_)|(have H2_:=(Option.bind_some _ _).symm.trans H;with_reducible exact H2_)|with_reducible exact H|(rw [hy270];exact H)|exact H
       have Ny270:=zm hy270
       clear hy270
       have H':=zm H
       clear H
       have p265:0≤(x6_1:Int):=za_
       have q265:x6_1 < (l0.length:Int):=za_
       obtain ⟨ad265,e265,hx265_0⟩:=Kd.at_int HR0.out x6_1 p265 q265
       cases e265
       replace hx265_0:=zhx HB hx265_0
       replace p265:=eq_true p265
       replace q265:=eq_true q265
       go_wp2_with (first|((with_reducible refine gate_builtin (b:=.append) (xs:=#[.tmp 30,.tmp 32]) rfl ?_);at_builtin;refine Kd.R_append (Kd.int .u8) (w0:=w) w.heap.size rfl (.tmp 30) (.tmp 32) 24 5 (.int .u8 0) 1 rfl Try.underlying24 info5 rfl (by decide) (by omega) u5 x5_1 (rd l0 x6_1) [.int .u8 (rd l0 x6_1)] (fun _=>True) (fun _=>False) rfl rfl ?aP (fun _ hk=>hk.elim) ?aF ?aO ?aB ?aS ?aL ?_;(case aP=>exact rfl);(case aB=>exact (zb_));(case aF=>exact (fun _ _=>trivial));(case aO=>exact (by (with_reducible repeat (first|apply zrA|apply zrN|apply zrD));exact HO_5.out));(case aS=>exact (below_size (zb_)));(case aL=>have:=LMc12.out;omega);intro v271 w13 ho hb hg hat;rw [← Ny270.out] at ho;have n0_:=zm (hb);have n1_:=zm (ho);clear HB HO_5;have HB:=n0_;have HO272:=n1_;clear n0_ n1_;clear ho hb hg hat))
       go_roundg k1
       case measure=>have:=HK1.out;omega
       case rel=>exact ⟨(y270),(wrap64 (x6_1 + 1)),zs_,H',⟨by have:=HK1.out;omega⟩,⟨by (with_reducible repeat (first|apply zrA|apply zrN|apply zrD));exact HO272.out⟩,⟨zb_⟩⟩
      ·rw [if_neg c12] at H
       exact absurd H (by simp)
    ·rw [if_neg c4] at H
     exact absurd H (by simp)
   ·rw [if_neg c3] at H
    have c3b0:decide (x6_1 < (l0.length:Int))=false:=decide_eq_false c3
    clear c3
    obtain rfl:=Option.some.inj H
    go_wp2
    go_ret
    exact ⟨_,ze_,by (with_reducible repeat (first|apply zrA|apply zrN|apply zrD));exact HO_5.out,zb_⟩
end Go.Proofs.Ytdohpjjggjehfaa.Print
end
section
namespace Go.Proofs.Ytdohpjjggjehfaa.Print
open Go.RowKit Go.Proofs.YtdohpjjggjehfaaW.PrintWords Go.Proofs.YtdohpjjggjehfaaW.PrintLast Go.Proofs.YtdohpjjggjehfaaW.PrintMore
attribute [local go_sem] max2_int min2_int max_two min_two max_three min_three max_four min_four   -- for this text's walks alone
attribute [local go_sem ↓] Go.Proofs.Ytdohpjjggjehfaa.Sem.isSome_setCell
attribute [local go_sem] Go.Instr.field Go.asAgg
set_option linter.unusedVariables false
set_option linter.unusedSimpArgs false
-- CX
-- PG
def slipwayref03_Tear.f (k:Nat) (p l1:List Int):Option (List Int) :=
 if p.length=288 then (slipwayref01_Mask.f k p l1).bind fun b=>(slipwayref03_of.f b).bind fun r=>if r.length=288 then some r else none else none
set_option maxHeartbeats 4000000 in
set_option maxRecDepth 100000 in
theorem slipwayref03_Tear.calls (k:Nat) (p:List Int) (A1:Option Addr) (c1:Nat) (l1:List Int) (r:List Int) (w:World) (hr1:Kd.C (Kd.int .u8) w A1 l1.length l1) (hc1:l1.length≤c1) (h:slipwayref03_Tear.f k p l1=some r) :
  Calls Try.prog 23 #[.agg (pc p),.slice A1 l1.length c1] w fun e w'=>e=.returned (.agg (pc r))∧Below w.heap.size w w':=by
 have hu29:=Try.underlying29
 have H:slipwayref03_Tear.f k p l1=some r:=h
 clear h
 have hh_:=zm hr1;clear hr1;have hr1:=hh_;clear hh_;have hh_:=zm hc1;clear hc1;have hc1:=hh_;clear hh_
 unfold slipwayref03_Tear.f at H
 have hg_:=Cw.gt_ H;clear H;obtain ⟨hp,H⟩:=hg_;have hg_:=Option.bind_eq_some_iff.mp H;clear H;obtain ⟨b,F0,H⟩:=hg_;have hh_:=zm F0;clear F0;have F0:=hh_;clear hh_;(try dsimp only at H);have hg_:=Option.bind_eq_some_iff.mp H;clear H;obtain ⟨r1,F1,H⟩:=hg_;have hh_:=zm F1;clear F1;have F1:=hh_;clear hh_;(try dsimp only at H);have hg_:=Cw.gt_ H;clear H;obtain ⟨hr,H⟩:=hg_
 obtain rfl:=Option.some.inj H
 clear H
 have hh_:=zm hp;clear hp;have hp:=hh_;clear hh_;have hh_:=zm hr;clear hr;have hr:=hh_;clear hh_
 go_enter Try.func23,Try.ntmps23
 go_wp2_with (first|((with_reducible refine gate_ (.box 29 _) rfl ?_);refine box_event rfl rfl (pg_box rfl rfl) ?_;rintro g2 hg w1 hbk hb;skip;clear hg;have hh_:=zm hbk;clear hbk;have hbk:=hh_;clear hh_;have hh_:=zm hb;clear hb;have hb:=hh_;clear hh_)|((with_reducible refine gate_dst (N:=4) rfl ?_);(with_reducible refine gate_ (.alloc 29) rfl ?_);refine box_event rfl rfl (pg_new rfl) ?_;rintro g4 hg w1 hbk hb;have hge4:Aside0 (w.heap.size≤g4):=⟨by rw [hg];exact below_size (by repeat (first|exact Below.refl _ _|with_reducible apply zlN|with_reducible apply zlA|refine below_step ?_ (Aside0.out (by assumption))))⟩;clear hg;have hh_:=zm hbk;clear hbk;have hbk:=hh_;clear hh_;have hh_:=zm hb;clear hb;have hb:=hh_;clear hh_)|((with_reducible refine gate_ (.load 29 _) rfl ?_);refine Kd.event_run rfl (pg_load rfl rfl (zbB (Aside0.out (by assumption)) (by repeat (first|exact Below.refl _ _|with_reducible apply zlN|with_reducible apply zlA|refine below_step ?_ (Aside0.out (by assumption))))) hp.out) ?_)|(go_at_call 42;refine (slipwayref03_Bytes.calls p p _ (if_pos hp.out)).mono ?_;rintro e w1 ⟨vb,rfl,ho,hb⟩;obtain ⟨Ab,cbb,rfl⟩:=Kd.R_slice ho;have hrb:=zm (Kd.R_reads' ho).2.2;have hcb:=zm (Kd.R_reads' ho).2.1;clear ho;have hh_:=zm hb;clear hb;have hb:=hh_;clear hh_)|(go_at_call 46;refine (slipwayref01_Mask.calls k Ab cbb p _ _ l1 b _ (Kd.C_below (Aside0.out (by assumption)) (by repeat (first|exact Below.refl _ _|with_reducible apply zlN|with_reducible apply zlA|refine below_step ?_ (Aside0.out (by assumption))))) hcb.out (Kd.C_below (Aside0.out (by assumption)) (by repeat (first|exact Below.refl _ _|with_reducible apply zlN|with_reducible apply zlA|refine below_step ?_ (Aside0.out (by assumption))))) (Aside0.out (by assumption)) F0.out).mono ?_;rintro e w1 ⟨vd,rfl,ho,hb⟩;obtain ⟨Ad,cd,rfl⟩:=Kd.R_slice ho;have hrd:=zm (Kd.R_reads' ho).2.2;have hcd:=zm (Kd.R_reads' ho).2.1;clear ho;have hh_:=zm hb;clear hb;have hb:=hh_;clear hh_)|(go_at_call 35;refine (slipwayref03_of.calls Ad cd b r1 _ (Kd.C_below (Aside0.out (by assumption)) (by repeat (first|exact Below.refl _ _|with_reducible apply zlN|with_reducible apply zlA|refine below_step ?_ (Aside0.out (by assumption))))) hcd.out F1.out).mono ?_;rintro e w1 ⟨rfl,hb⟩;have hh_:=zm hb;clear hb;have hb:=hh_;clear hh_)|((with_reducible refine gate_ (.store 29 (.tmp 4) _) rfl ?_);refine pg_put (g:=g4) (q:=r1) rfl rfl (pg_store rfl rfl rfl (zbB (Aside0.out (by assumption)) (by repeat (first|exact Below.refl _ _|with_reducible apply zlN|with_reducible apply zlA|refine below_step ?_ (Aside0.out (by assumption))))) pz_len hr.out) (zbB (Aside0.out (by assumption)) (by repeat (first|exact Below.refl _ _|with_reducible apply zlN|with_reducible apply zlA|refine below_step ?_ (Aside0.out (by assumption))))) ?_;rintro w2 hq hfar hbel;have hb2:Aside0 (Below w.heap.size w w2):=⟨hbel _ _ (by repeat (first|exact Below.refl _ _|with_reducible apply zlN|with_reducible apply zlA|refine below_step ?_ (Aside0.out (by assumption)))) hge4.out⟩;clear hfar hbel;have hh_:=zm hq;clear hq;have hq:=hh_;clear hh_))
 refine bodyPost_ret (results_cell_row rfl _ _ g4 29 (pc r1) (0,0) _ rfl hq.out Try.underlying29 rfl (pg_size hr.out)) rfl ?_
 exact ⟨rfl,hb2.out⟩
end Go.Proofs.Ytdohpjjggjehfaa.Print
end
section
namespace Go.Proofs.Ytdohpjjggjehfaa.Print
open Go.RowKit Go.Proofs.YtdohpjjggjehfaaW.PrintWords Go.Proofs.YtdohpjjggjehfaaW.PrintLast Go.Proofs.YtdohpjjggjehfaaW.PrintMore
attribute [local go_sem] max2_int min2_int max_two min_two max_three min_three max_four min_four   -- for this text's walks alone
attribute [local go_sem ↓] Go.Proofs.Ytdohpjjggjehfaa.Sem.isSome_setCell
attribute [local go_sem] Go.Instr.field Go.asAgg
set_option linter.unusedVariables false
set_option linter.unusedSimpArgs false
-- CX
-- PG
theorem re_of:slipwayref03_of.f (List.replicate 288 255)=some (List.replicate 288 255):=by
 unfold slipwayref03_of.f
 rw [if_pos (by rw [List.length_replicate];exact Nat.le_refl _),List.take_of_length_le (by rw [List.length_replicate];exact Nat.le_refl _)]
theorem re_next (q:Nat):List.replicate q (255:Int) ++ [255]=List.replicate (q + 1) 255:=List.replicate_succ'.symm
theorem re_w {q:Nat} (h:q < 288):wrap64 ((q:Int) + 1)=((q + 1:Nat):Int):=by unfold wrap64;omega
theorem re_m {q:Nat} (h:q < 288):288 - (intOf (.int .i64 ((q + 1:Nat):Int))).toNat < 288 - (intOf (.int .i64 (q:Int))).toNat:=by
 simp [intOf]
 omega
set_option maxHeartbeats 4000000 in
set_option maxRecDepth 100000 in
theorem slipwayref03_Erased.calls (w:World):Calls Try.prog 25 #[] w fun e w'=>e=.returned (.agg (pc (List.replicate 288 255)))∧Below w.heap.size w w':=by
 have hu29:=Try.underlying29
 go_enter Try.func25,Try.ntmps25
 go_wp2_with (first|((with_reducible refine gate_ (.alloc 29) rfl ?_);refine box_event rfl rfl (pg_new rfl) ?_;rintro g0 hg wc hbk hb;have hge0:Aside0 (w.heap.size≤g0):=⟨by rw [hg];exact below_size (by repeat (first|exact Below.refl _ _|with_reducible apply zlN|with_reducible apply zlA|refine below_step ?_ (Aside0.out (by assumption))))⟩;clear hg;have hh_:=zm hbk;clear hbk;have hbk:=hh_;clear hh_;have hh_:=zm hb;clear hb;have hb:=hh_;clear hh_))
 go_loopw [1,2] (fun v i wr=>∃ q:Nat,i=.int .i64 (q:Int)∧Aside0 (q≤288)∧Aside0 (Kd.R (Kd.int .u8) 5 wr wc.heap.size (fun _=>True) v (List.replicate q 255))∧Aside0 (Below wc.heap.size wc wr)) (fun _ i _=>288 - (intOf i).toNat)
 case atStart=>exact ⟨0,rfl,⟨by omega⟩,⟨Kd.R_nil _ _ _ _ _⟩,⟨(by repeat (first|exact Below.refl _ _|with_reducible apply zlN|with_reducible apply zlA|refine below_step ?_ (Aside0.out (by assumption))))⟩⟩
 case round =>
  obtain ⟨q,rfl,hq,hR,hbr⟩:=hrel
  obtain ⟨Av,cv,rfl⟩:=Kd.R_slice hR.out
  by_cases hlt:q < 288
  ·have hd:decide ((q:Int) < 288)=true:=decide_eq_true (by omega)
   have hw:=re_w hlt
   have hlr:=zm (show (List.replicate q (255:Int)).length≤288 by rw [List.length_replicate];omega)
   generalize hbe:List.replicate q (255:Int)=b at hR hlr ⊢
   have hh_:=zm hbe;clear hbe;have hbe:=hh_;clear hh_
   go_wp2_with (first|((with_reducible refine gate_ (.buildSlice 24 1 _) rfl ?_);refine pg_made (fun g=>.slice (some ⟨g,0,none⟩) 1 1) rfl (cs:=#[.int .u8 255]) (t:=5) (by first|(go_simp;done)|(go_simp;rfl)) ?_;rintro gl hg w1 hbk hb;clear hg;have hh_:=zm hbk;clear hbk;have hbk:=hh_;clear hh_;have hh_:=zm hb;clear hb;have hb:=hh_;clear hh_)|((with_reducible refine gate_builtin (b:=.append) (xs:=#[.tmp 7,.tmp 8]) rfl ?_);at_builtin;refine Kd.R_append_rows (Kd.int .u8) (w0:=wc) wc.heap.size rfl (.tmp 7) (.tmp 8) 24 5 (.int .u8 0) 1 rfl Try.underlying24 info5 rfl (by decide) (by omega) _ b [255] _ _ _ (fun _=>True) (fun _=>False) rfl rfl (Kd.R_below hR.out (by repeat (first|exact Below.refl _ _|with_reducible apply zlN|with_reducible apply zlA|refine below_step ?_ (Aside0.out (by assumption))))) (Cw.C_ints (zbB (Aside0.out (by assumption)) (by repeat (first|exact Below.refl _ _|with_reducible apply zlN|with_reducible apply zlA|refine below_step ?_ (Aside0.out (by assumption))))) rfl (by simp)) (fun _ _ h=>h) (fun _ h=>h.elim) (fun _ _=>trivial) (by repeat (first|exact Below.refl _ _|with_reducible apply zlN|with_reducible apply zlA|refine below_step ?_ (Aside0.out (by assumption)))) (below_size (by repeat (first|exact Below.refl _ _|with_reducible apply zlN|with_reducible apply zlA|refine below_step ?_ (Aside0.out (by assumption))))) (by have:=hlr.out;have h1_:([255]:List Int).length=1:=rfl;omega) ?_;intro v' w' ho hb hg hat;clear hg hat;have hh_:=zm ho;clear ho;have ho:=hh_;clear hh_;have hh_:=zm hb;clear hb;have hb:=hh_;clear hh_))
   obtain ⟨A2,c2,rfl⟩:=Kd.R_slice ho.out
   rw [← hbe.out,re_next] at ho
   go_roundw
   case rel=>exact ⟨q + 1,by first|rfl|rw [hw],⟨by omega⟩,⟨by rw [← re_next,hbe.out];rw [← re_next,hbe.out] at ho;exact ho.out⟩,⟨(by repeat (first|exact Below.refl _ _|with_reducible apply zlN|with_reducible apply zlA|refine below_step ?_ (Aside0.out (by assumption))))⟩⟩
   case measure=>first|exact re_m hlt|(rw [hw];exact re_m hlt)
  ·obtain rfl:q=288:=by have:=hq.out;omega
   have hd:decide (((288:Nat):Int) < 288)=false:=rfl
   have hrb:=zm (Kd.R_reads' hR.out).2.2
   have hcb:=zm (Kd.R_reads' hR.out).2.1
   go_wp2_with (first|(go_at_call 35;refine (slipwayref03_of.calls Av cv _ (List.replicate 288 255) _ (Kd.C_below (Aside0.out (by assumption)) (by repeat (first|exact Below.refl _ _|with_reducible apply zlN|with_reducible apply zlA|refine below_step ?_ (Aside0.out (by assumption))))) (Aside0.out (by assumption)) re_of).mono ?_;rintro e w1 ⟨rfl,hb⟩;have hh_:=zm hb;clear hb;have hb:=hh_;clear hh_)|((with_reducible refine gate_ (.store 29 (.tmp 0) _) rfl ?_);refine pg_put (g:=g0) (q:=List.replicate 288 255) rfl rfl (pg_store rfl rfl rfl (zbB (Aside0.out (by assumption)) (by repeat (first|exact Below.refl _ _|with_reducible apply zlN|with_reducible apply zlA|refine below_step ?_ (Aside0.out (by assumption))))) pz_len List.length_replicate) (zbB (Aside0.out (by assumption)) (by repeat (first|exact Below.refl _ _|with_reducible apply zlN|with_reducible apply zlA|refine below_step ?_ (Aside0.out (by assumption))))) ?_;rintro w2 hq2 hfar hbel;have hb2:Aside0 (Below w.heap.size w w2):=⟨hbel _ _ (by repeat (first|exact Below.refl _ _|with_reducible apply zlN|with_reducible apply zlA|refine below_step ?_ (Aside0.out (by assumption)))) hge0.out⟩;clear hfar hbel;have hh_:=zm hq2;clear hq2;have hq2:=hh_;clear hh_))
   refine bodyPost_ret (results_cell_row rfl _ _ g0 29 (pc (List.replicate 288 255)) (0,0) _ rfl hq2.out Try.underlying29 rfl (pg_size List.length_replicate)) rfl ?_
   exact ⟨rfl,hb2.out⟩
end Go.Proofs.Ytdohpjjggjehfaa.Print
end
section
namespace Go.Proofs.Ytdohpjjggjehfaa.Print
open Go.RowKit Go.Proofs.YtdohpjjggjehfaaW.PrintWords Go.Proofs.YtdohpjjggjehfaaW.PrintLast Go.Proofs.YtdohpjjggjehfaaW.PrintMore
attribute [local go_sem] max2_int min2_int max_two min_two max_three min_three max_four min_four   -- for this text's walks alone
attribute [local go_sem ↓] Go.Proofs.Ytdohpjjggjehfaa.Sem.isSome_setCell
attribute [local go_sem] Go.Instr.field Go.asAgg
set_option linter.unusedVariables false
set_option linter.unusedSimpArgs false
-- CX
-- PG
def slipwaylaw03_PageReads.f (k:Nat) (p:List Int) (l1:List Int):Option (Bool) :=
 (slipwaylaw03_live.f k).bind fun t=>if t=true then if p.length=288 then (page_Decode.f k p).bind fun d=>(slipwayref03_Decode.f k p).bind fun e=>if e=d then
 (bytes_Equal.f d.2.2.2.2.1 d.2.2.2.2.1).bind fun u=>if u=true then (page_State.f k p).bind fun s=>(slipwayref03_State.f k p).bind fun s2=>if s2=s then
 (page_Tear.f k p l1).bind fun q=>(slipwayref03_Tear.f k p l1).bind fun q2=>if q2=q then if q.length=288 then some true
 else none else none else none else none else none else none else none
theorem er_dec:decide (List.replicate 288 (255:Int)=List.replicate 288 255)=true:=decide_eq_true rfl
set_option maxHeartbeats 4000000 in
set_option maxRecDepth 100000 in
theorem slipwaylaw03_PageReads.calls (k:Nat) (p:List Int) (A1:Option Addr) (c1:Nat) (l1:List Int) (r:Bool) (w:World) (hr1:Kd.C (Kd.int .u8) w A1 l1.length l1) (hc1:l1.length≤c1) (h:slipwaylaw03_PageReads.f k p l1=some r) :
  Calls Try.prog 6 #[.agg (pc p),.slice A1 l1.length c1] w fun e w'=>e=.returned (.bool r)∧Below w.heap.size w w':=by
 have hu29:=Try.underlying29
 have hu23:=Try.underlying23
 have H:slipwaylaw03_PageReads.f k p l1=some r:=h
 clear h
 have hh_:=zm hr1;clear hr1;have hr1:=hh_;clear hh_;have hh_:=zm hc1;clear hc1;have hc1:=hh_;clear hh_
 unfold slipwaylaw03_PageReads.f at H
 have hg_:=Option.bind_eq_some_iff.mp H;clear H;obtain ⟨t,F0,H⟩:=hg_;have hh_:=zm F0;clear F0;have F0:=hh_;clear hh_;(try dsimp only at H);have hg_:=Cw.gt_ H;clear H;obtain ⟨rfl,H⟩:=hg_;have hg_:=Cw.gt_ H;clear H;obtain ⟨hp,H⟩:=hg_;have hg_:=Option.bind_eq_some_iff.mp H;clear H;obtain ⟨⟨d1,d2,d3,d4,d5,d6⟩,F1,H⟩:=hg_;have hh_:=zm F1;clear F1;have F1:=hh_;clear hh_;(try dsimp only at H);have hg_:=Option.bind_eq_some_iff.mp H;clear H;obtain ⟨d,F2,H⟩:=hg_;have hh_:=zm F2;clear F2;have F2:=hh_;clear hh_;(try dsimp only at H);have hg_:=Cw.gt_ H;clear H;obtain ⟨rfl,H⟩:=hg_;have hg_:=Option.bind_eq_some_iff.mp H;clear H;obtain ⟨u,F3,H⟩:=hg_;have hh_:=zm F3;clear F3;have F3:=hh_;clear hh_;(try dsimp only at H);have hg_:=Cw.gt_ H;clear H;obtain ⟨rfl,H⟩:=hg_;have hg_:=Option.bind_eq_some_iff.mp H;clear H;obtain ⟨s,F4,H⟩:=hg_;have hh_:=zm F4;clear F4;have F4:=hh_;clear hh_;(try dsimp only at H);have hg_:=Option.bind_eq_some_iff.mp H;clear H;obtain ⟨s2,F5,H⟩:=hg_;have hh_:=zm F5;clear F5;have F5:=hh_;clear hh_;(try dsimp only at H);have hg_:=Cw.gt_ H;clear H;obtain ⟨rfl,H⟩:=hg_;have hg_:=Option.bind_eq_some_iff.mp H;clear H;obtain ⟨q,F6,H⟩:=hg_;have hh_:=zm F6;clear F6;have F6:=hh_;clear hh_;(try dsimp only at H);have hg_:=Option.bind_eq_some_iff.mp H;clear H;obtain ⟨q2,F7,H⟩:=hg_;have hh_:=zm F7;clear F7;have F7:=hh_;clear hh_;(try dsimp only at H);have hg_:=Cw.gt_ H;clear H;obtain ⟨rfl,H⟩:=hg_;have hg_:=Cw.gt_ H;clear H;obtain ⟨hq,H⟩:=hg_
 obtain rfl:=Option.some.inj H
 clear H
 have hh_:=zm hp;clear hp;have hp:=hh_;clear hh_;have hh_:=zm hq;clear hq;have hq:=hh_;clear hh_
 go_enter Try.func6,Try.ntmps6
 go_wp2_with (first|((with_reducible refine gate_ (.box 29 _) rfl ?_);refine box_event rfl rfl (pg_box rfl rfl) ?_;rintro g2 hg w1 hbk hb;skip;clear hg;have hh_:=zm hbk;clear hbk;have hbk:=hh_;clear hh_;have hh_:=zm hb;clear hb;have hb:=hh_;clear hh_)|(go_at_call 9;refine (slipwaylaw03_live.calls k true _ F0.out).mono ?_;rintro e w1 ⟨rfl,hb⟩;have hh_:=zm hb;clear hb;have hb:=hh_;clear hh_)|((with_reducible refine gate_ (.load 29 _) rfl ?_);refine Kd.event_run rfl (pg_load rfl rfl (zbB (Aside0.out (by assumption)) (by repeat (first|exact Below.refl _ _|with_reducible apply zlN|with_reducible apply zlA|refine below_step ?_ (Aside0.out (by assumption))))) hp.out) ?_)|(go_at_call 14;refine (page_Decode.calls k p d1 d2 d3 d4 d5 d6 _ F1.out).mono ?_;rintro e w1 ⟨vd,rfl,ho,hb⟩;obtain ⟨Ad,cd,rfl⟩:=Kd.R_slice ho;have hrd:=zm (Kd.R_reads' ho).2.2;have hcd:=zm (Kd.R_reads' ho).2.1;clear ho;have hh_:=zm hb;clear hb;have hb:=hh_;clear hh_)|(go_at_call 19;refine (slipwayref03_Decode.calls k p d1 d2 d3 d4 d5 d6 _ F2.out).mono ?_;rintro e w1 ⟨Ae,ce,rfl,hce,hre,hb⟩;have hh_:=zm hce;clear hce;have hce:=hh_;clear hh_;have hh_:=zm hre;clear hre;have hre:=hh_;clear hh_;have hh_:=zm hb;clear hb;have hb:=hh_;clear hh_)|((with_reducible refine gate_ (.alloc 23) rfl ?_);refine Cw.box_store rfl rfl rfl rfl rfl rfl (by first|(go_simp;done)|(go_simp;rfl)) (by first|(go_simp;done)|(go_simp;rfl)) ?_;rintro g hg w1 hbk hb;clear hg;have hh_:=zm hbk;clear hbk;have hbk:=hh_;clear hh_;have hh_:=zm hb;clear hb;have hb:=hh_;clear hh_))
 refine Cw.dstart (by as_aux_lemma=>kernel_rfl) rfl (fun wd hb=>?_)
 have hh_:=zm hb;clear hb;have hb:=hh_;clear hh_
 refine Cw.dtk (i:=0) (v:=?_) (a':=?_) (by simp only [List.getElem?_toArray,List.getElem?_cons_succ,List.getElem?_cons_zero];rfl) rfl (by as_aux_lemma=>kernel_rfl) (by rfl) (by exact fun _ _ _ h=>h) ?_ (by repeat (first|exact Below.refl _ _|with_reducible apply zlN|with_reducible apply zlA|refine below_step ?_ (Aside0.out (by assumption)))) ?_ ?_
 rotate_left
 ·intro w' hs_
  have hs:=zm hs_
  clear hs_
  apply Eq.trans
  ·apply pg_h23
   ·rfl
   ·rfl
   ·exact (zbB (Aside0.out (by assumption)) (by repeat (first|exact Below.refl _ _|with_reducible apply zlN|with_reducible apply zlA|refine below_step ?_ (Aside0.out (by assumption)))))
  ·rfl
 rotate_left
 ·simp only [Act.put,List.setIfInBounds_toArray,List.set_cons_zero,List.set_cons_succ,i64_w,i32_w]
  rfl
 refine Cw.dtk (i:=1) (v:=?_) (a':=?_) (by simp only [List.getElem?_toArray,List.getElem?_cons_succ,List.getElem?_cons_zero];rfl) rfl (by as_aux_lemma=>kernel_rfl) (by rfl) (by exact fun _ _ _ h=>h) ?_ (by repeat (first|exact Below.refl _ _|with_reducible apply zlN|with_reducible apply zlA|refine below_step ?_ (Aside0.out (by assumption)))) ?_ ?_
 rotate_left
 ·intro w' hs_
  have hs:=zm hs_
  clear hs_
  apply Eq.trans
  ·apply pg_h23
   ·rfl
   ·rfl
   ·exact (zbB (Aside0.out (by assumption)) (by repeat (first|exact Below.refl _ _|with_reducible apply zlN|with_reducible apply zlA|refine below_step ?_ (Aside0.out (by assumption)))))
  ·rfl
 rotate_left
 ·simp only [Act.put,List.setIfInBounds_toArray,List.set_cons_zero,List.set_cons_succ,i64_w,i32_w]
  rfl
 refine Cw.dpu (i:=2) (v:=?_) (a':=?_) (by simp only [List.getElem?_toArray,List.getElem?_cons_succ,List.getElem?_cons_zero];rfl) rfl (by as_aux_lemma=>kernel_rfl) (by rfl) (by exact fun _ _ _ h=>h) ?_ ?_ ?_
 rotate_left
 ·intro w'
  go_simp
  first|with_reducible rfl|simp
 rotate_left
 ·simp only [Act.put,List.setIfInBounds_toArray,List.set_cons_zero,List.set_cons_succ,i64_w,i32_w]
  rfl
 refine zpu 3 ?_
 refine zpu 4 ?_
 refine zpu 5 ?_
 refine Cw.done1 (i:=6) (N:=some 31) (by simp only [List.getElem?_toArray,List.getElem?_cons_succ,List.getElem?_cons_zero];rfl) rfl (by as_aux_lemma=>kernel_rfl) (fun K hK=>?_)
 refine goes_ Try.func16 (by as_aux_lemma=>kernel_rfl) rfl _ (by rfl) rfl rfl (by go_simp;rfl) ?_
 refine (bytes_Equal.calls Ad cd d5 Ae ce d5 true _ (Kd.C_below (Aside0.out (by assumption)) (by repeat (first|exact Below.refl _ _|with_reducible apply zlN|with_reducible apply zlA|refine below_step ?_ (Aside0.out (by assumption))))) hcd.out (Kd.C_below (Aside0.out (by assumption)) (by repeat (first|exact Below.refl _ _|with_reducible apply zlN|with_reducible apply zlA|refine below_step ?_ (Aside0.out (by assumption))))) hce.out F3.out).mono ?_
 rintro e w1 ⟨rfl,hb_⟩
 have hb:=Drawn0.below hb_
 clear hb_
 have hh_:=zm hb;clear hb;have hb:=hh_;clear hh_
 refine ⟨_,rfl,?_⟩
 refine hK.out _ _ (by repeat (first|exact Below.refl _ _|with_reducible apply zlN|with_reducible apply zlA|refine below_step ?_ (Aside0.out (by assumption)))) (fun _=>?_)
 clear hK K
 refine znm (some 31) ?_
 refine zpu 7 ?_
 refine zpu 8 ?_
 refine zpu 9 ?_
 refine zpu 10 ?_
 refine Cw.dpu (i:=11) (v:=?_) (a':=?_) (by simp only [List.getElem?_toArray,List.getElem?_cons_succ,List.getElem?_cons_zero];rfl) rfl (by as_aux_lemma=>kernel_rfl) (by rfl) (by exact fun _ _ _ h=>h) ?_ ?_ ?_
 rotate_left
 ·intro w'
  go_simp
  first|with_reducible rfl|simp
 rotate_left
 ·simp only [Act.put,List.setIfInBounds_toArray,List.set_cons_zero,List.set_cons_succ,i64_w,i32_w]
  rfl
 refine zpu 12 ?_
 refine zpu 13 ?_
 refine Cw.dtk (i:=14) (v:=?_) (a':=?_) (by simp only [List.getElem?_toArray,List.getElem?_cons_succ,List.getElem?_cons_zero];rfl) rfl (by as_aux_lemma=>kernel_rfl) (by rfl) (by exact fun _ _ _ h=>h) ?_ (by repeat (first|exact Below.refl _ _|with_reducible apply zlN|with_reducible apply zlA|refine below_step ?_ (Aside0.out (by assumption)))) ?_ ?_
 rotate_left
 ·intro w' hs_
  have hs:=zm hs_
  clear hs_
  apply Eq.trans
  ·apply pg_load
   ·rfl
   ·rfl
   ·exact (zbB (Aside0.out (by assumption)) (by repeat (first|exact Below.refl _ _|with_reducible apply zlN|with_reducible apply zlA|refine below_step ?_ (Aside0.out (by assumption)))))
   ·exact hp.out
  ·rfl
 rotate_left
 ·simp only [Act.put,List.setIfInBounds_toArray,List.set_cons_zero,List.set_cons_succ,i64_w,i32_w]
  rfl
 refine Cw.dtk (i:=16) (v:=?_) (a':=?_) (by simp only [List.getElem?_toArray,List.getElem?_cons_succ,List.getElem?_cons_zero];rfl) rfl (by as_aux_lemma=>kernel_rfl) (by rfl) (by exact fun _ _ _ h=>h) ?_ (by repeat (first|exact Below.refl _ _|with_reducible apply zlN|with_reducible apply zlA|refine below_step ?_ (Aside0.out (by assumption)))) ?_ ?_
 rotate_left
 ·intro w' hs_
  have hs:=zm hs_
  clear hs_
  apply Eq.trans
  ·apply pg_load
   ·rfl
   ·rfl
   ·exact (zbB (Aside0.out (by assumption)) (by repeat (first|exact Below.refl _ _|with_reducible apply zlN|with_reducible apply zlA|refine below_step ?_ (Aside0.out (by assumption)))))
   ·exact hp.out
  ·rfl
 rotate_left
 ·simp only [Act.put,List.setIfInBounds_toArray,List.set_cons_zero,List.set_cons_succ,i64_w,i32_w]
  rfl
 refine Cw.done1 (i:=15) (N:=some 40) (by simp only [List.getElem?_toArray,List.getElem?_cons_succ,List.getElem?_cons_zero];rfl) rfl (by as_aux_lemma=>kernel_rfl) (fun K hK=>?_)
 refine goes_ Try.func20 (by as_aux_lemma=>kernel_rfl) rfl _ (by rfl) rfl rfl (by go_simp;rfl) ?_
 refine (page_State.calls k p _ _ F4.out).mono ?_
 rintro e w1 ⟨rfl,hb⟩
 have hh_:=zm hb;clear hb;have hb:=hh_;clear hh_
 refine ⟨_,rfl,?_⟩
 refine hK.out _ _ (by repeat (first|exact Below.refl _ _|with_reducible apply zlN|with_reducible apply zlA|refine below_step ?_ (Aside0.out (by assumption)))) (fun _=>?_)
 clear hK K
 refine znm (some 40) ?_
 refine Cw.done1 (i:=17) (N:=some 42) (by simp only [List.getElem?_toArray,List.getElem?_cons_succ,List.getElem?_cons_zero];rfl) rfl (by as_aux_lemma=>kernel_rfl) (fun K hK=>?_)
 refine goes_ Try.func21 (by as_aux_lemma=>kernel_rfl) rfl _ (by rfl) rfl rfl (by go_simp;rfl) ?_
 refine (slipwayref03_State.calls k p _ _ F5.out).mono ?_
 rintro e w1 ⟨rfl,hb⟩
 have hh_:=zm hb;clear hb;have hb:=hh_;clear hh_
 refine ⟨_,rfl,?_⟩
 refine hK.out _ _ (by repeat (first|exact Below.refl _ _|with_reducible apply zlN|with_reducible apply zlA|refine below_step ?_ (Aside0.out (by assumption)))) (fun _=>?_)
 clear hK K
 refine znm (some 42) ?_
 refine Cw.dpu (i:=18) (v:=?_) (a':=?_) (by simp only [List.getElem?_toArray,List.getElem?_cons_succ,List.getElem?_cons_zero];rfl) rfl (by as_aux_lemma=>kernel_rfl) (by rfl) (by exact fun _ _ _ h=>h) ?_ ?_ ?_
 rotate_left
 ·intro w'
  go_simp
  first|with_reducible rfl|simp
 rotate_left
 ·simp only [Act.put,List.setIfInBounds_toArray,List.set_cons_zero,List.set_cons_succ,i64_w,i32_w]
  rfl
 refine zpu 19 ?_
 refine zpu 20 ?_
 refine Cw.dtk (i:=21) (v:=?_) (a':=?_) (by simp only [List.getElem?_toArray,List.getElem?_cons_succ,List.getElem?_cons_zero];rfl) rfl (by as_aux_lemma=>kernel_rfl) (by rfl) (by exact fun _ _ _ h=>h) ?_ (by repeat (first|exact Below.refl _ _|with_reducible apply zlN|with_reducible apply zlA|refine below_step ?_ (Aside0.out (by assumption)))) ?_ ?_
 rotate_left
 ·intro w' hs_
  have hs:=zm hs_
  clear hs_
  apply Eq.trans
  ·apply pg_load
   ·rfl
   ·rfl
   ·exact (zbB (Aside0.out (by assumption)) (by repeat (first|exact Below.refl _ _|with_reducible apply zlN|with_reducible apply zlA|refine below_step ?_ (Aside0.out (by assumption)))))
   ·exact hp.out
  ·rfl
 rotate_left
 ·simp only [Act.put,List.setIfInBounds_toArray,List.set_cons_zero,List.set_cons_succ,i64_w,i32_w]
  rfl
 refine zpu 22 ?_
 refine Cw.dtk (i:=24) (v:=?_) (a':=?_) (by simp only [List.getElem?_toArray,List.getElem?_cons_succ,List.getElem?_cons_zero];rfl) rfl (by as_aux_lemma=>kernel_rfl) (by rfl) (by exact fun _ _ _ h=>h) ?_ (by repeat (first|exact Below.refl _ _|with_reducible apply zlN|with_reducible apply zlA|refine below_step ?_ (Aside0.out (by assumption)))) ?_ ?_
 rotate_left
 ·intro w' hs_
  have hs:=zm hs_
  clear hs_
  apply Eq.trans
  ·apply pg_load
   ·rfl
   ·rfl
   ·exact (zbB (Aside0.out (by assumption)) (by repeat (first|exact Below.refl _ _|with_reducible apply zlN|with_reducible apply zlA|refine below_step ?_ (Aside0.out (by assumption)))))
   ·exact hp.out
  ·rfl
 rotate_left
 ·simp only [Act.put,List.setIfInBounds_toArray,List.set_cons_zero,List.set_cons_succ,i64_w,i32_w]
  rfl
 refine zpu 25 ?_
 refine Cw.done1 (i:=23) (N:=some 48) (by simp only [List.getElem?_toArray,List.getElem?_cons_succ,List.getElem?_cons_zero];rfl) rfl (by as_aux_lemma=>kernel_rfl) (fun K hK=>?_)
 refine goes_ Try.func22 (by as_aux_lemma=>kernel_rfl) rfl _ (by rfl) rfl rfl (by go_simp;rfl) ?_
 refine (page_Tear.calls k p _ _ l1 q2 _ (Kd.C_below (Aside0.out (by assumption)) (by repeat (first|exact Below.refl _ _|with_reducible apply zlN|with_reducible apply zlA|refine below_step ?_ (Aside0.out (by assumption))))) (Aside0.out (by assumption)) F6.out).mono ?_
 rintro e w1 ⟨rfl,hb⟩
 have hh_:=zm hb;clear hb;have hb:=hh_;clear hh_
 refine ⟨_,rfl,?_⟩
 refine hK.out _ _ (by repeat (first|exact Below.refl _ _|with_reducible apply zlN|with_reducible apply zlA|refine below_step ?_ (Aside0.out (by assumption)))) (fun _=>?_)
 clear hK K
 refine znm (some 48) ?_
 refine Cw.done1 (i:=26) (N:=some 51) (by simp only [List.getElem?_toArray,List.getElem?_cons_succ,List.getElem?_cons_zero];rfl) rfl (by as_aux_lemma=>kernel_rfl) (fun K hK=>?_)
 refine goes_ Try.func23 (by as_aux_lemma=>kernel_rfl) rfl _ (by rfl) rfl rfl (by go_simp;rfl) ?_
 refine (slipwayref03_Tear.calls k p _ _ l1 q2 _ (Kd.C_below (Aside0.out (by assumption)) (by repeat (first|exact Below.refl _ _|with_reducible apply zlN|with_reducible apply zlA|refine below_step ?_ (Aside0.out (by assumption))))) (Aside0.out (by assumption)) F7.out).mono ?_
 rintro e w1 ⟨rfl,hb⟩
 have hh_:=zm hb;clear hb;have hb:=hh_;clear hh_
 refine ⟨_,rfl,?_⟩
 refine hK.out _ _ (by repeat (first|exact Below.refl _ _|with_reducible apply zlN|with_reducible apply zlA|refine below_step ?_ (Aside0.out (by assumption)))) (fun _=>?_)
 clear hK K
 refine znm (some 51) ?_
 refine Cw.dpu (i:=27) (v:=?_) (a':=?_) (by simp only [List.getElem?_toArray,List.getElem?_cons_succ,List.getElem?_cons_zero];rfl) rfl (by as_aux_lemma=>kernel_rfl) (by rfl) (by exact fun _ _ _ h=>h) ?_ ?_ ?_
 rotate_left
 ·intro w'
  apply Eq.trans
  ·apply pg_eqop (p:=q2) (q:=q2)
   ·rfl
   ·rfl
   ·rfl
   ·exact hq.out
   ·exact hq.out
  ·rw [decide_eq_true (rfl:q2=q2)]
 rotate_left
 ·simp only [Act.put,List.setIfInBounds_toArray,List.set_cons_zero,List.set_cons_succ,i64_w,i32_w]
  rfl
 refine zpu 28 ?_
 refine zpu 29 ?_
 refine Cw.done1 (i:=30) (N:=some 55) (by simp only [List.getElem?_toArray,List.getElem?_cons_succ,List.getElem?_cons_zero];rfl) rfl (by as_aux_lemma=>kernel_rfl) (fun K hK=>?_)
 refine goes_ Try.func24 (by as_aux_lemma=>kernel_rfl) rfl _ (by rfl) rfl rfl (by go_simp;rfl) ?_
 refine (page_Erased.calls _).mono ?_
 rintro e w1 ⟨rfl,hb⟩
 have hh_:=zm hb;clear hb;have hb:=hh_;clear hh_
 refine ⟨_,rfl,?_⟩
 refine hK.out _ _ (by repeat (first|exact Below.refl _ _|with_reducible apply zlN|with_reducible apply zlA|refine below_step ?_ (Aside0.out (by assumption)))) (fun _=>?_)
 clear hK K
 refine znm (some 55) ?_
 refine Cw.done1 (i:=31) (N:=some 56) (by simp only [List.getElem?_toArray,List.getElem?_cons_succ,List.getElem?_cons_zero];rfl) rfl (by as_aux_lemma=>kernel_rfl) (fun K hK=>?_)
 refine goes_ Try.func25 (by as_aux_lemma=>kernel_rfl) rfl _ (by rfl) rfl rfl (by go_simp;rfl) ?_
 refine (slipwayref03_Erased.calls _).mono ?_
 rintro e w1 ⟨rfl,hb⟩
 have hh_:=zm hb;clear hb;have hb:=hh_;clear hh_
 refine ⟨_,rfl,?_⟩
 refine hK.out _ _ (by repeat (first|exact Below.refl _ _|with_reducible apply zlN|with_reducible apply zlA|refine below_step ?_ (Aside0.out (by assumption)))) (fun _=>?_)
 clear hK K
 refine znm (some 56) ?_
 refine Cw.dpu (i:=32) (v:=?_) (a':=?_) (by simp only [List.getElem?_toArray,List.getElem?_cons_succ,List.getElem?_cons_zero];rfl) rfl (by as_aux_lemma=>kernel_rfl) (by rfl) (by exact fun _ _ _ h=>h) ?_ ?_ ?_
 rotate_left
 ·intro w'
  apply Eq.trans
  ·apply pg_eqop (p:=(List.replicate 288 255)) (q:=(List.replicate 288 255))
   ·rfl
   ·rfl
   ·rfl
   ·exact List.length_replicate
   ·exact List.length_replicate
  ·rw [er_dec]
 rotate_left
 ·simp only [Act.put,List.setIfInBounds_toArray,List.set_cons_zero,List.set_cons_succ,i64_w,i32_w]
  rfl
 refine zpu 33 ?_
 refine zpu 34 ?_
 refine zdo ?_
 go_wp2
 go_ret
 exact ⟨rfl,(by repeat (first|exact Below.refl _ _|with_reducible apply zlN|with_reducible apply zlA|refine below_step ?_ (Aside0.out (by assumption))))⟩
def slipwaylaw03_PageReads.Pure:Prop:=∀ (p0:List Int) (l1:List Int),(p0.length=288∧∀ x ∈ p0,(Lit.int .u8 x).wf=true) → (l1.length≤maxLen∧l1.length * 1≤140737488351232∧∀ x ∈ l1,(Lit.int .u8 x).wf=true) → ∃ k,slipwaylaw03_PageReads.f k p0 l1=some true
theorem slipwaylaw03_PageReads.walk (P:slipwaylaw03_PageReads.Pure) (p0:List Int) (A1:Option Addr) (c1:Nat) (l1:List Int) (w:World) (hr1:Kd.C (Kd.int .u8) w A1 l1.length l1) (hc1:l1.length≤c1) (w0:(p0.length=288∧∀ x ∈ p0,(Lit.int .u8 x).wf=true)) (w1:(l1.length≤maxLen∧l1.length * 1≤140737488351232∧∀ x ∈ l1,(Lit.int .u8 x).wf=true)) :
  Calls Try.prog 6 #[.agg (pc p0),.slice A1 l1.length c1] w fun e w'=>e=.returned (.bool true)∧Below w.heap.size w w':=by
 obtain ⟨k,h⟩:=P p0 l1 w0 w1
 refine (slipwaylaw03_PageReads.calls k p0 A1 c1 l1 true w hr1 hc1 h).mono ?_
 rintro e w' ⟨rfl,hd⟩
 exact ⟨rfl,hd⟩
end Go.Proofs.Ytdohpjjggjehfaa.Print
end
