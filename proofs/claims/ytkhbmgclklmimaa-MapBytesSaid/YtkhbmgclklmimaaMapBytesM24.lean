/- Texts of the proof of MapBytes, part 24. -/
import Derived.Test.YtkhbmgclklmimaaMapBytesMA
import Derived.Test.YtkhbmgclklmimaaMapBytesM15
import Derived.Test.YtkhbmgclklmimaaMapBytesM18
section
namespace Go.Proofs.Ytkhbmgclklmimaa.Print
open Go.RowKit Go.Proofs.YtkhbmgclklmimaaW.PrintWords Go.Proofs.YtkhbmgclklmimaaW.PrintLast Go.Proofs.YtkhbmgclklmimaaW.PrintMore
attribute [local go_sem] max2_int min2_int max_two min_two max_three min_three max_four min_four   -- for this text's walks alone
attribute [local go_sem ↓] Go.Proofs.Ytkhbmgclklmimaa.Sem.isSome_setCell
attribute [local go_sem] Go.Instr.field Go.asAgg
set_option linter.unusedVariables false
set_option linter.unusedSimpArgs false
-- CX
theorem mr_N_set {α:Type} {d:Kd α} {e g n cap base:Nat} {W:World} {ok:Nat → Prop} {xs:List α} {x:α} (h:Kd.N d e W base ok (.slice (some ⟨g,0,none⟩) n cap) xs) (i:Nat) (h1:i < n) {c:List Value} (hcl:c.length=d.sz) (hc1:∀ u ∈ c,u.oneCell'=true)
  (hf:Kd.FK d W (fun k=>ok k∧k≠g) x c):Kd.N d e (W.setCells g (i * d.sz) c) base ok (.slice (some ⟨g,0,none⟩) n cap) (xs.set i x)∧W.grownBy (W.setCells g (i * d.sz) c) (some g):=by
 have hn:=(Kd.N_reads' h).1
 obtain ⟨h0,rows,hl,hR,hfr⟩:=h
 obtain ⟨c0,hcl0,hM0,hcc0,_⟩:=Kd.R_elem hR [] (i:Int) (by omega) (by omega)
 have hs:=Kd.R_seg hR (i:Int) (by omega) (by omega) (c:=c0) (seg:=c) (j:=0) (okp:=fun k=>(some k=(Value.slice (some ⟨g,0,none⟩) n cap).ownBlock)∧k≠g) hcl0 hcc0 (by rw [hcl];exact Nat.le_of_eq (Nat.zero_add _)) (x':=c)
  (by
   have e1:c0.take 0 ++ c ++ c0.drop (0 + c.length)=c:=by rw [List.take_zero,List.nil_append,Nat.zero_add,List.drop_eq_nil_of_le (by rw [hcl0,hcl];exact Nat.le_refl _),List.append_nil]
   rw [e1]
   exact ⟨rfl,hcl,hc1⟩) (fun _ hk=>hk)
 rw [Int.toNat_natCast,Nat.add_zero] at hs
 have hs2:(Kd.raw d.sz).sz=d.sz:=rfl
 rw [hs2] at hs
 refine ⟨⟨h0,rows.set i c,by rw [List.length_set,List.length_set,hl],hs.1,fun j x' c' hx hc=>?_⟩,hs.2⟩
 have key:∀ y cy,Kd.FK d W (fun k=>ok k∧some k≠(Value.slice (some ⟨g,0,none⟩) n cap).ownBlock) y cy → Kd.FK d (W.setCells g (i * d.sz) c) (fun k=>ok k∧some k≠(Value.slice (some ⟨g,0,none⟩) n cap).ownBlock) y cy:=fun y cy hy =>
  Kd.FK_step hy (fun k hk hlt=>hs.2.block k hlt (fun he=>hk.2 (by rw [he];simp [Value.ownBlock])))
 by_cases hj:j=i
 ·subst hj
  rw [List.getElem?_set_self (by omega)] at hx hc
  obtain rfl:=Option.some.inj hx
  obtain rfl:=Option.some.inj hc
  exact key _ _ (Kd.FK_mono hf (fun k hk=>⟨hk.1,fun he=>hk.2 (by simpa [Value.ownBlock] using he)⟩))
 ·rw [List.getElem?_set_ne (by omega)] at hx hc
  exact key _ _ (hfr j x' c' hx hc)
theorem mr_ix {o:Oper} {a:Act} {W:World} {x y:Operand} {g n c i:Nat} (hop:o.op=.indexAddr 43 x y) (hx:a.eval x=.slice (some ⟨g,0,none⟩) n c) (hy:a.eval y=.int .i64 (i:Int)) (h:i < n) :
  (execOp a.eval o).run Try.prog W=.ok (.value (.pointer (some ⟨g,i * 7,none⟩))) W:=by
 have h0:(0:Int)≤(i:Int):=by omega
 have h1:(i:Int) < (n:Int):=by omega
 simp only [execOp,hop,hx,hy]
 go_simp
theorem mr_ld {o:Oper} {a:Act} {W:World} {x:Operand} {g j:Nat} {n0 n1 n2 n3:Int} {v4 v5 v6:Value} (hop:o.op=.load 42 x) (hx:a.eval x=.pointer (some ⟨g,j,none⟩))
  (hc:∀ t u,[.int .i64 n0,.int .i64 n1,.int .i64 n2,.int .i64 n3,v4,v5,v6][t]?=some u → W.cell? ⟨g,j + t,none⟩=some u) :
  (execOp a.eval o).run Try.prog W=.ok (.value (.agg #[.int .i64 n0,.int .i64 n1,.int .i64 n2,.int .i64 n3,v4,v5,v6])) W:=by
 have hu:=Try.underlying42
 have c0:W.cell? ⟨g,j,none⟩=some (.int .i64 n0):=hc 0 _ rfl
 have c1:=hc 1 _ rfl
 have c2:=hc 2 _ rfl
 have c3:=hc 3 _ rfl
 have c4:=hc 4 _ rfl
 have c5:=hc 5 _ rfl
 have c6:=hc 6 _ rfl
 simp only [execOp,hop,hx]
 go_simp
 done
theorem mr_st {o:Oper} {a:Act} {W:World} {x y:Operand} {g j:Nat} {n0 n1 n2 n3:Int} {A4 A5 A6:Option Addr} {m4 m5 m6 k4 k5 k6:Nat} (hop:o.op=.store 42 x y) (hx:a.eval x=.pointer (some ⟨g,j,none⟩))
  (hy:a.eval y=.agg #[.int .i64 n0,.int .i64 n1,.int .i64 n2,.int .i64 n3,.slice A4 m4 k4,.slice A5 m5 k5,.slice A6 m6 k6])
  (hc:∀ t,t < 7 → ∃ v,W.cell? ⟨g,j + t,none⟩=some v) (hf:∀ t,W.frozen? ⟨g,j + t,none⟩=false) :
  (execOp a.eval o).run Try.prog W=.ok .skip (W.setCells g j [.int .i64 n0,.int .i64 n1,.int .i64 n2,.int .i64 n3,.slice A4 m4 k4,.slice A5 m5 k5,.slice A6 m6 k6]):=by
 have hu:=Try.underlying42
 obtain ⟨x0,c0⟩:=hc 0 (by decide)
 obtain ⟨x1,c1⟩:=hc 1 (by decide)
 obtain ⟨x2,c2⟩:=hc 2 (by decide)
 obtain ⟨x3,c3⟩:=hc 3 (by decide)
 obtain ⟨x4,c4⟩:=hc 4 (by decide)
 obtain ⟨x5,c5⟩:=hc 5 (by decide)
 obtain ⟨x6,c6⟩:=hc 6 (by decide)
 have f0:=hf 0
 have f1:=hf 1
 have f2:=hf 2
 have f3:=hf 3
 have f4:=hf 4
 have f5:=hf 5
 have f6:=hf 6
 simp only [Nat.add_zero] at c0 f0
 simp only [execOp,hop,hx,hy]
 go_simp
 rfl
def mix {α:Type} (q:Nat) (l:List α):List α:=(l.reverse.take q) ++ ((l.drop q).take (l.length - 2 * q)) ++ (l.reverse.drop (l.length - q))
theorem mix_len {α:Type} {q:Nat} {l:List α} (h:2 * q≤l.length):(mix q l).length=l.length:=by
 unfold mix
 simp only [List.length_append,List.length_take,List.length_drop,List.length_reverse]
 omega
theorem mix_get {α:Type} {q:Nat} {l:List α} (h:2 * q≤l.length) (t:Nat) (ht:t < l.length):(mix q l)[t]?=if t < q∨l.length - 1 - t < q then l.reverse[t]? else l[t]?:=by
 unfold mix
 by_cases h1:t < q
 ·rw [if_pos (.inl h1),List.append_assoc,List.getElem?_append_left (by simp;omega),List.getElem?_take_of_lt h1]
 ·by_cases h2:l.length - 1 - t < q
  ·rw [if_pos (.inr h2),List.getElem?_append_right (by simp;omega),List.getElem?_drop]
   congr 1
   simp
   omega
  ·rw [if_neg (by omega),List.append_assoc,List.getElem?_append_right (by simp;omega),List.getElem?_append_left (by simp;omega),List.getElem?_take_of_lt (by simp;omega),List.getElem?_drop]
   congr 1
   simp
   omega
theorem mix_zero {α:Type} (l:List α):mix 0 l=l:=by
 unfold mix
 simp
theorem mix_end {α:Type} {q:Nat} {l:List α} (h:2 * q≤l.length) (h2:l.length≤2 * q + 1):mix q l=l.reverse:=by
 apply List.ext_getElem?
 intro t
 by_cases ht:t < l.length
 ·rw [mix_get h t ht]
  by_cases hc:t < q∨l.length - 1 - t < q
  ·rw [if_pos hc]
  ·rw [if_neg hc,List.getElem?_reverse ht]
   congr 1
   omega
 ·rw [List.getElem?_eq_none (by rw [mix_len h];omega),List.getElem?_eq_none (by simp;omega)]
theorem mix_next {α:Type} {q p:Nat} {l:List α} (hn:q + p + 1=l.length) (hlt:q < p) (z:α):mix (q + 1) l=((mix q l).set q ((mix q l).getD p z)).set p ((mix q l).getD q z):=by
 have hq:2 * q≤l.length:=by omega
 have hq1:2 * (q + 1)≤l.length:=by omega
 have gp:(mix q l).getD p z=l[p]'(by omega):=by
  rw [List.getD_eq_getElem?_getD,mix_get hq p (by omega),if_neg (by omega),List.getElem?_eq_getElem (by omega)]
  rfl
 have gq:(mix q l).getD q z=l[q]'(by omega):=by
  rw [List.getD_eq_getElem?_getD,mix_get hq q (by omega),if_neg (by omega),List.getElem?_eq_getElem (by omega)]
  rfl
 rw [gp,gq]
 apply List.ext_getElem?
 intro t
 by_cases ht:t < l.length
 ·rw [mix_get hq1 t ht]
  by_cases e1:t=p
  ·subst e1
   rw [List.getElem?_set_self (by rw [List.length_set,mix_len hq];exact ht),if_pos (by omega),List.getElem?_reverse ht,List.getElem?_eq_getElem (by omega)]
   congr 2
   omega
  ·rw [List.getElem?_set_ne (fun e=>e1 e.symm)]
   by_cases e2:t=q
   ·subst e2
    rw [List.getElem?_set_self (by rw [mix_len hq];exact ht),if_pos (by omega),List.getElem?_reverse ht,List.getElem?_eq_getElem (by omega)]
    congr 2
    omega
   ·rw [List.getElem?_set_ne (fun e=>e2 e.symm),mix_get hq t ht]
    by_cases hc:t < q∨l.length - 1 - t < q
    ·rw [if_pos hc,if_pos (by omega)]
    ·rw [if_neg hc,if_neg (by omega)]
 ·rw [List.getElem?_eq_none (by rw [mix_len hq1];omega),List.getElem?_eq_none (by rw [List.length_set,List.length_set,mix_len hq];omega)]
theorem mr_cells {g n cap base i:Nat} {W:World} {ok:Nat → Prop} {xs:List S42} (h:Kd.N k42 42 W base ok (.slice (some ⟨g,0,none⟩) n cap) xs) (hi:i < n):(∀ t,t < 7 → ∃ v,W.cell? ⟨g,i * 7 + t,none⟩=some v)∧∀ t,W.frozen? ⟨g,i * 7 + t,none⟩=false:=by
 obtain ⟨c,lc,_,r,z⟩:=Kd.N_elem h z42 (i:Int) (by omega) (by omega)
 rw [Int.toNat_natCast,show k42.sz=7 from rfl] at r z
 exact ⟨fun t ht=>⟨_,r t _ (List.getElem?_eq_getElem (by rw [lc];exact ht))⟩,z⟩
theorem mr_do {ops:Array Oper} {oi:Oper} {a:Act} {W:World} {K:Act → World → Prop} {Q:Exit → Act → World → Prop} {x y:Operand} {g i n cap base:Nat} {ok:Nat → Prop} {xs:List S42} {xx:S42} {A4 A5 A6:Option Addr} {k4 k5 k6:Nat}
  (hw:Region.wanted oi (yielded ops a.tmps)=true) (hN:oi.dst=none) (hop:oi.op=.store 42 x y) (hx:a.eval x=.pointer (some ⟨g,i * 7,none⟩)) (hy:a.eval y=.agg #[.int .i64 xx.f0,.int .i64 xx.f1,.int .i64 xx.f2,.int .i64 xx.f3,.slice A4 xx.f4.length k4,.slice A5 xx.f5.length k5,.slice A6 xx.f6.length k6])
  (h:Kd.N k42 42 W base ok (.slice (some ⟨g,0,none⟩) n cap) xs) (hi:i < n) (hf:Kd.FK k42 W (fun k=>ok k∧k≠g) xx [.int .i64 xx.f0,.int .i64 xx.f1,.int .i64 xx.f2,.int .i64 xx.f3,.slice A4 xx.f4.length k4,.slice A5 xx.f5.length k5,.slice A6 xx.f6.length k6])
  (hk:∀ W1,Kd.N k42 42 W1 base ok (.slice (some ⟨g,0,none⟩) n cap) (xs.set i xx) → W.grownBy W1 (some g) → K a W1):if Region.wanted oi (yielded ops a.tmps)=true then Oper.wp Try.prog oi a W K Q else K (a.put none undef) W:=by
 obtain ⟨hc,hz⟩:=mr_cells h hi
 have hs:=mr_N_set h i hi (c:=[.int .i64 xx.f0,.int .i64 xx.f1,.int .i64 xx.f2,.int .i64 xx.f3,.slice A4 xx.f4.length k4,.slice A5 xx.f5.length k5,.slice A6 xx.f6.length k6]) rfl (k42.K_one hf.now) hf
 exact skip_ hw hN (mr_st hop hx hy hc hz) (hk _ hs.1 hs.2)
theorem mr_w1 {q p:Nat} (h:q < p) (hp:p≤9223372036854775807):wrap64 ((q:Int) + 1)=((q + 1:Nat):Int):=by unfold wrap64;omega
theorem mr_w2 {p:Nat} (hp:p≤9223372036854775807):wrap64 ((p:Int) - 1)=(p:Int) - 1:=by unfold wrap64;omega
theorem mr_m {q n:Nat} (h:q < n):n - (intOf (.int .i64 ((q + 1:Nat):Int))).toNat < n - (intOf (.int .i64 (q:Int))).toNat:=by
 simp [intOf]
 omega
set_option maxHeartbeats 4000000 in
set_option maxRecDepth 100000 in
theorem api_MapPage_42.calls (ok:Nat → Prop) (A:Option Addr) (c:Nat) (l:List S42) (w0 w:World) (hB:Below w0.heap.size w0 w) (h:Kd.N k42 42 w w0.heap.size ok (.slice A l.length c) l) :
  Calls Try.prog 42 #[.slice A l.length c] w fun e w'=>e=.returned (.tuple #[])∧Kd.N k42 42 w' w0.heap.size ok (.slice A l.length c) l.reverse∧Below w0.heap.size w0 w':=by
 have hu42:=Try.underlying42
 have hu43:=Try.underlying43
 have hn:=(Kd.N_reads' h).2.2.2.1
 have hh_:=zm hB;clear hB;have hB:=hh_;clear hh_;have hh_:=zm h;clear h;have h:=hh_;clear hh_;have hh_:=zm hn;clear hn;have hn:=hh_;clear hh_
 have e0:=mr_w2 hn.out
 go_enter Try.func42,Try.ntmps42
 go_wp2
 rw [e0]
 go_loopw [2,3] (fun v i wr=>∃ q m:Nat,v=.int .i64 (q:Int)∧i=.int .i64 ((m:Int) - 1)∧Aside0 (q + m=l.length∧2 * q≤l.length)∧Aside0 (Kd.N k42 42 wr w0.heap.size ok (.slice A l.length c) (mix q l))∧Aside0 (Below w0.heap.size w0 wr)) (fun v _ _=>l.length - (intOf v).toNat)
 case atStart=>exact ⟨0,l.length,rfl,rfl,⟨by omega⟩,⟨by rw [mix_zero];exact h.out⟩,hB⟩
 case round =>
  obtain ⟨q,m,rfl,rfl,hq,hN,hbr⟩:=hrel
  by_cases hlt:(q:Int) < (m:Int) - 1
  ·have hd:decide ((q:Int) < (m:Int) - 1)=true:=decide_eq_true hlt
   obtain ⟨p,rfl⟩:∃ p,m=p + 1:=⟨m - 1,by omega⟩
   have ep:(((p + 1:Nat):Int) - 1)=(p:Int):=by omega
   rw [ep] at hd ⊢
   have hqp:q < p:=by omega
   have hql:q < l.length:=by have:=hq.out;omega
   have hpl:p < l.length:=by have:=hq.out;omega
   obtain ⟨g,cap,he,hge,hlg,_⟩:=Kd.N_form hN.out (by rw [mix_len hq.out.2];exact Nat.lt_of_le_of_lt (Nat.zero_le _) hql)
   injection he with he1 he2 he3
   subst he1
   clear he2 he3
   have wn:=mr_w1 hqp (Nat.le_trans (Nat.le_of_lt hpl) hn.out)
   have wp:=mr_w2 (p:=p) (Nat.le_trans (Nat.le_of_lt hpl) hn.out)
   have hqi:(q:Int) < (l.length:Int):=Int.ofNat_lt.mpr hql
   have hpi:(p:Int) < (l.length:Int):=Int.ofNat_lt.mpr hpl
   obtain ⟨cq,lcq,fq,rq,zq⟩:=Kd.N_elem hN.out z42 (q:Int) (Int.natCast_nonneg q) hqi
   obtain ⟨cp,lcp,fp,rp,zp⟩:=Kd.N_elem hN.out z42 (p:Int) (Int.natCast_nonneg p) hpi
   rw [Int.toNat_natCast] at fq rq fp rp
   clear lcq lcp zq zp hqi hpi
   obtain ⟨xq,hxq⟩:∃ x,x=(mix q l).getD q z42:=⟨_,rfl⟩
   obtain ⟨xp,hxp⟩:∃ x,x=(mix q l).getD p z42:=⟨_,rfl⟩
   rw [← hxq] at fq
   rw [← hxp] at fp
   have hmix:=mix_next (by have:=hq.out;omega) hqp z42 (l:=l)
   rw [← hxq,← hxp] at hmix
   clear hxq hxp
   obtain ⟨Aq4,cq4,Aq5,cq5,Aq6,cq6,rfl,_⟩:=k42_open fq.now
   obtain ⟨Ap4,cp4,Ap5,cp5,Ap6,cp6,rfl,_⟩:=k42_open fp.now
   have hsz:k42.sz=7:=rfl
   rw [hsz] at rq rp
   clear hsz
   go_wp2_with fail
   refine Cw.dstartD [13,15] (by as_aux_lemma=>kernel_rfl) rfl (fun wd hb=>?_)
   have rq2:∀ j u,_ → wd.cell? _=some u:=fun j u hj=>(hb.cell (World.block_lt_of_cell? _ _ (rq j u hj))).trans (rq j u hj)
   have rp2:∀ j u,_ → wd.cell? _=some u:=fun j u hj=>(hb.cell (World.block_lt_of_cell? _ _ (rp j u hj))).trans (rp j u hj)
   have fq2:=Kd.FK_step fq (fun k _ hlt=>hb.block k hlt)
   have fp2:=Kd.FK_step fp (fun k _ hlt=>hb.block k hlt)
   have hNd:=zm (Kd.N_below hN.out hb)
   have hbd:=zm (below_step hbr.out hb)
   clear fq fp rq rp hN hbr hb
   refine Cw.dpu (i:=0) (v:=?_) (a':=?_) (by simp only [List.getElem?_toArray,List.getElem?_cons_succ,List.getElem?_cons_zero];rfl) rfl (by as_aux_lemma=>kernel_rfl) (by rfl) (by exact fun _ _ _ h=>h) ?_ ?_ ?_
   rotate_left
   ·intro w'
    go_simp
    with_reducible rfl
   rotate_left
   ·simp only [Act.put,List.setIfInBounds_toArray,List.set_cons_zero,List.set_cons_succ,i64_w,i32_w]
    rfl
   refine Cw.dpu (i:=1) (v:=?_) (a':=?_) (by simp only [List.getElem?_toArray,List.getElem?_cons_succ,List.getElem?_cons_zero];rfl) rfl (by as_aux_lemma=>kernel_rfl) (by rfl) (by exact fun _ _ _ h=>h) ?_ ?_ ?_
   rotate_left
   ·intro w'
    go_simp
    with_reducible rfl
   rotate_left
   ·simp only [Act.put,List.setIfInBounds_toArray,List.set_cons_zero,List.set_cons_succ,i64_w,i32_w]
    rfl
   refine Cw.dpu (i:=2) (v:=?_) (a':=?_) (by simp only [List.getElem?_toArray,List.getElem?_cons_succ,List.getElem?_cons_zero];rfl) rfl (by as_aux_lemma=>kernel_rfl) (by rfl) (by exact fun _ _ _ h=>h) ?_ ?_ ?_
   rotate_left
   ·intro w'
    go_simp
    with_reducible rfl
   rotate_left
   ·simp only [Act.put,List.setIfInBounds_toArray,List.set_cons_zero,List.set_cons_succ,i64_w,i32_w]
    rfl
   refine Cw.dpu (i:=3) (v:=?_) (a':=?_) (by simp only [List.getElem?_toArray,List.getElem?_cons_succ,List.getElem?_cons_zero];rfl) rfl (by as_aux_lemma=>kernel_rfl) (by rfl) (by exact fun _ _ _ h=>h) ?_ ?_ ?_
   rotate_left
   ·intro w'
    go_simp
    with_reducible rfl
   rotate_left
   ·simp only [Act.put,List.setIfInBounds_toArray,List.set_cons_zero,List.set_cons_succ,i64_w,i32_w]
    rfl
   refine Cw.dpu (i:=4) (v:=?_) (a':=?_) (by simp only [List.getElem?_toArray,List.getElem?_cons_succ,List.getElem?_cons_zero];rfl) rfl (by as_aux_lemma=>kernel_rfl) (by rfl) (by exact fun _ _ _ h=>h) ?_ ?_ ?_
   rotate_left
   ·intro w'
    go_simp
    with_reducible rfl
   rotate_left
   ·simp only [Act.put,List.setIfInBounds_toArray,List.set_cons_zero,List.set_cons_succ,i64_w,i32_w]
    rfl
   refine Cw.dpu (i:=5) (v:=?_) (a':=?_) (by simp only [List.getElem?_toArray,List.getElem?_cons_succ,List.getElem?_cons_zero];rfl) rfl (by as_aux_lemma=>kernel_rfl) (by rfl) (by exact fun _ _ _ h=>h) ?_ ?_ ?_
   rotate_left
   ·intro w'
    go_simp
    with_reducible rfl
   rotate_left
   ·simp only [Act.put,List.setIfInBounds_toArray,List.set_cons_zero,List.set_cons_succ,i64_w,i32_w]
    rfl
   refine Cw.dpu (i:=6) (v:=?_) (a':=?_) (by simp only [List.getElem?_toArray,List.getElem?_cons_succ,List.getElem?_cons_zero];rfl) rfl (by as_aux_lemma=>kernel_rfl) (by rfl) (by exact fun _ _ _ h=>h) ?_ ?_ ?_
   rotate_left
   ·intro w'
    apply Eq.trans
    ·apply mr_ix
     ·rfl
     ·rfl
     ·rfl
     ·exact hpl
    ·rfl
   rotate_left
   ·simp only [Act.put,List.setIfInBounds_toArray,List.set_cons_zero,List.set_cons_succ,i64_w,i32_w]
    rfl
   refine Cw.dtkD (i:=7) (v:=?_) (a':=?_) (by simp only [List.getElem?_toArray,List.getElem?_cons_succ,List.getElem?_cons_zero];rfl) rfl (by as_aux_lemma=>kernel_rfl) (by rfl) (by exact fun _ _ _ h=>h) ?_ (by repeat (first|exact Below.refl _ _|with_reducible apply zlN|with_reducible apply zlA|refine below_step ?_ (Aside0.out (by assumption)))) ?_ ?_
   rotate_left
   ·intro w' hs_
    have hs:=zm hs_
    clear hs_
    apply Eq.trans
    ·apply mr_ld
     ·rfl
     ·rfl
     ·exact fun t u ht=>(Below.cell hs.out (World.block_lt_of_cell? _ _ (rp2 t u ht))).trans (rp2 t u ht)
    ·rfl
   rotate_left
   ·simp only [Act.put,List.setIfInBounds_toArray,List.set_cons_zero,List.set_cons_succ,i64_w,i32_w]
    rfl
   refine Cw.dpu (i:=8) (v:=?_) (a':=?_) (by simp only [List.getElem?_toArray,List.getElem?_cons_succ,List.getElem?_cons_zero];rfl) rfl (by as_aux_lemma=>kernel_rfl) (by rfl) (by exact fun _ _ _ h=>h) ?_ ?_ ?_
   rotate_left
   ·intro w'
    go_simp
    with_reducible rfl
   rotate_left
   ·simp only [Act.put,List.setIfInBounds_toArray,List.set_cons_zero,List.set_cons_succ,i64_w,i32_w]
    rfl
   refine Cw.dpu (i:=9) (v:=?_) (a':=?_) (by simp only [List.getElem?_toArray,List.getElem?_cons_succ,List.getElem?_cons_zero];rfl) rfl (by as_aux_lemma=>kernel_rfl) (by rfl) (by exact fun _ _ _ h=>h) ?_ ?_ ?_
   rotate_left
   ·intro w'
    go_simp
    with_reducible rfl
   rotate_left
   ·simp only [Act.put,List.setIfInBounds_toArray,List.set_cons_zero,List.set_cons_succ,i64_w,i32_w]
    rfl
   refine Cw.dpu (i:=10) (v:=?_) (a':=?_) (by simp only [List.getElem?_toArray,List.getElem?_cons_succ,List.getElem?_cons_zero];rfl) rfl (by as_aux_lemma=>kernel_rfl) (by rfl) (by exact fun _ _ _ h=>h) ?_ ?_ ?_
   rotate_left
   ·intro w'
    apply Eq.trans
    ·apply mr_ix
     ·rfl
     ·rfl
     ·rfl
     ·exact hql
    ·rfl
   rotate_left
   ·simp only [Act.put,List.setIfInBounds_toArray,List.set_cons_zero,List.set_cons_succ,i64_w,i32_w]
    rfl
   refine Cw.dtkD (i:=11) (v:=?_) (a':=?_) (by simp only [List.getElem?_toArray,List.getElem?_cons_succ,List.getElem?_cons_zero];rfl) rfl (by as_aux_lemma=>kernel_rfl) (by rfl) (by exact fun _ _ _ h=>h) ?_ (by repeat (first|exact Below.refl _ _|with_reducible apply zlN|with_reducible apply zlA|refine below_step ?_ (Aside0.out (by assumption)))) ?_ ?_
   rotate_left
   ·intro w' hs_
    have hs:=zm hs_
    clear hs_
    apply Eq.trans
    ·apply mr_ld
     ·rfl
     ·rfl
     ·exact fun t u ht=>(Below.cell hs.out (World.block_lt_of_cell? _ _ (rq2 t u ht))).trans (rq2 t u ht)
    ·rfl
   rotate_left
   ·simp only [Act.put,List.setIfInBounds_toArray,List.set_cons_zero,List.set_cons_succ,i64_w,i32_w]
    rfl
   refine Cw.dpu (i:=12) (v:=?_) (a':=?_) (by simp only [List.getElem?_toArray,List.getElem?_cons_succ,List.getElem?_cons_zero];rfl) rfl (by as_aux_lemma=>kernel_rfl) (by rfl) (by exact fun _ _ _ h=>h) ?_ ?_ ?_
   rotate_left
   ·intro w'
    apply Eq.trans
    ·apply mr_ix
     ·rfl
     ·rfl
     ·rfl
     ·exact hql
    ·rfl
   rotate_left
   ·simp only [Act.put,List.setIfInBounds_toArray,List.set_cons_zero,List.set_cons_succ,i64_w,i32_w]
    rfl
   refine Cw.lastD (i:=13) (N:=none) (by simp only [List.getElem?_toArray,List.getElem?_cons_succ,List.getElem?_cons_zero];rfl) rfl (by as_aux_lemma=>kernel_rfl) (by decide) (fun K hK=>?_)
   refine mr_do rfl rfl rfl rfl rfl hNd.out hql fp2 (fun w1 hN1 hg1=>?_)
   refine hK.out _ _ ?_
   clear hK K
   have fq3:=Kd.FK_step fq2 (fun k hk hlt=>hg1.block k hlt (fun e=>hk.2 (Option.some.inj e)))
   have hb1:=hbd.out.grown hg1 (below_size hbd.out) (fun k hk=>by rw [← Option.some.inj hk];exact hge)
   have hh_:=zm hN1;clear hN1;have hN1:=hh_;clear hh_
   have hh_:=zm hb1;clear hb1;have hb1:=hh_;clear hh_
   clear hg1 fq2 fp2 hNd
   refine Cw.dpu (i:=14) (v:=?_) (a':=?_) (by simp only [List.getElem?_toArray,List.getElem?_cons_succ,List.getElem?_cons_zero];rfl) rfl (by as_aux_lemma=>kernel_rfl) (by rfl) (by exact fun _ _ _ h=>h) ?_ ?_ ?_
   rotate_left
   ·intro w'
    apply Eq.trans
    ·apply mr_ix
     ·rfl
     ·rfl
     ·rfl
     ·exact hpl
    ·rfl
   rotate_left
   ·simp only [Act.put,List.setIfInBounds_toArray,List.set_cons_zero,List.set_cons_succ,i64_w,i32_w]
    rfl
   refine Cw.lastD (i:=15) (N:=none) (by simp only [List.getElem?_toArray,List.getElem?_cons_succ,List.getElem?_cons_zero];rfl) rfl (by as_aux_lemma=>kernel_rfl) (by decide) (fun K hK=>?_)
   refine mr_do rfl rfl rfl rfl rfl hN1.out hpl fq3 (fun w2 hN2 hg2=>?_)
   refine hK.out _ _ ?_
   clear hK K
   have hb2:=hb1.out.grown hg2 (below_size hb1.out) (fun k hk=>by rw [← Option.some.inj hk];exact hge)
   rw [← hmix] at hN2
   have hh_:=zm hN2;clear hN2;have hN2:=hh_;clear hh_
   have hh_:=zm hb2;clear hb2;have hb2:=hh_;clear hh_
   refine done_ (by as_aux_lemma=>kernel_rfl) ?_
   go_wp2
   go_roundw
   case rel=>exact ⟨q + 1,p,by first|rfl|rw [wn],by first|rfl|rw [wp],⟨by have:=hq.out;omega⟩,hN2,hb2⟩
   case measure=>first|exact mr_m hql|(rw [wn];exact mr_m hql)
  ·have hd:decide ((q:Int) < (m:Int) - 1)=false:=decide_eq_false hlt
   rw [mix_end hq.out.2 (by have:=hq.out;omega)] at hN
   go_wp2
   first|go_end0|((try simp only [Exit.inBlock,Exit.then]);refine bodyPost_ret (results_none rfl _ _ _) rfl ?_)
   exact ⟨rfl,hN.out,hbr.out⟩
end Go.Proofs.Ytkhbmgclklmimaa.Print
end
