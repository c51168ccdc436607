/- Texts of the proof of InodeBack, part 20. -/
import Derived.Test.YtjoojmodghpimaaInodeBackMA
import Derived.Test.YtjoojmodghpimaaInodeBackM17
import Derived.Test.YtjoojmodghpimaaInodeBackM18
import Derived.Test.YtjoojmodghpimaaInodeBackM19
section
namespace Go.Proofs.Ytjoojmodghpimaa.Print
open Go.RowKit Go.Proofs.YtjoojmodghpimaaW.PrintWords Go.Proofs.YtjoojmodghpimaaW.PrintLast Go.Proofs.YtjoojmodghpimaaW.PrintMore
attribute [local go_sem] max2_int min2_int max_two min_two max_three min_three max_four min_four   -- for this text's walks alone
attribute [local go_sem ↓] Go.Proofs.Ytjoojmodghpimaa.Sem.isSome_setCell
attribute [local go_sem] Go.Instr.field Go.asAgg
set_option linter.unusedVariables false
set_option linter.unusedSimpArgs false
-- CX
set_option maxRecDepth 100000 in
theorem inode_headWidths.calls (w:World):Calls Try.prog 28 #[] w fun e w'=>e=.returned (.agg #[.int .i64 8,.int .i64 8,.int .i64 8,.int .i64 8,.int .i64 32,.int .i64 64,.int .i64 32,.int .i64 32])∧Below w.heap.size w w':=by
 have hu:=Try.underlying52
 go_enter Try.func28,Try.ntmps28
 go_wp2
 exact bodyPost_ret (results_cell_row rfl _ _ w.heap.size 52 #[.int .i64 8,.int .i64 8,.int .i64 8,.int .i64 8,.int .i64 32,.int .i64 64,.int .i64 32,.int .i64 32] (0,0) _ rfl (heap_alloc_new w _) Try.underlying52 rfl (by kernel_rfl)) rfl ⟨rfl,zlA (Below.refl _ _) _⟩
set_option maxRecDepth 100000 in
theorem inode_rootWidths.calls (w:World):Calls Try.prog 29 #[] w fun e w'=>e=.returned (.agg #[.int .i64 24,.int .i64 16,.int .i64 32])∧Below w.heap.size w w':=by
 have hu:=Try.underlying54
 go_enter Try.func29,Try.ntmps29
 go_wp2
 exact bodyPost_ret (results_cell_row rfl _ _ w.heap.size 54 #[.int .i64 24,.int .i64 16,.int .i64 32] (0,0) _ rfl (heap_alloc_new w _) Try.underlying54 rfl (by kernel_rfl)) rfl ⟨rfl,zlA (Below.refl _ _) _⟩
def inode_Encode.go (k:Nat):List S51 → List Int → Option (List Int)
 | [],b=>some b
 | x :: xs,b=>(seal_Pack.f k [24,16,32] [IntKind.u64.wrap x.f0,IntKind.u64.wrap x.f1,IntKind.u64.wrap x.f2]).bind fun p=>if p.2=0 then (if b.length + p.1.length < 140737488355328 then inode_Encode.go k xs (b ++ p.1) else none) else none
def inode_Encode.f (k:Nat) (a0_0:Int) (a0_1:Int) (a0_2:Int) (a0_3:Int) (a0_4:Int) (a0_5:Int) (l0_6:List (S51)):Option (List Int × Int) :=
 (inode_Check.f k a0_0 a0_1 a0_2 a0_3 a0_4 a0_5 l0_6).bind fun e=>if e=0 then
 (seal_Pack.f k [8,8,8,8,32,64,32,32] [IntKind.u64.wrap a0_0,IntKind.u64.wrap a0_5,IntKind.u64.wrap (l0_6.length:Int),0,IntKind.u64.wrap a0_1,IntKind.u64.wrap a0_2,IntKind.u64.wrap a0_3,IntKind.u64.wrap a0_4]).bind fun p=>if p.2=0 then
 (inode_Encode.go k l0_6 p.1).bind fun b=>if b.length≤64 then some (b ++ List.replicate (64 - b.length) 0,0) else none else none
 else some ([],e)
theorem inode_Encode.go_mono (k:Nat):∀ (l:List S51) (b:List Int),LeO (inode_Encode.go k l b) (inode_Encode.go (k + 1) l b)
 | [],b=>LeO.refl _
 | x :: xs,b=>by
  unfold inode_Encode.go
  exact LeO.bind (seal_Pack.mono _ _ k) (fun p=>LeO.ite (LeO.ite (inode_Encode.go_mono k xs _) (LeO.refl _)) (LeO.refl _))
theorem inode_Encode.mono:∀ a0 a1 a2 a3 a4 a5 a6 k,LeO (inode_Encode.f k a0 a1 a2 a3 a4 a5 a6) (inode_Encode.f (k + 1) a0 a1 a2 a3 a4 a5 a6):=by
 intro a0 a1 a2 a3 a4 a5 a6 k
 unfold inode_Encode.f
 exact LeO.bind (inode_Check.mono _ _ _ _ _ _ _ k) (fun e=>LeO.ite (LeO.bind (seal_Pack.mono _ _ k) (fun p=>LeO.ite (LeO.bind (inode_Encode.go_mono k _ _) (fun b=>LeO.refl _)) (LeO.refl _))) (LeO.refl _))
section
variable {ops : Array Oper} {rest : List Oper} {o : Oper} {a : Act} {Q : Exit → Act → World → Prop} {W : World} {g : Nat} {p : Operand} {x0 x1 x2 x3 x4 x5 x6 : Value}
theorem IE_ldrun (hop:o.op=.load 24 p) (hp:a.eval p=.pointer (some ⟨g,0,none⟩)) (hb:W.heap[g]?=some (.cells #[x0,x1,x2,x3,x4,x5,x6] 24 (0,0))) :
  (execOp a.eval o).run Try.prog W=.ok (.value (.agg #[x0,x1,x2,x3,x4,x5,x6])) W:=by
 have hu24:=Try.underlying24
 have c0:W.cell? ⟨g,0,none⟩=some x0:=(blk_cell hb 0).trans rfl
 have c1:W.cell? ⟨g,1,none⟩=some x1:=(blk_cell hb 1).trans rfl
 have c2:W.cell? ⟨g,2,none⟩=some x2:=(blk_cell hb 2).trans rfl
 have c3:W.cell? ⟨g,3,none⟩=some x3:=(blk_cell hb 3).trans rfl
 have c4:W.cell? ⟨g,4,none⟩=some x4:=(blk_cell hb 4).trans rfl
 have c5:W.cell? ⟨g,5,none⟩=some x5:=(blk_cell hb 5).trans rfl
 have c6:W.cell? ⟨g,6,none⟩=some x6:=(blk_cell hb 6).trans rfl
 simp only [execOp,hop,hp]
 go_simp
theorem IE_ld (hop:o.op=.load 24 p) (hgd:o.guard=none) (hp:a.eval p=.pointer (some ⟨g,0,none⟩)) (hb:W.heap[g]?=some (.cells #[x0,x1,x2,x3,x4,x5,x6] 24 (0,0)))
  (h:wpList Try.prog ops Q rest (a.put o.dst (.agg #[x0,x1,x2,x3,x4,x5,x6])) W):wpList Try.prog ops Q (o :: rest) a W:=Kd.event_run hgd (IE_ldrun hop hp hb) h
theorem IE_c3 {j t:Nat} {cs:Array Value} {v:Value} (hop:o.op=.load 3 p) (hp:a.eval p=.pointer (some ⟨g,j,none⟩)) (hb:W.heap[g]?=some (.cells cs t (0,0))) (hj:cs[j]?=some v):(execOp a.eval o).run Try.prog W=.ok (.value v) W:=by
 have c0:W.cell? ⟨g,j,none⟩=some v:=(blk_cell hb j).trans hj
 simp only [execOp,hop,hp]
 go_simp
theorem IE_c2 {j t:Nat} {cs:Array Value} {v:Value} (hop:o.op=.load 2 p) (hp:a.eval p=.pointer (some ⟨g,j,none⟩)) (hb:W.heap[g]?=some (.cells cs t (0,0))) (hj:cs[j]?=some v):(execOp a.eval o).run Try.prog W=.ok (.value v) W:=by
 have c0:W.cell? ⟨g,j,none⟩=some v:=(blk_cell hb j).trans hj
 simp only [execOp,hop,hp]
 go_simp
theorem IE_c22 {j t:Nat} {cs:Array Value} {v:Value} (hop:o.op=.load 22 p) (hp:a.eval p=.pointer (some ⟨g,j,none⟩)) (hb:W.heap[g]?=some (.cells cs t (0,0))) (hj:cs[j]?=some v):(execOp a.eval o).run Try.prog W=.ok (.value v) W:=by
 have c0:W.cell? ⟨g,j,none⟩=some v:=(blk_cell hb j).trans hj
 simp only [execOp,hop,hp]
 go_simp
theorem IE_lit8 {y0 y1 y2 y3 y4 y5 y6 y7:Operand} {n0 n1 n2 n3 n4 n5 n6 n7:Int} (hop:o.op=.buildSlice 61 8 #[(0,y0),(1,y1),(2,y2),(3,y3),(4,y4),(5,y5),(6,y6),(7,y7)]) (h0:a.eval y0=.int .u64 n0) (h1:a.eval y1=.int .u64 n1) (h2:a.eval y2=.int .u64 n2) (h3:a.eval y3=.int .u64 n3) (h4:a.eval y4=.int .u64 n4) (h5:a.eval y5=.int .u64 n5) (h6:a.eval y6=.int .u64 n6) (h7:a.eval y7=.int .u64 n7) :
  (execOp a.eval o).run Try.prog W=.ok (.value (.slice (some ⟨W.heap.size,0,none⟩) 8 8)) (W.alloc (.cells #[.int .u64 n0,.int .u64 n1,.int .u64 n2,.int .u64 n3,.int .u64 n4,.int .u64 n5,.int .u64 n6,.int .u64 n7] 58 (0,0))):=by
 generalize hE:a.eval=ev at h0 h1 h2 h3 h4 h5 h6 h7 ⊢
 simp only [execOp,hop]
 go_simp
theorem IE_lit3 {y0 y1 y2:Operand} {n0 n1 n2:Int} (hop:o.op=.buildSlice 61 3 #[(0,y0),(1,y1),(2,y2)]) (h0:a.eval y0=.int .u64 n0) (h1:a.eval y1=.int .u64 n1) (h2:a.eval y2=.int .u64 n2) :
  (execOp a.eval o).run Try.prog W=.ok (.value (.slice (some ⟨W.heap.size,0,none⟩) 3 3)) (W.alloc (.cells #[.int .u64 n0,.int .u64 n1,.int .u64 n2] 58 (0,0))):=by
 generalize hE:a.eval=ev at h0 h1 h2 ⊢
 simp only [execOp,hop]
 go_simp
theorem IE_st8 {x:Operand} {m0 m1 m2 m3 m4 m5 m6 m7:Value} (hop:o.op=.store 52 p x) (hp:a.eval p=.pointer (some ⟨g,0,none⟩)) (hx:a.eval x=.agg #[.int .i64 8,.int .i64 8,.int .i64 8,.int .i64 8,.int .i64 32,.int .i64 64,.int .i64 32,.int .i64 32]) (hb:W.heap[g]?=some (.cells #[m0,m1,m2,m3,m4,m5,m6,m7] 52 (0,0))) :
  (execOp a.eval o).run Try.prog W=.ok .skip (Cw.setL W g 0 [.int .i64 8,.int .i64 8,.int .i64 8,.int .i64 8,.int .i64 32,.int .i64 64,.int .i64 32,.int .i64 32]):=by
 have hu:=Try.underlying52
 have c0:W.cell? ⟨g,0,none⟩=some m0:=(blk_cell hb 0).trans rfl
 have c1:W.cell? ⟨g,1,none⟩=some m1:=(blk_cell hb 1).trans rfl
 have c2:W.cell? ⟨g,2,none⟩=some m2:=(blk_cell hb 2).trans rfl
 have c3:W.cell? ⟨g,3,none⟩=some m3:=(blk_cell hb 3).trans rfl
 have c4:W.cell? ⟨g,4,none⟩=some m4:=(blk_cell hb 4).trans rfl
 have c5:W.cell? ⟨g,5,none⟩=some m5:=(blk_cell hb 5).trans rfl
 have c6:W.cell? ⟨g,6,none⟩=some m6:=(blk_cell hb 6).trans rfl
 have c7:W.cell? ⟨g,7,none⟩=some m7:=(blk_cell hb 7).trans rfl
 have f0:=blk_frozen hb 0
 have f1:=blk_frozen hb 1
 have f2:=blk_frozen hb 2
 have f3:=blk_frozen hb 3
 have f4:=blk_frozen hb 4
 have f5:=blk_frozen hb 5
 have f6:=blk_frozen hb 6
 have f7:=blk_frozen hb 7
 simp only [execOp,hop,hp,hx]
 go_simp
 rfl
theorem IE_st3 {x:Operand} {m0 m1 m2:Value} (hop:o.op=.store 54 p x) (hp:a.eval p=.pointer (some ⟨g,0,none⟩)) (hx:a.eval x=.agg #[.int .i64 24,.int .i64 16,.int .i64 32]) (hb:W.heap[g]?=some (.cells #[m0,m1,m2] 54 (0,0))) :
  (execOp a.eval o).run Try.prog W=.ok .skip (Cw.setL W g 0 [.int .i64 24,.int .i64 16,.int .i64 32]):=by
 have hu:=Try.underlying54
 have c0:W.cell? ⟨g,0,none⟩=some m0:=(blk_cell hb 0).trans rfl
 have c1:W.cell? ⟨g,1,none⟩=some m1:=(blk_cell hb 1).trans rfl
 have c2:W.cell? ⟨g,2,none⟩=some m2:=(blk_cell hb 2).trans rfl
 have f0:=blk_frozen hb 0
 have f1:=blk_frozen hb 1
 have f2:=blk_frozen hb 2
 simp only [execOp,hop,hp,hx]
 go_simp
 rfl
end
theorem IE_drop (l:List S51) (j:Nat) (h:j < l.length):l.drop j=rd_T51 l (j:Int) :: l.drop (j + 1):=by
 rw [List.drop_eq_getElem_cons h]
 congr 1
 simp [rd_T51,List.getD_eq_getElem?_getD,h]
set_option maxHeartbeats 4000000 in
set_option maxRecDepth 100000 in
theorem inode_Encode.calls (k:Nat) (a0_0:Int) (a0_1:Int) (a0_2:Int) (a0_3:Int) (a0_4:Int) (a0_5:Int) (A0_6:Option Addr) (c0_6:Nat) (l0_6:List (S51)) (r1:List Int) (r2:Int) (w:World) (hr0_6:Kd.C k51 w A0_6 l0_6.length l0_6) (hc0_6:l0_6.length≤c0_6) (h:inode_Encode.f k a0_0 a0_1 a0_2 a0_3 a0_4 a0_5 l0_6=some (r1,r2)) :
  Calls Try.prog 8 #[.agg #[.int .i64 a0_0,.int .i64 a0_1,.int .i64 a0_2,.int .i64 a0_3,.int .i64 a0_4,.int .i64 a0_5,.slice A0_6 l0_6.length c0_6]] w fun e w'=>∃ v0_:Value,e=.returned (.tuple #[v0_,.int .i64 r2])∧Kd.R (Kd.int .u8) 5 w' w.heap.size (fun _=>True) v0_ r1∧Below w.heap.size w w':=by
 have hu24:=Try.underlying24
 have H:inode_Encode.f k a0_0 a0_1 a0_2 a0_3 a0_4 a0_5 l0_6=some (r1,r2):=h
 clear h
 have hh_:=zm hr0_6;clear hr0_6;have hr0_6:=hh_;clear hh_;have hh_:=zm hc0_6;clear hc0_6;have hc0_6:=hh_;clear hh_
 unfold inode_Encode.f at H
 have hg_:=Option.bind_eq_some_iff.mp H;clear H;obtain ⟨ec,F0,H⟩:=hg_;have hh_:=zm F0;clear F0;have F0:=hh_;clear hh_;(try dsimp only at H)
 have hh_:=zm H;clear H;have H:=hh_;clear hh_
 go_enter Try.func8,Try.ntmps8
 go_wp2_with (first|((with_reducible refine gate_dst (N:=1) rfl ?_);refine box_event rfl (N:=1) rfl (cs:=_) (t:=24) (by first|(go_simp;done)|(go_simp;rfl)) ?_;rintro g hg w1 hbk hb;clear hg;have hh_:=zm hbk;clear hbk;have hbk:=hh_;clear hh_;have hh_:=zm hb;clear hb;have hb:=hh_;clear hh_)|((with_reducible refine gate_ (.load 24 _) rfl ?_);refine IE_ld rfl rfl rfl (zbB (Aside0.out (by assumption)) (by repeat (first|exact Below.refl _ _|with_reducible apply zlN|with_reducible apply zlA|refine below_step ?_ (Aside0.out (by assumption))))) ?_)|(go_at_call 14;refine (inode_Check.calls k _ _ _ _ _ _ _ _ _ _ _ (Kd.C_below (Aside0.out (by assumption)) (by repeat (first|exact Below.refl _ _|with_reducible apply zlN|with_reducible apply zlA|refine below_step ?_ (Aside0.out (by assumption))))) (Aside0.out (by assumption)) (Aside0.out (by assumption))).mono ?_;rintro e wc ⟨rfl,hb⟩;have hh_:=zm hb;clear hb;have hb:=hh_;clear hh_))
 ·have hz_:ec≠0:=by simpa using (by assumption:(ec != 0)=true)
  have H:=H.out
  rw [if_neg hz_] at H
  simp only [Option.some.injEq,Prod.mk.injEq] at H
  obtain ⟨rfl,rfl⟩:=H
  clear hz_
  go_ret2
  exact ⟨_,rfl,Kd.R_nil _ _ _ _ _,(by repeat (first|exact Below.refl _ _|with_reducible apply zlN|with_reducible apply zlA|refine below_step ?_ (Aside0.out (by assumption))))⟩
 ·have hz_:ec=0:=by simpa using (by assumption:(ec != 0)=false)
  have H:=H.out
  rw [if_pos hz_] at H;clear hz_
  have hg_:=Option.bind_eq_some_iff.mp H;clear H;obtain ⟨⟨p1,e1⟩,F1,H⟩:=hg_;have hh_:=zm F1;clear F1;have F1:=hh_;clear hh_;(try dsimp only at H);have hg_:=Cw.gt_ H;clear H;obtain ⟨rfl,H⟩:=hg_;have hg_:=Option.bind_eq_some_iff.mp H;clear H;obtain ⟨bs,F2,H⟩:=hg_;have hh_:=zm F2;clear F2;have F2:=hh_;clear hh_;(try dsimp only at H);have hg_:=Cw.gt_ H;clear H;obtain ⟨hl64,H⟩:=hg_
  simp only [Option.some.injEq,Prod.mk.injEq] at H
  obtain ⟨rfl,rfl⟩:=H
  have hh_:=zm hl64;clear hl64;have hl64:=hh_;clear hh_
  go_wp2_with (first|(go_at_call 28;refine (inode_headWidths.calls _).mono ?_;rintro e w1 ⟨rfl,hb⟩;have hh_:=zm hb;clear hb;have hb:=hh_;clear hh_)|(go_at_call 29;refine (inode_rootWidths.calls _).mono ?_;rintro e w1 ⟨rfl,hb⟩;have hh_:=zm hb;clear hb;have hb:=hh_;clear hh_)|((with_reducible refine gate_ (.alloc 52) rfl ?_);refine box_event rfl rfl (by first|(go_simp;done)|(go_simp;rfl)) ?_;rintro gh hg w1 hbk hb;have hge:Aside0 (wc.heap.size≤gh):=⟨Nat.le_trans (below_size (by repeat (first|exact Below.refl _ _|with_reducible apply zlN|with_reducible apply zlA|refine below_step ?_ (Aside0.out (by assumption))))) (Nat.le_of_eq hg.symm)⟩; clear hg;have hh_:=zm hbk;clear hbk;have hbk:=hh_;clear hh_;have hh_:=zm hb;clear hb;have hb:=hh_;clear hh_)|((with_reducible refine gate_ (.alloc 54) rfl ?_);refine box_event rfl rfl (by first|(go_simp;done)|(go_simp;rfl)) ?_;rintro gr hg w1 hbk hb;have hge:Aside0 (wc.heap.size≤gr):=⟨Nat.le_trans (below_size (by repeat (first|exact Below.refl _ _|with_reducible apply zlN|with_reducible apply zlA|refine below_step ?_ (Aside0.out (by assumption))))) (Nat.le_of_eq hg.symm)⟩;have hne:Aside0 (gr≠gh):=⟨by rw [hg];exact Nat.ne_of_gt (blk_lt (g:=gh) (o:=Obj.cells #[.int .i64 0,.int .i64 0,.int .i64 0,.int .i64 0,.int .i64 0,.int .i64 0,.int .i64 0,.int .i64 0] 52 (0,0)) (zbB (Aside0.out (by assumption)) (by repeat (first|exact Below.refl _ _|with_reducible apply zlN|with_reducible apply zlA|refine below_step ?_ (Aside0.out (by assumption))))))⟩;clear hg;have hh_:=zm hbk;clear hbk;have hbk:=hh_;clear hh_;have hh_:=zm hb;clear hb;have hb:=hh_;clear hh_)|((with_reducible refine gate_ (.store 52 _ _) rfl ?_);refine Cw.put_event (g:=gh) (ys:=[.int .i64 8,.int .i64 8,.int .i64 8,.int .i64 8,.int .i64 32,.int .i64 64,.int .i64 32,.int .i64 32]) rfl rfl rfl (by apply IE_st8;exact rfl;exact rfl;exact rfl;exact (show _=some (Obj.cells #[.int .i64 0,.int .i64 0,.int .i64 0,.int .i64 0,.int .i64 0,.int .i64 0,.int .i64 0,.int .i64 0] 52 (0,0)) from (zbB (Aside0.out (by assumption)) (by repeat (first|exact Below.refl _ _|with_reducible apply zlN|with_reducible apply zlA|refine below_step ?_ (Aside0.out (by assumption))))))) ?_;rintro w2 hw2;have hb2:Aside0 (Below wc.heap.size wc w2):=⟨by rw [hw2];exact Cw.setL_below (Aside0.out (by assumption)) _ _ _ (by repeat (first|exact Below.refl _ _|with_reducible apply zlN|with_reducible apply zlA|refine below_step ?_ (Aside0.out (by assumption))))⟩;have hh8:Aside0 (w2.heap[gh]?=some (.cells #[.int .i64 8,.int .i64 8,.int .i64 8,.int .i64 8,.int .i64 32,.int .i64 64,.int .i64 32,.int .i64 32] 52 (0,0))):=⟨by rw [hw2];exact Cw.setL_full [.int .i64 8,.int .i64 8,.int .i64 8,.int .i64 8,.int .i64 32,.int .i64 64,.int .i64 32,.int .i64 32] (show _=some (Obj.cells #[.int .i64 0,.int .i64 0,.int .i64 0,.int .i64 0,.int .i64 0,.int .i64 0,.int .i64 0,.int .i64 0] 52 (0,0)) from (zbB (Aside0.out (by assumption)) (by repeat (first|exact Below.refl _ _|with_reducible apply zlN|with_reducible apply zlA|refine below_step ?_ (Aside0.out (by assumption)))))) rfl⟩;have hr3:Aside0 (w2.heap[gr]?=some (.cells #[.int .i64 0,.int .i64 0,.int .i64 0] 54 (0,0))):=⟨by rw [hw2,Cw.setL_far hne.out];exact (zbB (Aside0.out (by assumption)) (by repeat (first|exact Below.refl _ _|with_reducible apply zlN|with_reducible apply zlA|refine below_step ?_ (Aside0.out (by assumption)))))⟩;clear hw2)|((with_reducible refine gate_ (.store 54 _ _) rfl ?_);refine Cw.put_event (g:=gr) (ys:=[.int .i64 24,.int .i64 16,.int .i64 32]) rfl rfl rfl (by apply IE_st3;exact rfl;exact rfl;exact rfl;exact hr3.out) ?_;rintro w3 hw3;have hb3:Aside0 (Below wc.heap.size wc w3):=⟨by rw [hw3];exact Cw.setL_below (Aside0.out (by assumption)) _ _ _ hb2.out⟩;have hr3':Aside0 (w3.heap[gr]?=some (.cells #[.int .i64 24,.int .i64 16,.int .i64 32] 54 (0,0))):=⟨by rw [hw3];exact Cw.setL_full [.int .i64 24,.int .i64 16,.int .i64 32] hr3.out rfl⟩;have hh8':Aside0 (w3.heap[gh]?=some (.cells #[.int .i64 8,.int .i64 8,.int .i64 8,.int .i64 8,.int .i64 32,.int .i64 64,.int .i64 32,.int .i64 32] 52 (0,0))):=⟨by rw [hw3,Cw.setL_far (fun e=>hne.out e.symm)];exact hh8.out⟩;clear hw3 hr3 hh8 hb2))
  refine Cw.dstart (by as_aux_lemma=>kernel_rfl) rfl (fun wd hb=>?_)
  have hh_:=zm hb;clear hb;have hb:=hh_;clear hh_
  refine Cw.dpu (i:=0) (v:=?_) (a':=?_) (by simp only [List.getElem?_toArray,List.getElem?_cons_succ,List.getElem?_cons_zero];rfl) rfl (by as_aux_lemma=>kernel_rfl) (by rfl) (by exact fun _ _ _ h=>h) ?_ ?_ ?_
  rotate_left
  ·intro w'
   go_simp
   with_reducible rfl
  rotate_left
  ·simp only [Act.put,List.setIfInBounds_toArray,List.set_cons_zero,List.set_cons_succ,i64_w,i32_w]
   rfl
  refine Cw.dpu (i:=1) (v:=?_) (a':=?_) (by simp only [List.getElem?_toArray,List.getElem?_cons_succ,List.getElem?_cons_zero];rfl) rfl (by as_aux_lemma=>kernel_rfl) (by rfl) (by exact fun _ _ _ h=>h) ?_ ?_ ?_
  rotate_left
  ·intro w'
   go_simp
   with_reducible rfl
  rotate_left
  ·simp only [Act.put,List.setIfInBounds_toArray,List.set_cons_zero,List.set_cons_succ,i64_w,i32_w]
   rfl
  refine Cw.dtk (i:=2) (v:=?_) (a':=?_) (by simp only [List.getElem?_toArray,List.getElem?_cons_succ,List.getElem?_cons_zero];rfl) rfl (by as_aux_lemma=>kernel_rfl) (by rfl) (by exact fun _ _ _ h=>h) ?_ (by repeat (first|exact Below.refl _ _|with_reducible apply zlN|with_reducible apply zlA|refine below_step ?_ (Aside0.out (by assumption)))) ?_ ?_
  rotate_left
  ·intro w' hs_
   have hs:=zm hs_
   clear hs_
   apply Eq.trans
   ·apply IE_c3
    ·rfl
    ·rfl
    ·exact (zbB (Aside0.out (by assumption)) (by repeat (first|exact Below.refl _ _|with_reducible apply zlN|with_reducible apply zlA|refine below_step ?_ (Aside0.out (by assumption)))))
    ·rfl
   ·rfl
  rotate_left
  ·simp only [Act.put,List.setIfInBounds_toArray,List.set_cons_zero,List.set_cons_succ,i64_w,i32_w]
   rfl
  refine Cw.dpu (i:=3) (v:=?_) (a':=?_) (by simp only [List.getElem?_toArray,List.getElem?_cons_succ,List.getElem?_cons_zero];rfl) rfl (by as_aux_lemma=>kernel_rfl) (by rfl) (by exact fun _ _ _ h=>h) ?_ ?_ ?_
  rotate_left
  ·intro w'
   go_simp
   with_reducible rfl
  rotate_left
  ·simp only [Act.put,List.setIfInBounds_toArray,List.set_cons_zero,List.set_cons_succ,i64_w,i32_w]
   rfl
  refine Cw.dpu (i:=4) (v:=?_) (a':=?_) (by simp only [List.getElem?_toArray,List.getElem?_cons_succ,List.getElem?_cons_zero];rfl) rfl (by as_aux_lemma=>kernel_rfl) (by rfl) (by exact fun _ _ _ h=>h) ?_ ?_ ?_
  rotate_left
  ·intro w'
   go_simp
   with_reducible rfl
  rotate_left
  ·simp only [Act.put,List.setIfInBounds_toArray,List.set_cons_zero,List.set_cons_succ,i64_w,i32_w]
   rfl
  refine Cw.dtk (i:=5) (v:=?_) (a':=?_) (by simp only [List.getElem?_toArray,List.getElem?_cons_succ,List.getElem?_cons_zero];rfl) rfl (by as_aux_lemma=>kernel_rfl) (by rfl) (by exact fun _ _ _ h=>h) ?_ (by repeat (first|exact Below.refl _ _|with_reducible apply zlN|with_reducible apply zlA|refine below_step ?_ (Aside0.out (by assumption)))) ?_ ?_
  rotate_left
  ·intro w' hs_
   have hs:=zm hs_
   clear hs_
   apply Eq.trans
   ·apply IE_c3
    ·rfl
    ·rfl
    ·exact (zbB (Aside0.out (by assumption)) (by repeat (first|exact Below.refl _ _|with_reducible apply zlN|with_reducible apply zlA|refine below_step ?_ (Aside0.out (by assumption)))))
    ·rfl
   ·rfl
  rotate_left
  ·simp only [Act.put,List.setIfInBounds_toArray,List.set_cons_zero,List.set_cons_succ,i64_w,i32_w]
   rfl
  refine Cw.dpu (i:=6) (v:=?_) (a':=?_) (by simp only [List.getElem?_toArray,List.getElem?_cons_succ,List.getElem?_cons_zero];rfl) rfl (by as_aux_lemma=>kernel_rfl) (by rfl) (by exact fun _ _ _ h=>h) ?_ ?_ ?_
  rotate_left
  ·intro w'
   go_simp
   with_reducible rfl
  rotate_left
  ·simp only [Act.put,List.setIfInBounds_toArray,List.set_cons_zero,List.set_cons_succ,i64_w,i32_w]
   rfl
  refine Cw.dpu (i:=7) (v:=?_) (a':=?_) (by simp only [List.getElem?_toArray,List.getElem?_cons_succ,List.getElem?_cons_zero];rfl) rfl (by as_aux_lemma=>kernel_rfl) (by rfl) (by exact fun _ _ _ h=>h) ?_ ?_ ?_
  rotate_left
  ·intro w'
   go_simp
   with_reducible rfl
  rotate_left
  ·simp only [Act.put,List.setIfInBounds_toArray,List.set_cons_zero,List.set_cons_succ,i64_w,i32_w]
   rfl
  refine Cw.dtk (i:=8) (v:=?_) (a':=?_) (by simp only [List.getElem?_toArray,List.getElem?_cons_succ,List.getElem?_cons_zero];rfl) rfl (by as_aux_lemma=>kernel_rfl) (by rfl) (by exact fun _ _ _ h=>h) ?_ (by repeat (first|exact Below.refl _ _|with_reducible apply zlN|with_reducible apply zlA|refine below_step ?_ (Aside0.out (by assumption)))) ?_ ?_
  rotate_left
  ·intro w' hs_
   have hs:=zm hs_
   clear hs_
   apply Eq.trans
   ·apply IE_c22
    ·rfl
    ·rfl
    ·exact (zbB (Aside0.out (by assumption)) (by repeat (first|exact Below.refl _ _|with_reducible apply zlN|with_reducible apply zlA|refine below_step ?_ (Aside0.out (by assumption)))))
    ·rfl
   ·rfl
  rotate_left
  ·simp only [Act.put,List.setIfInBounds_toArray,List.set_cons_zero,List.set_cons_succ,i64_w,i32_w]
   rfl
  refine Cw.dpu (i:=9) (v:=?_) (a':=?_) (by simp only [List.getElem?_toArray,List.getElem?_cons_succ,List.getElem?_cons_zero];rfl) rfl (by as_aux_lemma=>kernel_rfl) (by rfl) (by exact fun _ _ _ h=>h) ?_ ?_ ?_
  rotate_left
  ·intro w'
   go_simp
   with_reducible rfl
  rotate_left
  ·simp only [Act.put,List.setIfInBounds_toArray,List.set_cons_zero,List.set_cons_succ,i64_w,i32_w]
   rfl
  refine Cw.dpu (i:=10) (v:=?_) (a':=?_) (by simp only [List.getElem?_toArray,List.getElem?_cons_succ,List.getElem?_cons_zero];rfl) rfl (by as_aux_lemma=>kernel_rfl) (by rfl) (by exact fun _ _ _ h=>h) ?_ ?_ ?_
  rotate_left
  ·intro w'
   go_simp
   with_reducible rfl
  rotate_left
  ·simp only [Act.put,List.setIfInBounds_toArray,List.set_cons_zero,List.set_cons_succ,i64_w,i32_w]
   rfl
  refine Cw.dpu (i:=11) (v:=?_) (a':=?_) (by simp only [List.getElem?_toArray,List.getElem?_cons_succ,List.getElem?_cons_zero];rfl) rfl (by as_aux_lemma=>kernel_rfl) (by rfl) (by exact fun _ _ _ h=>h) ?_ ?_ ?_
  rotate_left
  ·intro w'
   go_simp
   with_reducible rfl
  rotate_left
  ·simp only [Act.put,List.setIfInBounds_toArray,List.set_cons_zero,List.set_cons_succ,i64_w,i32_w]
   rfl
  refine Cw.dtk (i:=12) (v:=?_) (a':=?_) (by simp only [List.getElem?_toArray,List.getElem?_cons_succ,List.getElem?_cons_zero];rfl) rfl (by as_aux_lemma=>kernel_rfl) (by rfl) (by exact fun _ _ _ h=>h) ?_ (by repeat (first|exact Below.refl _ _|with_reducible apply zlN|with_reducible apply zlA|refine below_step ?_ (Aside0.out (by assumption)))) ?_ ?_
  rotate_left
  ·intro w' hs_
   have hs:=zm hs_
   clear hs_
   apply Eq.trans
   ·apply IE_c3
    ·rfl
    ·rfl
    ·exact (zbB (Aside0.out (by assumption)) (by repeat (first|exact Below.refl _ _|with_reducible apply zlN|with_reducible apply zlA|refine below_step ?_ (Aside0.out (by assumption)))))
    ·rfl
   ·rfl
  rotate_left
  ·simp only [Act.put,List.setIfInBounds_toArray,List.set_cons_zero,List.set_cons_succ,i64_w,i32_w]
   rfl
  refine Cw.dpu (i:=13) (v:=?_) (a':=?_) (by simp only [List.getElem?_toArray,List.getElem?_cons_succ,List.getElem?_cons_zero];rfl) rfl (by as_aux_lemma=>kernel_rfl) (by rfl) (by exact fun _ _ _ h=>h) ?_ ?_ ?_
  rotate_left
  ·intro w'
   go_simp
   with_reducible rfl
  rotate_left
  ·simp only [Act.put,List.setIfInBounds_toArray,List.set_cons_zero,List.set_cons_succ,i64_w,i32_w]
   rfl
  refine Cw.dpu (i:=14) (v:=?_) (a':=?_) (by simp only [List.getElem?_toArray,List.getElem?_cons_succ,List.getElem?_cons_zero];rfl) rfl (by as_aux_lemma=>kernel_rfl) (by rfl) (by exact fun _ _ _ h=>h) ?_ ?_ ?_
  rotate_left
  ·intro w'
   go_simp
   with_reducible rfl
  rotate_left
  ·simp only [Act.put,List.setIfInBounds_toArray,List.set_cons_zero,List.set_cons_succ,i64_w,i32_w]
   rfl
  refine Cw.dtk (i:=15) (v:=?_) (a':=?_) (by simp only [List.getElem?_toArray,List.getElem?_cons_succ,List.getElem?_cons_zero];rfl) rfl (by as_aux_lemma=>kernel_rfl) (by rfl) (by exact fun _ _ _ h=>h) ?_ (by repeat (first|exact Below.refl _ _|with_reducible apply zlN|with_reducible apply zlA|refine below_step ?_ (Aside0.out (by assumption)))) ?_ ?_
  rotate_left
  ·intro w' hs_
   have hs:=zm hs_
   clear hs_
   apply Eq.trans
   ·apply IE_c2
    ·rfl
    ·rfl
    ·exact (zbB (Aside0.out (by assumption)) (by repeat (first|exact Below.refl _ _|with_reducible apply zlN|with_reducible apply zlA|refine below_step ?_ (Aside0.out (by assumption)))))
    ·rfl
   ·rfl
  rotate_left
  ·simp only [Act.put,List.setIfInBounds_toArray,List.set_cons_zero,List.set_cons_succ,i64_w,i32_w]
   rfl
  refine Cw.dpu (i:=16) (v:=?_) (a':=?_) (by simp only [List.getElem?_toArray,List.getElem?_cons_succ,List.getElem?_cons_zero];rfl) rfl (by as_aux_lemma=>kernel_rfl) (by rfl) (by exact fun _ _ _ h=>h) ?_ ?_ ?_
  rotate_left
  ·intro w'
   go_simp
   with_reducible rfl
  rotate_left
  ·simp only [Act.put,List.setIfInBounds_toArray,List.set_cons_zero,List.set_cons_succ,i64_w,i32_w]
   rfl
  refine Cw.dpu (i:=17) (v:=?_) (a':=?_) (by simp only [List.getElem?_toArray,List.getElem?_cons_succ,List.getElem?_cons_zero];rfl) rfl (by as_aux_lemma=>kernel_rfl) (by rfl) (by exact fun _ _ _ h=>h) ?_ ?_ ?_
  rotate_left
  ·intro w'
   go_simp
   with_reducible rfl
  rotate_left
  ·simp only [Act.put,List.setIfInBounds_toArray,List.set_cons_zero,List.set_cons_succ,i64_w,i32_w]
   rfl
  refine Cw.dtk (i:=18) (v:=?_) (a':=?_) (by simp only [List.getElem?_toArray,List.getElem?_cons_succ,List.getElem?_cons_zero];rfl) rfl (by as_aux_lemma=>kernel_rfl) (by rfl) (by exact fun _ _ _ h=>h) ?_ (by repeat (first|exact Below.refl _ _|with_reducible apply zlN|with_reducible apply zlA|refine below_step ?_ (Aside0.out (by assumption)))) ?_ ?_
  rotate_left
  ·intro w' hs_
   have hs:=zm hs_
   clear hs_
   apply Eq.trans
   ·apply IE_c3
    ·rfl
    ·rfl
    ·exact (zbB (Aside0.out (by assumption)) (by repeat (first|exact Below.refl _ _|with_reducible apply zlN|with_reducible apply zlA|refine below_step ?_ (Aside0.out (by assumption)))))
    ·rfl
   ·rfl
  rotate_left
  ·simp only [Act.put,List.setIfInBounds_toArray,List.set_cons_zero,List.set_cons_succ,i64_w,i32_w]
   rfl
  refine Cw.dpu (i:=19) (v:=?_) (a':=?_) (by simp only [List.getElem?_toArray,List.getElem?_cons_succ,List.getElem?_cons_zero];rfl) rfl (by as_aux_lemma=>kernel_rfl) (by rfl) (by exact fun _ _ _ h=>h) ?_ ?_ ?_
  rotate_left
  ·intro w'
   go_simp
   with_reducible rfl
  rotate_left
  ·simp only [Act.put,List.setIfInBounds_toArray,List.set_cons_zero,List.set_cons_succ,i64_w,i32_w]
   rfl
  refine Cw.dpu (i:=20) (v:=?_) (a':=?_) (by simp only [List.getElem?_toArray,List.getElem?_cons_succ,List.getElem?_cons_zero];rfl) rfl (by as_aux_lemma=>kernel_rfl) (by rfl) (by exact fun _ _ _ h=>h) ?_ ?_ ?_
  rotate_left
  ·intro w'
   go_simp
   with_reducible rfl
  rotate_left
  ·simp only [Act.put,List.setIfInBounds_toArray,List.set_cons_zero,List.set_cons_succ,i64_w,i32_w]
   rfl
  refine Cw.dtk (i:=21) (v:=?_) (a':=?_) (by simp only [List.getElem?_toArray,List.getElem?_cons_succ,List.getElem?_cons_zero];rfl) rfl (by as_aux_lemma=>kernel_rfl) (by rfl) (by exact fun _ _ _ h=>h) ?_ (by repeat (first|exact Below.refl _ _|with_reducible apply zlN|with_reducible apply zlA|refine below_step ?_ (Aside0.out (by assumption)))) ?_ ?_
  rotate_left
  ·intro w' hs_
   have hs:=zm hs_
   clear hs_
   apply Eq.trans
   ·apply IE_c2
    ·rfl
    ·rfl
    ·exact (zbB (Aside0.out (by assumption)) (by repeat (first|exact Below.refl _ _|with_reducible apply zlN|with_reducible apply zlA|refine below_step ?_ (Aside0.out (by assumption)))))
    ·rfl
   ·rfl
  rotate_left
  ·simp only [Act.put,List.setIfInBounds_toArray,List.set_cons_zero,List.set_cons_succ,i64_w,i32_w]
   rfl
  refine Cw.dpu (i:=22) (v:=?_) (a':=?_) (by simp only [List.getElem?_toArray,List.getElem?_cons_succ,List.getElem?_cons_zero];rfl) rfl (by as_aux_lemma=>kernel_rfl) (by rfl) (by exact fun _ _ _ h=>h) ?_ ?_ ?_
  rotate_left
  ·intro w'
   go_simp
   with_reducible rfl
  rotate_left
  ·simp only [Act.put,List.setIfInBounds_toArray,List.set_cons_zero,List.set_cons_succ,i64_w,i32_w]
   rfl
  refine Cw.done1 (i:=23) (N:=some 44) (by simp only [List.getElem?_toArray,List.getElem?_cons_succ,List.getElem?_cons_zero];rfl) rfl (by as_aux_lemma=>kernel_rfl) (fun K hK=>?_)
  refine Cw.dnew (fun g=>.slice (some ⟨g,0,none⟩) 8 8) (by rfl) rfl (by apply IE_lit8 <;> rfl) ?_
  rintro gl hg wP hbk hb
  clear hg
  have hh_:=zm hbk;clear hbk;have hbk:=hh_;clear hh_;have hh_:=zm hb;clear hb;have hb:=hh_;clear hh_
  refine hK.out _ _ (by repeat (first|exact Below.refl _ _|with_reducible apply zlN|with_reducible apply zlA|refine below_step ?_ (Aside0.out (by assumption)))) (fun _=>?_)
  clear hK K
  refine norm_ (a':=?_) ?_ ?_
  rotate_left
  ·show Act.put _ (some 44) _=_
   simp only [Act.put,List.setIfInBounds_toArray,List.set_cons_zero,List.set_cons_succ,i64_w,i32_w]
   rfl
  refine Cw.done1 (i:=24) (N:=some 45) (by simp only [List.getElem?_toArray,List.getElem?_cons_succ,List.getElem?_cons_zero];rfl) rfl (by as_aux_lemma=>kernel_rfl) (fun K hK=>?_)
  refine goes_ Try.func30 (by as_aux_lemma=>kernel_rfl) rfl _ (by rfl) rfl rfl (by go_simp;rfl) ?_
  refine (seal_Pack.calls k _ 8 [8,8,8,8,32,64,32,32] _ 8 [IntKind.u64.wrap a0_0,IntKind.u64.wrap a0_5,IntKind.u64.wrap (l0_6.length:Int),0,IntKind.u64.wrap a0_1,IntKind.u64.wrap a0_2,IntKind.u64.wrap a0_3,IntKind.u64.wrap a0_4] _ _ _ (Cw.C_ints (zbB (Aside0.out (by assumption)) (by repeat (first|exact Below.refl _ _|with_reducible apply zlN|with_reducible apply zlA|refine below_step ?_ (Aside0.out (by assumption))))) rfl (by simp)) (by simp) (Cw.C_ints (zbB (Aside0.out (by assumption)) (by repeat (first|exact Below.refl _ _|with_reducible apply zlN|with_reducible apply zlA|refine below_step ?_ (Aside0.out (by assumption))))) rfl (by simp)) (by simp) F1.out).mono ?_
  rintro e w1 ⟨v,rfl,ho,hb⟩
  have hh_:=zm ho;clear ho;have ho:=hh_;clear hh_;have hh_:=zm hb;clear hb;have hb:=hh_;clear hh_
  refine ⟨_,rfl,?_⟩
  refine hK.out _ _ (by repeat (first|exact Below.refl _ _|with_reducible apply zlN|with_reducible apply zlA|refine below_step ?_ (Aside0.out (by assumption)))) (fun _=>?_)
  clear hK K
  refine norm_ (a':=?_) ?_ ?_
  rotate_left
  ·show Act.put _ (some 45) _=_
   simp only [Act.put,List.setIfInBounds_toArray,List.set_cons_zero,List.set_cons_succ,i64_w,i32_w]
   rfl
  refine Cw.dpu (i:=25) (v:=?_) (a':=?_) (by simp only [List.getElem?_toArray,List.getElem?_cons_succ,List.getElem?_cons_zero];rfl) rfl (by as_aux_lemma=>kernel_rfl) (by rfl) (by exact fun _ _ _ h=>h) ?_ ?_ ?_
  rotate_left
  ·intro w'
   go_simp
   with_reducible rfl
  rotate_left
  ·simp only [Act.put,List.setIfInBounds_toArray,List.set_cons_zero,List.set_cons_succ,i64_w,i32_w]
   rfl
  refine Cw.dpu (i:=26) (v:=?_) (a':=?_) (by simp only [List.getElem?_toArray,List.getElem?_cons_succ,List.getElem?_cons_zero];rfl) rfl (by as_aux_lemma=>kernel_rfl) (by rfl) (by exact fun _ _ _ h=>h) ?_ ?_ ?_
  rotate_left
  ·intro w'
   go_simp
   with_reducible rfl
  rotate_left
  ·simp only [Act.put,List.setIfInBounds_toArray,List.set_cons_zero,List.set_cons_succ,i64_w,i32_w]
   rfl
  refine Cw.dpu (i:=27) (v:=?_) (a':=?_) (by simp only [List.getElem?_toArray,List.getElem?_cons_succ,List.getElem?_cons_zero];rfl) rfl (by as_aux_lemma=>kernel_rfl) (by rfl) (by exact fun _ _ _ h=>h) ?_ ?_ ?_
  rotate_left
  ·intro w'
   go_simp
   with_reducible rfl
  rotate_left
  ·simp only [Act.put,List.setIfInBounds_toArray,List.set_cons_zero,List.set_cons_succ,i64_w,i32_w]
   rfl
  refine Cw.dpu (i:=28) (v:=?_) (a':=?_) (by simp only [List.getElem?_toArray,List.getElem?_cons_succ,List.getElem?_cons_zero];rfl) rfl (by as_aux_lemma=>kernel_rfl) (by rfl) (by exact fun _ _ _ h=>h) ?_ ?_ ?_
  rotate_left
  ·intro w'
   go_simp
   with_reducible rfl
  rotate_left
  ·simp only [Act.put,List.setIfInBounds_toArray,List.set_cons_zero,List.set_cons_succ,i64_w,i32_w]
   rfl
  refine Cw.dpu (i:=29) (v:=?_) (a':=?_) (by simp only [List.getElem?_toArray,List.getElem?_cons_succ,List.getElem?_cons_zero];rfl) rfl (by as_aux_lemma=>kernel_rfl) (by rfl) (by exact fun _ _ _ h=>h) ?_ ?_ ?_
  rotate_left
  ·intro w'
   go_simp
   with_reducible rfl
  rotate_left
  ·simp only [Act.put,List.setIfInBounds_toArray,List.set_cons_zero,List.set_cons_succ,i64_w,i32_w]
   rfl
  refine done_ (by as_aux_lemma=>kernel_rfl) ?_
  go_wp2_with (first|((with_reducible refine gate_ (.load 22 _) rfl ?_);refine Kd.event_run rfl (by apply IE_c22;exact rfl;exact rfl;exact (zbB (Aside0.out (by assumption)) (by repeat (first|exact Below.refl _ _|with_reducible apply zlN|with_reducible apply zlA|refine below_step ?_ (Aside0.out (by assumption)))));exact rfl) ?_))
  go_loopw [7,54] (fun v i wr=>∃ (j:Nat) (b:List Int),i=.int .i64 (j:Int)∧Aside0 (j≤l0_6.length)∧Aside0 (inode_Encode.go k (l0_6.drop j) b=some bs)∧Aside0 (Kd.R (Kd.int .u8) 5 wr wP.heap.size (fun _=>True) v b)∧Aside0 (Below wP.heap.size wP wr)) (fun _ i _=>l0_6.length - (intOf i).toNat)
  case atStart=>exact ⟨0,p1,by simp,⟨Nat.zero_le _⟩,⟨F2.out⟩,ho,⟨(by repeat (first|exact Below.refl _ _|with_reducible apply zlN|with_reducible apply zlA|refine below_step ?_ (Aside0.out (by assumption))))⟩⟩
  case round =>
   obtain ⟨j,b,rfl,hj,HA,hR,hbr⟩:=hrel
   have hmx:=Cw.fits_C hr0_6.out
   clear ho
   by_cases hlt:j < l0_6.length
   ·have H:=HA.out
    clear HA
    rw [IE_drop l0_6 j hlt] at H
    simp only [inode_Encode.go] at H
    have hg_:=Option.bind_eq_some_iff.mp H;clear H;obtain ⟨⟨p,e⟩,G1,H⟩:=hg_;have hh_:=zm G1;clear G1;have G1:=hh_;clear hh_;(try dsimp only at H);have hg_:=Cw.gt_ H;clear H;obtain ⟨rfl,H⟩:=hg_;have hg_:=Cw.gt_ H;clear H;obtain ⟨hroom,H⟩:=hg_
    have hh_:=zm H;clear H;have H:=hh_;clear hh_;have hh_:=zm hroom;clear hroom;have hroom:=hh_;clear hh_
    obtain ⟨ad,hA,h0,h1,h2⟩:=at_T51 (Kd.C_below hr0_6.out (by repeat (first|exact Below.refl _ _|with_reducible apply zlN|with_reducible apply zlA|refine below_step ?_ (Aside0.out (by assumption)))):Kd.C k51 wr A0_6 l0_6.length l0_6) (j:Int) (by omega) (by omega)
    subst hA
    rw [Int.toNat_natCast] at h0 h1 h2
    go_wp2_with (first|((with_reducible refine gate_ (.alloc 51) rfl ?_);refine Cw.box_store rfl rfl rfl rfl rfl rfl (by first|(go_simp;done)|(go_simp;rfl)) (by first|(go_simp;done)|(go_simp;rfl)) ?_;rintro g hg w1 hbk hb;clear hg;have hh_:=zm hbk;clear hbk;have hbk:=hh_;clear hh_;have hh_:=zm hb;clear hb;have hb:=hh_;clear hh_))
    refine Cw.dstart (by as_aux_lemma=>kernel_rfl) rfl (fun wd hb=>?_)
    have hh_:=zm hb;clear hb;have hb:=hh_;clear hh_
    refine Cw.dpu (i:=0) (v:=?_) (a':=?_) (by simp only [List.getElem?_toArray,List.getElem?_cons_succ,List.getElem?_cons_zero];rfl) rfl (by as_aux_lemma=>kernel_rfl) (by rfl) (by exact fun _ _ _ h=>h) ?_ ?_ ?_
    rotate_left
    ·intro w'
     go_simp
     with_reducible rfl
    rotate_left
    ·simp only [Act.put,List.setIfInBounds_toArray,List.set_cons_zero,List.set_cons_succ,i64_w,i32_w]
     rfl
    refine Cw.dpu (i:=1) (v:=?_) (a':=?_) (by simp only [List.getElem?_toArray,List.getElem?_cons_succ,List.getElem?_cons_zero];rfl) rfl (by as_aux_lemma=>kernel_rfl) (by rfl) (by exact fun _ _ _ h=>h) ?_ ?_ ?_
    rotate_left
    ·intro w'
     go_simp
     with_reducible rfl
    rotate_left
    ·simp only [Act.put,List.setIfInBounds_toArray,List.set_cons_zero,List.set_cons_succ,i64_w,i32_w]
     rfl
    refine Cw.dtk (i:=2) (v:=?_) (a':=?_) (by simp only [List.getElem?_toArray,List.getElem?_cons_succ,List.getElem?_cons_zero];rfl) rfl (by as_aux_lemma=>kernel_rfl) (by rfl) (by exact fun _ _ _ h=>h) ?_ (by repeat (first|exact Below.refl _ _|with_reducible apply zlN|with_reducible apply zlA|refine below_step ?_ (Aside0.out (by assumption)))) ?_ ?_
    rotate_left
    ·intro w' hs_
     have hs:=zm hs_
     clear hs_
     apply Eq.trans
     ·apply IE_c3
      ·rfl
      ·rfl
      ·exact (zbB (Aside0.out (by assumption)) (by repeat (first|exact Below.refl _ _|with_reducible apply zlN|with_reducible apply zlA|refine below_step ?_ (Aside0.out (by assumption)))))
      ·rfl
     ·rfl
    rotate_left
    ·simp only [Act.put,List.setIfInBounds_toArray,List.set_cons_zero,List.set_cons_succ,i64_w,i32_w]
     rfl
    refine Cw.dpu (i:=3) (v:=?_) (a':=?_) (by simp only [List.getElem?_toArray,List.getElem?_cons_succ,List.getElem?_cons_zero];rfl) rfl (by as_aux_lemma=>kernel_rfl) (by rfl) (by exact fun _ _ _ h=>h) ?_ ?_ ?_
    rotate_left
    ·intro w'
     go_simp
     with_reducible rfl
    rotate_left
    ·simp only [Act.put,List.setIfInBounds_toArray,List.set_cons_zero,List.set_cons_succ,i64_w,i32_w]
     rfl
    refine Cw.dpu (i:=4) (v:=?_) (a':=?_) (by simp only [List.getElem?_toArray,List.getElem?_cons_succ,List.getElem?_cons_zero];rfl) rfl (by as_aux_lemma=>kernel_rfl) (by rfl) (by exact fun _ _ _ h=>h) ?_ ?_ ?_
    rotate_left
    ·intro w'
     go_simp
     with_reducible rfl
    rotate_left
    ·simp only [Act.put,List.setIfInBounds_toArray,List.set_cons_zero,List.set_cons_succ,i64_w,i32_w]
     rfl
    refine Cw.dtk (i:=5) (v:=?_) (a':=?_) (by simp only [List.getElem?_toArray,List.getElem?_cons_succ,List.getElem?_cons_zero];rfl) rfl (by as_aux_lemma=>kernel_rfl) (by rfl) (by exact fun _ _ _ h=>h) ?_ (by repeat (first|exact Below.refl _ _|with_reducible apply zlN|with_reducible apply zlA|refine below_step ?_ (Aside0.out (by assumption)))) ?_ ?_
    rotate_left
    ·intro w' hs_
     have hs:=zm hs_
     clear hs_
     apply Eq.trans
     ·apply IE_c3
      ·rfl
      ·rfl
      ·exact (zbB (Aside0.out (by assumption)) (by repeat (first|exact Below.refl _ _|with_reducible apply zlN|with_reducible apply zlA|refine below_step ?_ (Aside0.out (by assumption)))))
      ·rfl
     ·rfl
    rotate_left
    ·simp only [Act.put,List.setIfInBounds_toArray,List.set_cons_zero,List.set_cons_succ,i64_w,i32_w]
     rfl
    refine Cw.dpu (i:=6) (v:=?_) (a':=?_) (by simp only [List.getElem?_toArray,List.getElem?_cons_succ,List.getElem?_cons_zero];rfl) rfl (by as_aux_lemma=>kernel_rfl) (by rfl) (by exact fun _ _ _ h=>h) ?_ ?_ ?_
    rotate_left
    ·intro w'
     go_simp
     with_reducible rfl
    rotate_left
    ·simp only [Act.put,List.setIfInBounds_toArray,List.set_cons_zero,List.set_cons_succ,i64_w,i32_w]
     rfl
    refine Cw.dpu (i:=7) (v:=?_) (a':=?_) (by simp only [List.getElem?_toArray,List.getElem?_cons_succ,List.getElem?_cons_zero];rfl) rfl (by as_aux_lemma=>kernel_rfl) (by rfl) (by exact fun _ _ _ h=>h) ?_ ?_ ?_
    rotate_left
    ·intro w'
     go_simp
     with_reducible rfl
    rotate_left
    ·simp only [Act.put,List.setIfInBounds_toArray,List.set_cons_zero,List.set_cons_succ,i64_w,i32_w]
     rfl
    refine Cw.dtk (i:=8) (v:=?_) (a':=?_) (by simp only [List.getElem?_toArray,List.getElem?_cons_succ,List.getElem?_cons_zero];rfl) rfl (by as_aux_lemma=>kernel_rfl) (by rfl) (by exact fun _ _ _ h=>h) ?_ (by repeat (first|exact Below.refl _ _|with_reducible apply zlN|with_reducible apply zlA|refine below_step ?_ (Aside0.out (by assumption)))) ?_ ?_
    rotate_left
    ·intro w' hs_
     have hs:=zm hs_
     clear hs_
     apply Eq.trans
     ·apply IE_c3
      ·rfl
      ·rfl
      ·exact (zbB (Aside0.out (by assumption)) (by repeat (first|exact Below.refl _ _|with_reducible apply zlN|with_reducible apply zlA|refine below_step ?_ (Aside0.out (by assumption)))))
      ·rfl
     ·rfl
    rotate_left
    ·simp only [Act.put,List.setIfInBounds_toArray,List.set_cons_zero,List.set_cons_succ,i64_w,i32_w]
     rfl
    refine Cw.dpu (i:=9) (v:=?_) (a':=?_) (by simp only [List.getElem?_toArray,List.getElem?_cons_succ,List.getElem?_cons_zero];rfl) rfl (by as_aux_lemma=>kernel_rfl) (by rfl) (by exact fun _ _ _ h=>h) ?_ ?_ ?_
    rotate_left
    ·intro w'
     go_simp
     with_reducible rfl
    rotate_left
    ·simp only [Act.put,List.setIfInBounds_toArray,List.set_cons_zero,List.set_cons_succ,i64_w,i32_w]
     rfl
    refine Cw.done1 (i:=10) (N:=some 69) (by simp only [List.getElem?_toArray,List.getElem?_cons_succ,List.getElem?_cons_zero];rfl) rfl (by as_aux_lemma=>kernel_rfl) (fun K hK=>?_)
    refine Cw.dnew (fun g=>.slice (some ⟨g,0,none⟩) 3 3) (by rfl) rfl (by apply IE_lit3 <;> rfl) ?_
    rintro gl hg w1 hbk hb
    clear hg
    have hh_:=zm hbk;clear hbk;have hbk:=hh_;clear hh_;have hh_:=zm hb;clear hb;have hb:=hh_;clear hh_
    refine hK.out _ _ (by repeat (first|exact Below.refl _ _|with_reducible apply zlN|with_reducible apply zlA|refine below_step ?_ (Aside0.out (by assumption)))) (fun _=>?_)
    clear hK K
    refine norm_ (a':=?_) ?_ ?_
    rotate_left
    ·show Act.put _ (some 69) _=_
     simp only [Act.put,List.setIfInBounds_toArray,List.set_cons_zero,List.set_cons_succ,i64_w,i32_w]
     rfl
    refine Cw.done1 (i:=11) (N:=some 70) (by simp only [List.getElem?_toArray,List.getElem?_cons_succ,List.getElem?_cons_zero];rfl) rfl (by as_aux_lemma=>kernel_rfl) (fun K hK=>?_)
    refine goes_ Try.func30 (by as_aux_lemma=>kernel_rfl) rfl _ (by rfl) rfl rfl (by go_simp;rfl) ?_
    refine (seal_Pack.calls k _ 3 [24,16,32] _ 3 [IntKind.u64.wrap (rd_T51 l0_6 (j:Int)).f0,IntKind.u64.wrap (rd_T51 l0_6 (j:Int)).f1,IntKind.u64.wrap (rd_T51 l0_6 (j:Int)).f2] _ _ _ (Cw.C_ints (zbB (Aside0.out (by assumption)) (by repeat (first|exact Below.refl _ _|with_reducible apply zlN|with_reducible apply zlA|refine below_step ?_ (Aside0.out (by assumption))))) rfl (by simp)) (by simp) (Cw.C_ints (zbB (Aside0.out (by assumption)) (by repeat (first|exact Below.refl _ _|with_reducible apply zlN|with_reducible apply zlA|refine below_step ?_ (Aside0.out (by assumption))))) rfl (by simp)) (by simp) G1.out).mono ?_
    rintro e w1 ⟨vp,rfl,ho0,hb⟩
    obtain ⟨A_0,c_0,rfl,hc_0,hr_0⟩:=Kd.R_reads ho0;clear ho0;have hh_:=zm hc_0;clear hc_0;have hc_0:=hh_;clear hh_;have hh_:=zm hr_0;clear hr_0;have hr_0:=hh_;clear hh_;have hh_:=zm hb;clear hb;have hb:=hh_;clear hh_
    refine ⟨_,rfl,?_⟩
    refine hK.out _ _ (by repeat (first|exact Below.refl _ _|with_reducible apply zlN|with_reducible apply zlA|refine below_step ?_ (Aside0.out (by assumption)))) (fun _=>?_)
    clear hK K
    refine norm_ (a':=?_) ?_ ?_
    rotate_left
    ·show Act.put _ (some 70) _=_
     simp only [Act.put,List.setIfInBounds_toArray,List.set_cons_zero,List.set_cons_succ,i64_w,i32_w]
     rfl
    refine Cw.dpu (i:=12) (v:=?_) (a':=?_) (by simp only [List.getElem?_toArray,List.getElem?_cons_succ,List.getElem?_cons_zero];rfl) rfl (by as_aux_lemma=>kernel_rfl) (by rfl) (by exact fun _ _ _ h=>h) ?_ ?_ ?_
    rotate_left
    ·intro w'
     go_simp
     with_reducible rfl
    rotate_left
    ·simp only [Act.put,List.setIfInBounds_toArray,List.set_cons_zero,List.set_cons_succ,i64_w,i32_w]
     rfl
    refine Cw.dpu (i:=13) (v:=?_) (a':=?_) (by simp only [List.getElem?_toArray,List.getElem?_cons_succ,List.getElem?_cons_zero];rfl) rfl (by as_aux_lemma=>kernel_rfl) (by rfl) (by exact fun _ _ _ h=>h) ?_ ?_ ?_
    rotate_left
    ·intro w'
     go_simp
     with_reducible rfl
    rotate_left
    ·simp only [Act.put,List.setIfInBounds_toArray,List.set_cons_zero,List.set_cons_succ,i64_w,i32_w]
     rfl
    refine Cw.dpu (i:=14) (v:=?_) (a':=?_) (by simp only [List.getElem?_toArray,List.getElem?_cons_succ,List.getElem?_cons_zero];rfl) rfl (by as_aux_lemma=>kernel_rfl) (by rfl) (by exact fun _ _ _ h=>h) ?_ ?_ ?_
    rotate_left
    ·intro w'
     go_simp
     with_reducible rfl
    rotate_left
    ·simp only [Act.put,List.setIfInBounds_toArray,List.set_cons_zero,List.set_cons_succ,i64_w,i32_w]
     rfl
    refine Cw.dpu (i:=15) (v:=?_) (a':=?_) (by simp only [List.getElem?_toArray,List.getElem?_cons_succ,List.getElem?_cons_zero];rfl) rfl (by as_aux_lemma=>kernel_rfl) (by rfl) (by exact fun _ _ _ h=>h) ?_ ?_ ?_
    rotate_left
    ·intro w'
     go_simp
     with_reducible rfl
    rotate_left
    ·simp only [Act.put,List.setIfInBounds_toArray,List.set_cons_zero,List.set_cons_succ,i64_w,i32_w]
     rfl
    refine Cw.dpu (i:=16) (v:=?_) (a':=?_) (by simp only [List.getElem?_toArray,List.getElem?_cons_succ,List.getElem?_cons_zero];rfl) rfl (by as_aux_lemma=>kernel_rfl) (by rfl) (by exact fun _ _ _ h=>h) ?_ ?_ ?_
    rotate_left
    ·intro w'
     go_simp
     with_reducible rfl
    rotate_left
    ·simp only [Act.put,List.setIfInBounds_toArray,List.set_cons_zero,List.set_cons_succ,i64_w,i32_w]
     rfl
    refine done_ (by as_aux_lemma=>kernel_rfl) ?_
    go_wp2_with (first|((with_reducible refine gate_builtin (b:=.append) (xs:=#[.tmp 76,.tmp 77]) rfl ?_);at_builtin;refine Kd.R_append_rows (Kd.int .u8) (w0:=wP) wP.heap.size rfl (.tmp 76) (.tmp 77) 25 5 (.int .u8 0) 1 rfl Try.underlying25 info5 rfl (by decide) (by omega) u7 b p _ _ _ (fun _=>True) (fun _=>False) rfl rfl (Kd.R_below (Aside0.out (by assumption)) (by repeat (first|exact Below.refl _ _|with_reducible apply zlN|with_reducible apply zlA|refine below_step ?_ (Aside0.out (by assumption))))) (Kd.C_below (Aside0.out (by assumption)) (by repeat (first|exact Below.refl _ _|with_reducible apply zlN|with_reducible apply zlA|refine below_step ?_ (Aside0.out (by assumption))))) (fun _ _ h=>h) (fun _ h=>h.elim) (fun _ _=>trivial) (by repeat (first|exact Below.refl _ _|with_reducible apply zlN|with_reducible apply zlA|refine below_step ?_ (Aside0.out (by assumption)))) (below_size (by repeat (first|exact Below.refl _ _|with_reducible apply zlN|with_reducible apply zlA|refine below_step ?_ (Aside0.out (by assumption))))) (by have:=hroom.out;omega) ?_;intro v' w' ho hb hg hat;clear hg hat;have hh_:=zm ho;clear ho;have ho:=hh_;clear hh_;have hh_:=zm hb;clear hb;have hb:=hh_;clear hh_))
    go_roundw
    case rel=>exact ⟨j + 1,b ++ p,Cw.next_v hlt hmx,⟨hlt⟩,⟨H.out⟩,ho,⟨(by repeat (first|exact Below.refl _ _|with_reducible apply zlN|with_reducible apply zlA|refine below_step ?_ (Aside0.out (by assumption))))⟩⟩
    case measure=>exact Cw.next_m hlt hmx
   ·have hjj:j=l0_6.length:=by have:=hj.out;omega
    have H:=HA.out
    clear HA
    rw [hjj,List.drop_length] at H
    obtain rfl:=Option.some.inj H
    clear H
    obtain ⟨Ab,cap_,rfl⟩:=Kd.R_slice hR.out
    have hb64:(b.length:Int)≤64:=by have:=hl64.out;omega
    go_wp2_with (first|((with_reducible refine gate_builtin (b:=.append) (xs:=#[.tmp 80,.tmp 83]) rfl ?_);at_builtin;refine Kd.R_append_zeros (Kd.int .u8) (w0:=wP) wP.heap.size rfl (.tmp 80) (.tmp 83) 25 3 5 (.int .u8 0) 1 rfl Try.underlying25 Try.underlying3 info5 rfl (by decide) (by omega) (.slice Ab b.length cap_) b 0 (64 - (b.length:Int)) (fun _=>True) rfl rfl rfl (fun _ _=>trivial) (Kd.R_below (Aside0.out (by assumption)) (by repeat (first|exact Below.refl _ _|with_reducible apply zlN|with_reducible apply zlA|refine below_step ?_ (Aside0.out (by assumption))))) (by have:=hl64.out;omega) (by repeat (first|exact Below.refl _ _|with_reducible apply zlN|with_reducible apply zlA|refine below_step ?_ (Aside0.out (by assumption)))) (below_size (by repeat (first|exact Below.refl _ _|with_reducible apply zlN|with_reducible apply zlA|refine below_step ?_ (Aside0.out (by assumption))))) (by have:=hl64.out;omega) ?_;intro v' w' ho hb hg hat;clear hg hat;have hh_:=zm ho;clear ho;have ho:=hh_;clear hh_;have hh_:=zm hb;clear hb;have hb:=hh_;clear hh_))
    have e64:(64 - (b.length:Int)).toNat=64 - b.length:=by omega
    have ho:=ho.out
    rw [e64] at ho
    go_ret2
    exact ⟨_,rfl,Kd.R_lower ho (below_size (by repeat (first|exact Below.refl _ _|with_reducible apply zlN|with_reducible apply zlA|refine below_step ?_ (Aside0.out (by assumption))))),(by repeat (first|exact Below.refl _ _|with_reducible apply zlN|with_reducible apply zlA|refine below_step ?_ (Aside0.out (by assumption))))⟩
end Go.Proofs.Ytjoojmodghpimaa.Print
end
section
namespace Go.Proofs.Ytjoojmodghpimaa.Print
open Go.RowKit Go.Proofs.YtjoojmodghpimaaW.PrintWords Go.Proofs.YtjoojmodghpimaaW.PrintLast Go.Proofs.YtjoojmodghpimaaW.PrintMore
attribute [local go_sem] max2_int min2_int max_two min_two max_three min_three max_four min_four   -- for this text's walks alone
attribute [local go_sem ↓] Go.Proofs.Ytjoojmodghpimaa.Sem.isSome_setCell
attribute [local go_sem] Go.Instr.field Go.asAgg
set_option linter.unusedVariables false
set_option linter.unusedSimpArgs false
def bytes_Equal.f (l0:List Int) (l1:List Int):Option (Bool):=some ((strOfNums l0).toList == (strOfNums l1).toList)
set_option maxHeartbeats 8000000 in
set_option maxRecDepth 100000 in
theorem bytes_Equal.calls (A0:Option Addr) (c0:Nat) (l0:List Int) (A1:Option Addr) (c1:Nat) (l1:List Int) (r:Bool) (w:World) (hr0:Kd.C (Kd.int .u8) w A0 l0.length l0) (hc0:l0.length≤c0) (hr1:Kd.C (Kd.int .u8) w A1 l1.length l1) (hc1:l1.length≤c1) (h:bytes_Equal.f l0 l1=some r) :
  Calls Try.prog 11 #[.slice A0 l0.length c0,.slice A1 l1.length c1] w fun e w'=>e=.returned (.bool r)∧Drawn0 w w':=by
 have HR0:=zm hr0
 have HC0:=zm hc0
 clear hr0 hc0
 have HR1:=zm hr1
 have HC1:=zm hc1
 clear hr1 hc1
 have H:(some ((strOfNums l0).toList == (strOfNums l1).toList))=some r:=h
 clear h
 obtain rfl:=Option.some.inj H
 have hcv3:=Kd.C_string (P:=Try.prog) (A:=A0) (c:=c0) Try.underlying25 Try.underlying5 Try.underlying9 HR0.out
 have hcv4:=Kd.C_string (P:=Try.prog) (A:=A1) (c:=c1) Try.underlying25 Try.underlying5 Try.underlying9 HR1.out
 go_enter Try.func11,Try.ntmps11
 go_wp2
 go_ret
 exact ⟨by first|rfl|(simp;done)|(simp [*];done),by repeat (first|exact Drawn0.refl _|apply Drawn0.step)⟩
def slipwaylaw14_live.f (k:Nat) :Option (Bool):=(inode_Encode.f k 1 1 5 0 0 0 (([(⟨0,1,30⟩:S51)]:List (S51)))).bind fun bt135=>(if bt135.2=0 then (if (bt135.1.length:Int)=64 then (if 16≤(bt135.1.length:Int) then ((bytes_Equal.f (bt135.1.take 16) (([1,0,1,0,0,0,0,1,0,0,0,0,0,0,0,5]:List Int))).bind fun t146=>(some t146)) else (none)) else (none)) else (none))
set_option maxHeartbeats 8000000 in
set_option maxRecDepth 100000 in
theorem slipwaylaw14_live.calls (k:Nat)  (r:Bool) (w:World) (h:slipwaylaw14_live.f k =some r) :
  Calls Try.prog 7 #[] w fun e w'=>e=.returned (.bool r)∧Below w.heap.size w w':=by
 have hu51:=Try.underlying51
 have hu24:=Try.underlying24
 have HB:=zm (Below.refl w.heap.size w)
 have H:((inode_Encode.f k 1 1 5 0 0 0 (([(⟨0,1,30⟩:S51)]:List (S51)))).bind fun bt135=>(if bt135.2=0 then (if (bt135.1.length:Int)=64 then (if 16≤(bt135.1.length:Int) then ((bytes_Equal.f (bt135.1.take 16) (([1,0,1,0,0,0,0,1,0,0,0,0,0,0,0,5]:List Int))).bind fun t146=>(some t146)) else (none)) else (none)) else (none)))=some r:=h
 clear h
 obtain ⟨y132,hy132⟩:∃ y_:List (S51),y_=(([(⟨0,1,30⟩:S51)]:List (S51))):=⟨_,rfl⟩
 replace H:((inode_Encode.f k 1 1 5 0 0 0 y132).bind fun bt135=>(if bt135.2=0 then (if (bt135.1.length:Int)=64 then (if 16≤(bt135.1.length:Int) then ((bytes_Equal.f (bt135.1.take 16) (([1,0,1,0,0,0,0,1,0,0,0,0,0,0,0,5]:List Int))).bind fun t146=>(some t146)) else (none)) else (none)) else (none)))=some r:=by first|(rw [hy132];with_reducible exact H)|(have H2_:=(Option.bind_some _ _).symm.trans H;rw [hy132];with_reducible exact H2_)|(have H2_:=(Option.bind_some _ _).symm.trans H;with_reducible exact H2_)|with_reducible exact H|(rw [hy132];exact H)|exact H
 have Ny132:=zm hy132
 clear hy132
 replace H:=Option.bind_eq_some_iff.mp H
 obtain ⟨⟨t135,t138⟩,A10,H⟩:=H
 replace H:(if t138=0 then (if (t135.length:Int)=64 then (if 16≤(t135.length:Int) then ((bytes_Equal.f (t135.take 16) (([1,0,1,0,0,0,0,1,0,0,0,0,0,0,0,5]:List Int))).bind fun t146=>(some t146)) else (none)) else (none)) else (none))=some r:=H
 have A1:=zm A10
 clear A10
 by_cases c2:t138=0
 ·rw [if_pos c2] at H
  have c2b0:(t138 == 0)=true:=beq_iff_eq.mpr c2
  have c2b1:(t138 != 0)=false:=bne_eq_false_iff_eq.mpr c2
  clear c2
  by_cases c3:(t135.length:Int)=64
  ·rw [if_pos c3] at H
   have c3b0:((t135.length:Int) == 64)=true:=beq_iff_eq.mpr c3
   have c3b1:((t135.length:Int) != 64)=false:=bne_eq_false_iff_eq.mpr c3
   clear c3
   by_cases c4:16≤(t135.length:Int)
   ·rw [if_pos c4] at H
    have c4b0:=eq_true c4
    have c4b1:decide (16≤(t135.length:Int))=true:=decide_eq_true c4
    clear c4
    obtain ⟨y139,hy139⟩:∃ y_:List Int,y_=(t135.take 16):=⟨_,rfl⟩
    replace H:((bytes_Equal.f y139 (([1,0,1,0,0,0,0,1,0,0,0,0,0,0,0,5]:List Int))).bind fun t146=>(some t146))=some r:=by first|(rw [hy139];with_reducible exact H)|(have H2_:=(Option.bind_some _ _).symm.trans H;rw [hy139];with_reducible exact H2_)|(have H2_:=(Option.bind_some _ _).symm.trans H;with_reducible exact H2_)|with_reducible exact H|(rw [hy139];exact H)|exact H
    have Ny139:=zm hy139
    clear hy139
    obtain ⟨y143,hy143⟩:∃ y_:List Int,y_=(([1,0,1,0,0,0,0,1,0,0,0,0,0,0,0,5]:List Int)):=⟨_,rfl⟩
    replace H:((bytes_Equal.f y139 y143).bind fun t146=>(some t146))=some r:=by first|(rw [hy143];with_reducible exact H)|(have H2_:=(Option.bind_some _ _).symm.trans H;rw [hy143];with_reducible exact H2_)|(have H2_:=(Option.bind_some _ _).symm.trans H;with_reducible exact H2_)|with_reducible exact H|(rw [hy143];exact H)|exact H
    have Ny143:=zm hy143
    clear hy143
    replace H:=Option.bind_eq_some_iff.mp H
    obtain ⟨t146,A50,H⟩:=H
    replace H:(some t146)=some r:=H
    have A5:=zm A50
    clear A50
    obtain rfl:=Option.some.inj H
    go_enter Try.func7,Try.ntmps7
    go_wp2_with (first|((with_reducible refine gate_dst (N:=5) rfl ?_);(try (refine gate_guard (by rfl) ?_;dsimp only));refine Kd.R_lit k51 _ 51 ?hg (N:=5) ?hd (xs:=([(⟨0,1,30⟩:S51)]:List (S51))) (inner:=[.int .i64 0,.int .i64 1,.int .i64 30]) (ok:=fun _=>True) (okp:=fun _=>True) ?hr ?hp (fun _ hk=>hk) trivial (Below.refl _ _) (Nat.le_refl _) (by simp) ?_;(case hd=>rfl);(case hg=>rfl);(case hr=>first|(go_simp;done)|(go_simp;rfl));(case hp=>exact (Reps.c3 (show Kd.M k51 _ _ _ (⟨0,1,30⟩:S51) [.int .i64 0,.int .i64 1,.int .i64 30] from (k51_mkM _ _ _ (⟨0,1,30⟩:S51) )) (Reps.none _ _)));intro v133 w6 ho7 hb hg_ hnew_;clear hg_ hnew_;(first|rw [← Ny132.out] at ho7|(simp only [Int.reduceToNat] at ho7;rw [← Ny132.out] at ho7));have n0_:=zm (Kd.R_lower ho7 (below_size (by repeat (first|(with_reducible first|exact HB.out|apply zlA|apply zlN|apply zlD)|exact HB.out))));have n1_:=zm (below_step (by repeat (first|(with_reducible first|exact HB.out|apply zlA|apply zlN|apply zlD)|exact HB.out)) hb);clear HB;have HO134:=n0_;have HB:=n1_;clear n0_ n1_;clear hb ho7;obtain ⟨Ao8,co8,eo8⟩:=Kd.R_slice HO134.out;subst eo8)|((with_reducible refine gate_callee (f:=8) rfl ?_);refine goesL_ (some 7) rfl rfl Try.func8 (by kernel_rfl) rfl #[.agg #[.int .i64 1,.int .i64 1,.int .i64 5,.int .i64 0,.int .i64 0,.int .i64 0,.slice Ao8 y132.length co8]] rfl (by (try simp only [List.map_toArray,List.map_cons,List.map_nil]);first|done|rfl|(simp only [List.length_drop,List.length_take];rfl)) ?_;(with_reducible refine (inode_Encode.calls k 1 1 5 0 0 0 _ _ y132 t135 t138 _ ?side1 ?side2 A1.out).mono ?_);(case side1=>repeat (first|exact (Kd.R_reads' HO134.out).2.2|(with_reducible refine Kd.C_alloc ?_ _)|(with_reducible refine Kd.C_drewN ?_ _)|(with_reducible refine Kd.C_drew ?_)));(case side2=>exact (Kd.R_reads' HO134.out).2.1);rintro e w9 ⟨v136,rfl,ho0,hb⟩;refine ⟨_,rfl,?_⟩;have n0_:=zm (Kd.R_below (by (with_reducible repeat (first|apply zrA|apply zrN|apply zrD));exact HO134.out) hb);have n1_:=zm (Kd.R_lower ho0 (below_size (by repeat (first|(with_reducible first|exact HB.out|apply zlA|apply zlN|apply zlD)|exact HB.out))));have n2_:=zm (below_step (by repeat (first|(with_reducible first|exact HB.out|apply zlA|apply zlN|apply zlD)|exact HB.out)) hb);clear HO134 HB;have HO134:=n0_;have HO137:=n1_;have HB:=n2_;clear n0_ n1_ n2_;(try clear hb);(try clear hb2);(try clear hk);(try clear hi);(try clear ho0);obtain ⟨Ao10,co10,eo10⟩:=Kd.R_slice HO137.out;subst eo10;have q11:(16:Int)≤((t135.length:Int):Int):=of_decide_eq_true (by first|(with_reducible assumption)|assumption);obtain ⟨i011,hi011,_,hsz11,_⟩:=info_parts info5;have hroom11:t135.length≤co10:=(Kd.R_reads' HO137.out).2.1;have hC11:Kd.C (Kd.int .u8) _ Ao10 t135.length t135:=(Kd.R_reads' HO137.out).2.2;have hcut11:=cut_to (P:=Try.prog) 25 5 .i64 Try.underlying25 hi011 Ao10 t135.length co10 16 (by omega) q11 hroom11;have hr11:=Kd.C_take (m:=16) hC11 (by omega);have hy11:y139.length=(16:Int).toNat:=(by rw [Ny139.out,List.length_take];omega);rw [← Ny139.out] at hr11;rw [← hy11] at hcut11;have HR142:=zm hr11;have HC142:=zm (show y139.length≤co10 from by omega);clear hr11 hC11 hroom11 hi011 hsz11;have KY11:=zm hy11;clear hy11;have KL11:=zm (show 16≤t135.length from by omega);replace q11:=eq_true q11)|((with_reducible refine gate_dst (N:=20) rfl ?_);(try (refine gate_guard (by rfl) ?_;dsimp only));refine Kd.R_lit (Kd.int .u8) _ 5 ?hg (N:=20) ?hd (xs:=([1,0,1,0,0,0,0,1,0,0,0,0,0,0,0,5]:List Int)) (inner:=[.int .u8 1,.int .u8 0,.int .u8 1,.int .u8 0,.int .u8 0,.int .u8 0,.int .u8 0,.int .u8 1,.int .u8 0,.int .u8 0,.int .u8 0,.int .u8 0,.int .u8 0,.int .u8 0,.int .u8 0,.int .u8 5]) (ok:=fun _=>True) (okp:=fun _=>True) ?hr ?hp (fun _ hk=>hk) trivial (Below.refl _ _) (Nat.le_refl _) (by simp) ?_;(case hd=>rfl);(case hg=>rfl);(case hr=>first|(go_simp;done)|(go_simp;rfl));(case hp=>exact (Reps.one (show Kd.M (Kd.int .u8) _ _ _ 1 [.int .u8 1] from rfl) (Reps.one (show Kd.M (Kd.int .u8) _ _ _ 0 [.int .u8 0] from rfl) (Reps.one (show Kd.M (Kd.int .u8) _ _ _ 1 [.int .u8 1] from rfl) (Reps.one (show Kd.M (Kd.int .u8) _ _ _ 0 [.int .u8 0] from rfl) (Reps.one (show Kd.M (Kd.int .u8) _ _ _ 0 [.int .u8 0] from rfl) (Reps.one (show Kd.M (Kd.int .u8) _ _ _ 0 [.int .u8 0] from rfl) (Reps.one (show Kd.M (Kd.int .u8) _ _ _ 0 [.int .u8 0] from rfl) (Reps.one (show Kd.M (Kd.int .u8) _ _ _ 1 [.int .u8 1] from rfl) (Reps.one (show Kd.M (Kd.int .u8) _ _ _ 0 [.int .u8 0] from rfl) (Reps.one (show Kd.M (Kd.int .u8) _ _ _ 0 [.int .u8 0] from rfl) (Reps.one (show Kd.M (Kd.int .u8) _ _ _ 0 [.int .u8 0] from rfl) (Reps.one (show Kd.M (Kd.int .u8) _ _ _ 0 [.int .u8 0] from rfl) (Reps.one (show Kd.M (Kd.int .u8) _ _ _ 0 [.int .u8 0] from rfl) (Reps.one (show Kd.M (Kd.int .u8) _ _ _ 0 [.int .u8 0] from rfl) (Reps.one (show Kd.M (Kd.int .u8) _ _ _ 0 [.int .u8 0] from rfl) (Reps.one (show Kd.M (Kd.int .u8) _ _ _ 5 [.int .u8 5] from rfl) (Reps.none _ _))))))))))))))))));intro v144 w12 ho13 hb hg_ hnew_;clear hg_ hnew_;(first|rw [← Ny143.out] at ho13|(simp only [Int.reduceToNat] at ho13;rw [← Ny143.out] at ho13));have n0_:=zm (Kd.R_below (by (with_reducible repeat (first|apply zrA|apply zrN|apply zrD));exact HO134.out) hb);have n1_:=zm (Kd.R_elder' (by (with_reducible repeat (first|apply zrA|apply zrN|apply zrD));exact HO137.out) (Kd.R_base ho13) hb);have n2_:=zm (Kd.R_lower (Kd.R_new' ho13 (Kd.R_lt (by (with_reducible repeat (first|apply zrA|apply zrN|apply zrD));exact HO137.out))) (below_size (by repeat (first|(with_reducible first|exact HB.out|apply zlA|apply zlN|apply zlD)|exact HB.out))));have n3_:=zm (Kd.C_below (by repeat (first|(with_reducible exact HR142.out)|(with_reducible refine Kd.C_alloc ?_ _)|(with_reducible refine Kd.C_drewN ?_ _)|(with_reducible refine Kd.C_drew ?_)|exact HR142.out)) hb);have n4_:=zm (below_step (by repeat (first|(with_reducible first|exact HB.out|apply zlA|apply zlN|apply zlD)|exact HB.out)) hb);clear HO134 HO137 HR142 HB;have HO134:=n0_;have HO137:=n1_;have HO145:=n2_;have HR142:=n3_;have HB:=n4_;clear n0_ n1_ n2_ n3_ n4_;clear hb ho13;obtain ⟨Ao14,co14,eo14⟩:=Kd.R_slice HO145.out;subst eo14)|(go_at_call 11;(with_reducible refine (bytes_Equal.calls _ _ y139 _ _ y143 t146 _ ?side1 ?side2 ?side3 ?side4 A5.out).mono ?_);(case side1=>repeat (first|exact (by repeat (first|(with_reducible exact HR142.out)|(with_reducible refine Kd.C_alloc ?_ _)|(with_reducible refine Kd.C_drewN ?_ _)|(with_reducible refine Kd.C_drew ?_)|exact HR142.out))|(with_reducible refine Kd.C_alloc ?_ _)|(with_reducible refine Kd.C_drewN ?_ _)|(with_reducible refine Kd.C_drew ?_)));(case side2=>exact HC142.out);(case side3=>repeat (first|exact (Kd.R_reads' HO145.out).2.2|(with_reducible refine Kd.C_alloc ?_ _)|(with_reducible refine Kd.C_drewN ?_ _)|(with_reducible refine Kd.C_drew ?_)));(case side4=>exact (Kd.R_reads' HO145.out).2.1);rintro e w' ⟨rfl,⟨nd,rfl⟩⟩))
    go_ret
    exact ⟨by first|rfl|(simp [errW_none,errW_some] <;> rfl)|(simp [*,errW_none,errW_some] <;> rfl),by repeat (first|(with_reducible first|exact HB.out|apply zlA|apply zlN|apply zlD)|exact HB.out)⟩
   ·rw [if_neg c4] at H
    exact absurd H (by simp)
  ·rw [if_neg c3] at H
   exact absurd H (by simp)
 ·rw [if_neg c2] at H
  exact absurd H (by simp)
def seal_Unpack_1.f (a0:Int) (l1:List Int):Option (Int):=if 0≤(wrap64 (Int.tdiv a0 8)) then (if (wrap64 (Int.tdiv a0 8)) < (l1.length:Int) then (if 0≤(wrap64 (7 - (Int.tmod a0 8))) then (some (IntKind.u64.wrap (Go.bits .and .u8 (shr .u8 (rd l1 (wrap64 (Int.tdiv a0 8))) (wrap64 (7 - (Int.tmod a0 8)))) 1))) else (none)) else (none)) else (none)
set_option maxHeartbeats 8000000 in
set_option maxRecDepth 100000 in
theorem seal_Unpack_1.calls (g1:Nat) (a0:Int) (A1:Option Addr) (c1:Nat) (l1:List Int) (r:Int) (w:World) (hb1:w.heap[g1]?=some (.cells #[.slice A1 l1.length c1] 25 (0,0))) (hr1:Kd.C (Kd.int .u8) w A1 l1.length l1) (hc1:l1.length≤c1) (h:seal_Unpack_1.f a0 l1=some r) :
  Calls Try.prog 50 #[.int .i64 a0,.pointer (some ⟨g1,0,none⟩)] w fun e w'=>e=.returned (.int .u64 r)∧Drawn0 w w':=by
 have hcz1_0:w.cell? ⟨g1,0,none⟩=some (.slice A1 l1.length c1):=(blk_cell hb1 0).trans rfl
 clear hb1
 have HR1:=zm hr1
 have HC1:=zm hc1
 clear hr1 hc1
 have H:(if 0≤(wrap64 (Int.tdiv a0 8)) then (if (wrap64 (Int.tdiv a0 8)) < (l1.length:Int) then (if 0≤(wrap64 (7 - (Int.tmod a0 8))) then (some (IntKind.u64.wrap (Go.bits .and .u8 (shr .u8 (rd l1 (wrap64 (Int.tdiv a0 8))) (wrap64 (7 - (Int.tmod a0 8)))) 1))) else (none)) else (none)) else (none))=some r:=h
 clear h
 obtain ⟨ji3,hji3⟩:∃ j_:Int,(wrap64 (Int.tdiv a0 8))=j_:=⟨_,rfl⟩
 replace H:(if 0≤(ji3) then (if (ji3) < (l1.length:Int) then (if 0≤(wrap64 (7 - (Int.tmod a0 8))) then (some (IntKind.u64.wrap (Go.bits .and .u8 (shr .u8 (rd l1 (ji3)) (wrap64 (7 - (Int.tmod a0 8)))) 1))) else (none)) else (none)) else (none))=some r:=by first|(rw [hji3] at H;exact H)|(simp only [hji3] at H ⊢;exact H)
 have hji3w:(IntKind.i64.wrap (Int.tdiv a0 8))=ji3:=(i64_w _).trans hji3
 by_cases c4:0≤(ji3)
 ·rw [if_pos c4] at H
  have c4b0:decide (0≤(ji3))=true:=decide_eq_true c4
  clear c4
  by_cases c5:(ji3) < (l1.length:Int)
  ·rw [if_pos c5] at H
   have c5b0:decide ((ji3) < (l1.length:Int))=true:=decide_eq_true c5
   clear c5
   obtain ⟨ji6,hji6⟩:∃ j_:Int,(wrap64 (7 - (Int.tmod a0 8)))=j_:=⟨_,rfl⟩
   replace H:(if 0≤(ji6) then (some (IntKind.u64.wrap (Go.bits .and .u8 (shr .u8 (rd l1 (ji3)) (ji6)) 1))) else (none))=some r:=by first|(rw [hji6] at H;exact H)|(simp only [hji6] at H ⊢;exact H)
   have hji6w:(IntKind.i64.wrap (7 - (Int.tmod a0 8)))=ji6:=(i64_w _).trans hji6
   by_cases c7:0≤(ji6)
   ·rw [if_pos c7] at H
    have c7b0:=eq_true c7
    have c7b1:decide (0≤(ji6))=true:=decide_eq_true c7
    clear c7
    obtain ⟨ji8,hji8⟩:∃ j_:Int,(shr .u8 (rd l1 (ji3)) (ji6))=j_:=⟨_,rfl⟩
    replace H:(some (IntKind.u64.wrap (Go.bits .and .u8 (ji8) 1)))=some r:=by first|(rw [hji8] at H;exact H)|(simp only [hji8] at H ⊢;exact H)
    have hji8_:((rd l1 (ji3)) / 2 ^ min (ji6).toNat 8)=ji8:=hji8
    have hji8z:(ji6)≤8 → ((rd l1 (ji3)) / 2 ^ (ji6).toNat)=ji8:=shr_small hji8
    obtain rfl:=Option.some.inj H
    have p147:0≤((ji3):Int):=of_decide_eq_true (by first|(with_reducible assumption)|assumption)
    have q147:(ji3) < (l1.length:Int):=of_decide_eq_true (by first|(with_reducible assumption)|assumption)
    obtain ⟨ad147,e147,hx147_0⟩:=Kd.at_int HR1.out (ji3) p147 q147
    cases e147
    replace p147:=eq_true p147
    replace q147:=eq_true q147
    go_enter Try.func50,Try.ntmps50
    go_wp2
    go_ret
    exact ⟨by first|rfl|(simp;done)|(simp only [← hji3,← hji6,← hji8] <;> (first|rfl|simp))|(simp [*];done),by repeat (first|exact Drawn0.refl _|apply Drawn0.step)⟩
   ·rw [if_neg c7] at H
    exact absurd H (by simp)
  ·rw [if_neg c5] at H
   exact absurd H (by simp)
 ·rw [if_neg c4] at H
  exact absurd H (by simp)
end Go.Proofs.Ytjoojmodghpimaa.Print
end
section
namespace Go.Proofs.Ytjoojmodghpimaa.Print
open Go.RowKit Go.Proofs.YtjoojmodghpimaaW.PrintWords Go.Proofs.YtjoojmodghpimaaW.PrintLast Go.Proofs.YtjoojmodghpimaaW.PrintMore
attribute [local go_sem] max2_int min2_int max_two min_two max_three min_three max_four min_four   -- for this text's walks alone
attribute [local go_sem ↓] Go.Proofs.Ytjoojmodghpimaa.Sem.isSome_setCell
attribute [local go_sem] Go.Instr.field Go.asAgg
set_option linter.unusedVariables false
set_option linter.unusedSimpArgs false
mutual
def seal_Unpack.l0:Nat → List Int → Int → List Int → Option (List Int × Int)
 | 0,_,_,_=>none
 | k + 1,x0,x9,x149000=>if x9 < (wrap64 (8 * (x149000.length:Int))) then ((seal_Unpack_1.f x9 x149000).bind fun t151=>(if t151=0 then (seal_Unpack.l0 k x0 (wrap64 (x9 + 1)) x149000) else (some (([]:List Int),1)))) else (seal_Unpack.l1 k ([]:List Int) 0 x0 (x0.length:Int) 0 x149000)
def seal_Unpack.l1:Nat → List Int → Int → List Int → Int → Int → List Int → Option (List Int × Int)
 | 0,_,_,_,_,_,_=>none
 | k + 1,x10,x11,x42,x43,x44,x149000=>if x44 < x43 then (if 0≤x44 then (if x44 < (x42.length:Int) then (seal_Unpack.l2 k x10 x11 0 x42 x43 x44 (rd x42 x44) 0 x149000) else (none)) else (none)) else (some (x10,0))
def seal_Unpack.l2:Nat → List Int → Int → Int → List Int → Int → Int → Int → Int → List Int → Option (List Int × Int)
 | 0,_,_,_,_,_,_,_,_,_=>none
 | k + 1,x10,x11,x14,x42,x43,x44,x48,x49,x149000=>if x49 < x48 then ((seal_Unpack_1.f x11 x149000).bind fun t153=>(seal_Unpack.l2 k x10 (wrap64 (x11 + 1)) (Go.bits .or .u64 (IntKind.u64.wrap (x14 * 2)) t153) x42 x43 x44 x48 (wrap64 (x49 + 1)) x149000)) else (if x10.length < 17592186044416 then (seal_Unpack.l1 k (x10 ++ [x14]) x11 x42 x43 (wrap64 (x44 + 1)) x149000) else (none))
end
def seal_Unpack.f (k:Nat) (l0:List Int) (l1:List Int):Option (List Int × Int):=(seal_total.f k l0).bind fun bt149=>(if bt149.2=0 then (if (l1.length:Int)=(wrap64 (Int.tdiv (wrap64 (bt149.1 + 7)) 8)) then (seal_Unpack.l0 k l0 bt149.1 l1) else (some (([]:List Int),3))) else (some (([]:List Int),bt149.2)))
set_option maxHeartbeats 8000000 in
set_option maxRecDepth 100000 in
theorem seal_Unpack.calls (k:Nat) (A0:Option Addr) (c0:Nat) (l0:List Int) (A1:Option Addr) (c1:Nat) (l1:List Int) (r1:List Int) (r2:Int) (w:World) (hr0:Kd.C (Kd.int .i64) w A0 l0.length l0) (hc0:l0.length≤c0) (hr1:Kd.C (Kd.int .u8) w A1 l1.length l1) (hc1:l1.length≤c1) (h:seal_Unpack.f k l0 l1=some (r1,r2)) :
  Calls Try.prog 32 #[.slice A0 l0.length c0,.slice A1 l1.length c1] w fun e w'=>∃ v0_:Value,e=.returned (.tuple #[v0_,.int .i64 r2])∧Kd.R (Kd.int .u64) 58 w' w.heap.size (fun _=>True) v0_ r1∧Below w.heap.size w w':=by
 have HR0:=zm hr0
 have HC0:=zm hc0
 clear hr0 hc0
 have HR1:=zm hr1
 have HC1:=zm hc1
 clear hr1 hc1
 have HB:=zm (Below.refl w.heap.size w)
 have H:((seal_total.f k l0).bind fun bt149=>(if bt149.2=0 then (if (l1.length:Int)=(wrap64 (Int.tdiv (wrap64 (bt149.1 + 7)) 8)) then (seal_Unpack.l0 k l0 bt149.1 l1) else (some (([]:List Int),3))) else (some (([]:List Int),bt149.2))))=some (r1,r2):=h
 clear h
 replace H:=Option.bind_eq_some_iff.mp H
 obtain ⟨⟨t149,t150⟩,A30,H⟩:=H
 replace H:(if t150=0 then (if (l1.length:Int)=(wrap64 (Int.tdiv (wrap64 (t149 + 7)) 8)) then (seal_Unpack.l0 k l0 t149 l1) else (some (([]:List Int),3))) else (some (([]:List Int),t150)))=some (r1,r2):=H
 have A3:=zm A30
 clear A30
 by_cases c4:t150=0
 ·rw [if_pos c4] at H
  have c4b0:(t150 == 0)=true:=beq_iff_eq.mpr c4
  have c4b1:(t150 != 0)=false:=bne_eq_false_iff_eq.mpr c4
  clear c4
  by_cases c5:(l1.length:Int)=(wrap64 (Int.tdiv (wrap64 (t149 + 7)) 8))
  ·rw [if_pos c5] at H
   have c5b0:((l1.length:Int) == (wrap64 (Int.tdiv (wrap64 (t149 + 7)) 8)))=true:=beq_iff_eq.mpr c5
   have c5b1:((l1.length:Int) != (wrap64 (Int.tdiv (wrap64 (t149 + 7)) 8)))=false:=bne_eq_false_iff_eq.mpr c5
   clear c5
   have H':=zm H
   clear H
   go_enter Try.func32,Try.ntmps32
   go_wp2_with (first|((with_reducible refine gate_dst (N:=3) rfl ?_);refine box_event ?hg (N:=3) ?hd (cs:=#[.slice A1 l1.length c1]) (t:=25) ?hr ?_;(case hd=>rfl);(case hg=>rfl);(case hr=>first|(go_simp;done)|(go_simp;rfl));intro gb148 hg w6 hbox hb;have n0_:=zm (below_step (by repeat (first|(with_reducible first|exact HB.out|apply zlA|apply zlN|apply zlD)|exact HB.out)) hb);have n1_:=zm (hbox);have n2_:=zm ((by rw [hg];exact (below_size (by repeat (first|(with_reducible first|exact HB.out|apply zlA|apply zlN|apply zlD)|exact HB.out))):w.heap.size≤gb148));have n3_:=zm ((by rw [hg];exact (below_size (by repeat (first|(with_reducible first|exact HB.out|apply zlA|apply zlN|apply zlD)|exact HB.out))):w.heap.size≤gb148));clear HB;have HB:=n0_;have BK148:=n1_;have GW148:=n2_;have GE148:=n3_;clear n0_ n1_ n2_ n3_;clear hb hbox hg)|((with_reducible refine gate_callee (f:=49) rfl ?_);refine goesL_ (some 17) rfl rfl Try.func49 (by kernel_rfl) rfl #[.slice A0 l0.length c0] rfl (by (try simp only [List.map_toArray,List.map_cons,List.map_nil]);first|done|rfl|(simp only [List.length_drop,List.length_take];rfl)) ?_;(with_reducible refine (seal_total.calls k _ _ l0 t149 t150 _ ?side1 ?side2 A3.out).mono ?_);(case side1=>repeat (first|exact (Kd.C_below HR0.out HB.out)|(with_reducible refine Kd.C_alloc ?_ _)|(with_reducible refine Kd.C_drewN ?_ _)|(with_reducible refine Kd.C_drew ?_)));(case side2=>exact HC0.out);rintro e w' ⟨rfl,⟨nd,rfl⟩⟩;refine ⟨_,rfl,?_⟩;have hcz7_0:w6.cell? ⟨gb148,0,none⟩=some (.slice A1 l1.length c1):=(blk_cell BK148.out 0).trans rfl;have hfz7_0:=blk_frozen BK148.out 0))
   go_loopg [9] k (fun kq v9 w'=>∃ (x9_1:Int),v9=.int .i64 x9_1∧Aside0 (seal_Unpack.l0 kq l0 x9_1 l1=some (r1,r2))∧Aside0 (kq≤k)∧Aside0 (w'.heap[gb148]?=some (.cells #[(.slice A1 l1.length c1)] 25 (0,0)))∧Aside0 (Below w.heap.size w w'))
   case atStart=>exact ⟨(t149),(by first|rfl|(simp;done)|(simp [*];done)),H',⟨Nat.le_refl _⟩,⟨by (with_reducible repeat (first|refine zbN ?_ _|refine zbD ?_|refine zbA ?_ _));exact BK148.out⟩,⟨by repeat (first|(with_reducible first|exact HB.out|apply zlA|apply zlN|apply zlD|refine zlS ?_ GE148.out)|exact HB.out)⟩⟩
   case round =>
    clear H'
    try clear c1
    try clear p2
    try clear c3
    try clear c4
    try clear c4b0
    try clear c4b1
    try clear c5
    try clear c5b0
    try clear c5b1
    try clear p6
    try clear hcz7_0
    try clear hfz7_0
    obtain ⟨x9_1,rfl,HA,HK1,BK148,HB⟩:=hrel
    cases gk with
    | zero=>exact absurd HA.out (by simp [seal_Unpack.l0])
    | succ k1 =>
     have H:=HA.out
     clear HA
     simp only [seal_Unpack.l0] at H
     by_cases c8:x9_1 < (wrap64 (8 * (l1.length:Int)))
     ·rw [if_pos c8] at H
      have c8b0:decide (x9_1 < (wrap64 (8 * (l1.length:Int))))=true:=decide_eq_true c8
      clear c8
      replace H:=Option.bind_eq_some_iff.mp H
      obtain ⟨t151,A90,H⟩:=H
      replace H:(if t151=0 then (seal_Unpack.l0 k1 l0 (wrap64 (x9_1 + 1)) l1) else (some (([]:List Int),1)))=some (r1,r2):=H
      have A9:=zm A90
      clear A90
      by_cases c10:t151=0
      ·rw [if_pos c10] at H
       have c10b0:(t151 == 0)=true:=beq_iff_eq.mpr c10
       have c10b1:(t151 != 0)=false:=bne_eq_false_iff_eq.mpr c10
       clear c10
       have H':=zm H
       clear H
       have hcz11_0:wr.cell? ⟨gb148,0,none⟩=some (.slice A1 l1.length c1):=(blk_cell BK148.out 0).trans rfl
       have hfz11_0:=blk_frozen BK148.out 0
       go_wp2_with (first|(go_at_call 50;(with_reducible refine (seal_Unpack_1.calls gb148 x9_1 _ _ l1 t151 _ (by (with_reducible repeat (first|refine zbN ?_ _|refine zbD ?_|refine zbA ?_ _));exact BK148.out) ?side1 ?side2 A9.out).mono ?_);(case side1=>repeat (first|exact (Kd.C_below HR1.out HB.out)|(with_reducible refine Kd.C_alloc ?_ _)|(with_reducible refine Kd.C_drewN ?_ _)|(with_reducible refine Kd.C_drew ?_)));(case side2=>exact HC1.out);rintro e w' ⟨rfl,⟨nd,rfl⟩⟩))
       go_roundg k1
       case measure=>have:=HK1.out;omega
       case rel=>exact ⟨(wrap64 (x9_1 + 1)),(by first|rfl|(simp;done)|(simp [*];done)),H',⟨by have:=HK1.out;omega⟩,⟨by (with_reducible repeat (first|refine zbN ?_ _|refine zbD ?_|refine zbA ?_ _));exact BK148.out⟩,⟨by repeat (first|(with_reducible first|exact HB.out|apply zlA|apply zlN|apply zlD|refine zlS ?_ GE148.out)|exact HB.out)⟩⟩
      ·rw [if_neg c10] at H
       have c10b0:(t151 == 0)=false:=beq_eq_false_iff_ne.mpr c10
       have c10b1:(t151 != 0)=true:=bne_iff_ne.mpr c10
       simp only [Option.some.injEq,Prod.mk.injEq] at H
       obtain ⟨rfl,rfl⟩:=H
       have hcz12_0:wr.cell? ⟨gb148,0,none⟩=some (.slice A1 l1.length c1):=(blk_cell BK148.out 0).trans rfl
       have hfz12_0:=blk_frozen BK148.out 0
       go_wp2_with (first|(go_at_call 50;(with_reducible refine (seal_Unpack_1.calls gb148 x9_1 _ _ l1 t151 _ (by (with_reducible repeat (first|refine zbN ?_ _|refine zbD ?_|refine zbA ?_ _));exact BK148.out) ?side1 ?side2 A9.out).mono ?_);(case side1=>repeat (first|exact (Kd.C_below HR1.out HB.out)|(with_reducible refine Kd.C_alloc ?_ _)|(with_reducible refine Kd.C_drewN ?_ _)|(with_reducible refine Kd.C_drew ?_)));(case side2=>exact HC1.out);rintro e w' ⟨rfl,⟨nd,rfl⟩⟩))
       go_ret2
       exact ⟨_,by first|rfl|(simp [errW_none,errW_some] <;> rfl)|(simp [*,errW_none,errW_some] <;> rfl),by first|exact Kd.R_nil _ _ _ _ _|exact Kd.N_nil _ _ _ _ _|exact Kd.V_nil _ _ _ _ _|exact Kd.Q_nil _ _ _ _ _|exact Kd.S_nil _ _ _ _ _,by repeat (first|(with_reducible first|exact HB.out|apply zlA|apply zlN|apply zlD|refine zlS ?_ GE148.out)|exact HB.out)⟩
     ·rw [if_neg c8] at H
      have c8b0:decide (x9_1 < (wrap64 (8 * (l1.length:Int))))=false:=decide_eq_false c8
      clear c8
      have H':=zm H
      clear H
      have hcz13_0:wr.cell? ⟨gb148,0,none⟩=some (.slice A1 l1.length c1):=(blk_cell BK148.out 0).trans rfl
      have hfz13_0:=blk_frozen BK148.out 0
      go_wp2
      go_loopg [10,11,44] k1 (fun kq v10 v11 v44 w'=>∃ (x10_2:List Int) (x11_2:Int) (x44_2:Int),v11=.int .i64 x11_2∧v44=.int .i64 x44_2∧Aside0 (seal_Unpack.l1 kq x10_2 x11_2 l0 (l0.length:Int) x44_2 l1=some (r1,r2))∧Aside0 (kq≤k1)∧Aside0 (Kd.R (Kd.int .u64) 58 w' w.heap.size (fun _=>True) v10 x10_2)∧Aside0 (w'.heap[gb148]?=some (.cells #[(.slice A1 l1.length c1)] 25 (0,0)))∧Aside0 (Below w.heap.size w w'))
      case atStart=>exact ⟨(([]:List Int)),(0),(0),(by first|rfl|(simp;done)|(simp [*];done)),(by first|rfl|(simp;done)|(simp [*];done)),H',⟨Nat.le_refl _⟩,⟨by first|exact Kd.R_nil _ _ _ _ _|exact Kd.N_nil _ _ _ _ _|exact Kd.V_nil _ _ _ _ _|exact Kd.Q_nil _ _ _ _ _|exact Kd.S_nil _ _ _ _ _⟩,⟨by (with_reducible repeat (first|refine zbN ?_ _|refine zbD ?_|refine zbA ?_ _));exact BK148.out⟩,⟨by repeat (first|(with_reducible first|exact HB.out|apply zlA|apply zlN|apply zlD|refine zlS ?_ GE148.out)|exact HB.out)⟩⟩
      case round =>
       clear H'
       try clear c1
       try clear p2
       try clear c3
       try clear c4
       try clear c4b0
       try clear c4b1
       try clear c5
       try clear c5b0
       try clear c5b1
       try clear p6
       try clear c8
       try clear c8b0
       try clear c10
       try clear c10b0
       try clear c10b1
       try clear hcz11_0
       try clear hcz12_0
       try clear hcz13_0
       try clear hcz7_0
       try clear hfz11_0
       try clear hfz12_0
       try clear hfz13_0
       try clear hfz7_0
       try clear p2
       try clear p6
       obtain ⟨x10_2,x11_2,x44_2,rfl,rfl,HA,HK2,HO_10,BK148,HB⟩:=hrel
       cases gk with
       | zero=>exact absurd HA.out (by simp [seal_Unpack.l1])
       | succ k2 =>
        have H:=HA.out
        clear HA
        simp only [seal_Unpack.l1] at H
        by_cases c14:x44_2 < (l0.length:Int)
        ·rw [if_pos c14] at H
         have c14b0:decide (x44_2 < (l0.length:Int))=true:=decide_eq_true c14
         clear c14
         by_cases c15:0≤x44_2
         ·rw [if_pos c15] at H
          have c15b0:decide (0≤x44_2)=true:=decide_eq_true c15
          clear c15
          by_cases c16:x44_2 < (l0.length:Int)
          ·rw [if_pos c16] at H
           have c16b0:decide (x44_2 < (l0.length:Int))=true:=decide_eq_true c16
           clear c16
           have H':=zm H
           clear H
           have p152:0≤(x44_2:Int):=of_decide_eq_true (by first|(with_reducible assumption)|assumption)
           have q152:x44_2 < (l0.length:Int):=of_decide_eq_true (by first|(with_reducible assumption)|assumption)
           obtain ⟨ad152,e152,hx152_0⟩:=Kd.at_int HR0.out x44_2 p152 q152
           cases e152
           replace hx152_0:=(HB.out.cell (World.block_lt_of_cell? w _ hx152_0)).trans hx152_0
           replace p152:=eq_true p152
           replace q152:=eq_true q152
           go_wp2
           go_loopg [11,14,49] k2 (fun kq v11 v14 v49 w'=>∃ (x11_3:Int) (x14_3:Int) (x49_3:Int),v11=.int .i64 x11_3∧v14=.int .u64 x14_3∧v49=.int .i64 x49_3∧Aside0 (seal_Unpack.l2 kq x10_2 x11_3 x14_3 l0 (l0.length:Int) x44_2 (rd l0 x44_2) x49_3 l1=some (r1,r2))∧Aside0 (kq≤k2)∧Aside0 (Kd.R (Kd.int .u64) 58 w' w.heap.size (fun _=>True) u10 x10_2)∧Aside0 (w'.heap[gb148]?=some (.cells #[(.slice A1 l1.length c1)] 25 (0,0)))∧Aside0 (Below w.heap.size w w'))
           case atStart=>exact ⟨(x11_2),(0),(0),(by first|rfl|(simp;done)|(simp [*];done)),(by first|rfl|(simp;done)|(simp [*];done)),(by first|rfl|(simp;done)|(simp [*];done)),H',⟨Nat.le_refl _⟩,⟨by (with_reducible repeat (first|apply zrA|apply zrN|apply zrD));exact HO_10.out⟩,⟨by (with_reducible repeat (first|refine zbN ?_ _|refine zbD ?_|refine zbA ?_ _));exact BK148.out⟩,⟨by repeat (first|(with_reducible first|exact HB.out|apply zlA|apply zlN|apply zlD|refine zlS ?_ GE148.out)|exact HB.out)⟩⟩
           case round =>
            clear H'
            try clear c1
            try clear p1
            try clear q1
            try clear hx1
            try clear p2
            try clear c3
            try clear c4
            try clear c4b0
            try clear c4b1
            try clear c5
            try clear c5b0
            try clear c5b1
            try clear p6
            try clear c8
            try clear c8b0
            try clear c10
            try clear c10b0
            try clear c10b1
            try clear c14
            try clear c14b0
            try clear c15
            try clear c15b0
            try clear p15
            try clear q15
            try clear hx15
            try clear c16
            try clear c16b0
            try clear hcz11_0
            try clear hcz12_0
            try clear hcz13_0
            try clear hcz7_0
            try clear hfz11_0
            try clear hfz12_0
            try clear hfz13_0
            try clear hfz7_0
            try clear hx152_0
            try clear p152
            try clear p2
            try clear p6
            try clear q152
            obtain ⟨x11_3,x14_3,x49_3,rfl,rfl,rfl,HA,HK3,HO_10,BK148,HB⟩:=hrel
            cases gk with
            | zero=>exact absurd HA.out (by simp [seal_Unpack.l2])
            | succ k3 =>
             have H:=HA.out
             clear HA
             simp only [seal_Unpack.l2] at H
             by_cases c17:x49_3 < (rd l0 x44_2)
             ·rw [if_pos c17] at H
              have c17b0:decide (x49_3 < (rd l0 x44_2))=true:=decide_eq_true c17
              clear c17
              replace H:=Option.bind_eq_some_iff.mp H
              obtain ⟨t153,A180,H⟩:=H
              replace H:(seal_Unpack.l2 k3 x10_2 (wrap64 (x11_3 + 1)) (Go.bits .or .u64 (IntKind.u64.wrap (x14_3 * 2)) t153) l0 (l0.length:Int) x44_2 (rd l0 x44_2) (wrap64 (x49_3 + 1)) l1)=some (r1,r2):=H
              have A18:=zm A180
              clear A180
              have H':=zm H
              clear H
              go_wp2_with (first|(go_at_call 50;(with_reducible refine (seal_Unpack_1.calls gb148 x11_3 _ _ l1 t153 _ (by (with_reducible repeat (first|refine zbN ?_ _|refine zbD ?_|refine zbA ?_ _));exact BK148.out) ?side1 ?side2 A18.out).mono ?_);(case side1=>repeat (first|exact (Kd.C_below HR1.out HB.out)|(with_reducible refine Kd.C_alloc ?_ _)|(with_reducible refine Kd.C_drewN ?_ _)|(with_reducible refine Kd.C_drew ?_)));(case side2=>exact HC1.out);rintro e w' ⟨rfl,⟨nd,rfl⟩⟩))
              go_roundg k3
              case measure=>have:=HK1.out;have:=HK2.out;have:=HK3.out;omega
              case rel=>exact ⟨(wrap64 (x11_3 + 1)),(Go.bits .or .u64 (IntKind.u64.wrap (x14_3 * 2)) t153),(wrap64 (x49_3 + 1)),(by first|rfl|(simp;done)|(simp [*];done)),(by first|rfl|(simp;done)|(simp [*];done)),(by first|rfl|(simp;done)|(simp [*];done)),H',⟨by have:=HK1.out;have:=HK2.out;have:=HK3.out;omega⟩,⟨by (with_reducible repeat (first|apply zrA|apply zrN|apply zrD));exact HO_10.out⟩,⟨by (with_reducible repeat (first|refine zbN ?_ _|refine zbD ?_|refine zbA ?_ _));exact BK148.out⟩,⟨by repeat (first|(with_reducible first|exact HB.out|apply zlA|apply zlN|apply zlD|refine zlS ?_ GE148.out)|exact HB.out)⟩⟩
             ·rw [if_neg c17] at H
              have c17b0:decide (x49_3 < (rd l0 x44_2))=false:=decide_eq_false c17
              clear c17
              by_cases c19:x10_2.length < 17592186044416
              ·rw [if_pos c19] at H
               have LMc19:=zm c19
               clear c19
               obtain ⟨y154,hy154⟩:∃ y_:List Int,y_=(x10_2 ++ [x14_3]):=⟨_,rfl⟩
               replace H:(seal_Unpack.l1 k3 y154 x11_3 l0 (l0.length:Int) (wrap64 (x44_2 + 1)) l1)=some (r1,r2):=by first|(rw [hy154];with_reducible exact H)|(have H2_:=(Option.bind_some _ _).symm.trans H;rw [hy154];with_reducible exact H2_)|(have H2_:=(Option.bind_some _ _).symm.trans H;with_reducible exact H2_)|with_reducible exact H|(rw [hy154];exact H)|exact H
               have Ny154:=zm hy154
               clear hy154
               have H':=zm H
               clear H
               go_wp2_with (first|((with_reducible refine gate_builtin (b:=.append) (xs:=#[.tmp 60,.tmp 62]) rfl ?_);at_builtin;refine Kd.R_append (Kd.int .u64) (w0:=w) w.heap.size rfl (.tmp 60) (.tmp 62) 61 58 (.int .u64 0) 8 rfl Try.underlying61 info58 rfl (by decide) (by omega) u10 x10_2 x14_3 [.int .u64 x14_3] (fun _=>True) (fun _=>False) rfl rfl ?aP (fun _ hk=>hk.elim) ?aF ?aO ?aB ?aS ?aL ?_;(case aP=>exact rfl);(case aB=>exact (by repeat (first|(with_reducible first|exact HB.out|apply zlA|apply zlN|apply zlD|refine zlS ?_ GE148.out)|exact HB.out)));(case aF=>exact (fun _ _=>trivial));(case aO=>exact (by (with_reducible repeat (first|apply zrA|apply zrN|apply zrD));exact HO_10.out));(case aS=>exact (below_size (by repeat (first|(with_reducible first|exact HB.out|apply zlA|apply zlN|apply zlD|refine zlS ?_ GE148.out)|exact HB.out))));(case aL=>have:=LMc19.out;omega);intro v155 w20 ho hb hg hat;rw [← Ny154.out] at ho;have n0_:=zm (blk_grown (g:=gb148) (o:=.cells #[.slice A1 l1.length c1] 25 (0,0)) (by (with_reducible repeat (first|refine zbN ?_ _|refine zbD ?_|refine zbA ?_ _));exact BK148.out) hg (Kd.R_ne HO_10.out BK148.out (by decide)));have n1_:=zm (hb);have n2_:=zm (ho);clear BK148 HB HO_10;have BK148:=n0_;have HB:=n1_;have HO156:=n2_;clear n0_ n1_ n2_;clear ho hb hg hat))
               go_roundg k3
               case measure=>have:=HK1.out;have:=HK2.out;have:=HK3.out;omega
               case rel=>exact ⟨(y154),(x11_3),(wrap64 (x44_2 + 1)),(by first|rfl|(simp;done)|(simp [*];done)),(by first|rfl|(simp;done)|(simp [*];done)),H',⟨by have:=HK1.out;have:=HK2.out;have:=HK3.out;omega⟩,⟨by (with_reducible repeat (first|apply zrA|apply zrN|apply zrD));exact HO156.out⟩,⟨by (with_reducible repeat (first|refine zbN ?_ _|refine zbD ?_|refine zbA ?_ _));exact BK148.out⟩,⟨by repeat (first|(with_reducible first|exact HB.out|apply zlA|apply zlN|apply zlD|refine zlS ?_ GE148.out)|exact HB.out)⟩⟩
              ·rw [if_neg c19] at H
               exact absurd H (by simp)
          ·rw [if_neg c16] at H
           exact absurd H (by simp)
         ·rw [if_neg c15] at H
          exact absurd H (by simp)
        ·rw [if_neg c14] at H
         have c14b0:decide (x44_2 < (l0.length:Int))=false:=decide_eq_false c14
         clear c14
         simp only [Option.some.injEq,Prod.mk.injEq] at H
         obtain ⟨rfl,rfl⟩:=H
         go_wp2
         go_ret2
         exact ⟨_,by first|rfl|(simp [errW_none,errW_some] <;> rfl)|(simp [*,errW_none,errW_some] <;> rfl),by (with_reducible repeat (first|apply zrA|apply zrN|apply zrD));exact HO_10.out,by repeat (first|(with_reducible first|exact HB.out|apply zlA|apply zlN|apply zlD|refine zlS ?_ GE148.out)|exact HB.out)⟩
  ·rw [if_neg c5] at H
   have c5b0:((l1.length:Int) == (wrap64 (Int.tdiv (wrap64 (t149 + 7)) 8)))=false:=beq_eq_false_iff_ne.mpr c5
   have c5b1:((l1.length:Int) != (wrap64 (Int.tdiv (wrap64 (t149 + 7)) 8)))=true:=bne_iff_ne.mpr c5
   simp only [Option.some.injEq,Prod.mk.injEq] at H
   obtain ⟨rfl,rfl⟩:=H
   go_enter Try.func32,Try.ntmps32
   go_wp2_with (first|((with_reducible refine gate_dst (N:=3) rfl ?_);refine box_event ?hg (N:=3) ?hd (cs:=#[.slice A1 l1.length c1]) (t:=25) ?hr ?_;(case hd=>rfl);(case hg=>rfl);(case hr=>first|(go_simp;done)|(go_simp;rfl));intro gb148 hg w21 hbox hb;have n0_:=zm (below_step (by repeat (first|(with_reducible first|exact HB.out|apply zlA|apply zlN|apply zlD)|exact HB.out)) hb);have n1_:=zm (hbox);have n2_:=zm ((by rw [hg];exact (below_size (by repeat (first|(with_reducible first|exact HB.out|apply zlA|apply zlN|apply zlD)|exact HB.out))):w.heap.size≤gb148));have n3_:=zm ((by rw [hg];exact (below_size (by repeat (first|(with_reducible first|exact HB.out|apply zlA|apply zlN|apply zlD)|exact HB.out))):w.heap.size≤gb148));clear HB;have HB:=n0_;have BK148:=n1_;have GW148:=n2_;have GE148:=n3_;clear n0_ n1_ n2_ n3_;clear hb hbox hg)|((with_reducible refine gate_callee (f:=49) rfl ?_);refine goesL_ (some 17) rfl rfl Try.func49 (by kernel_rfl) rfl #[.slice A0 l0.length c0] rfl (by (try simp only [List.map_toArray,List.map_cons,List.map_nil]);first|done|rfl|(simp only [List.length_drop,List.length_take];rfl)) ?_;(with_reducible refine (seal_total.calls k _ _ l0 t149 t150 _ ?side1 ?side2 A3.out).mono ?_);(case side1=>repeat (first|exact (Kd.C_below HR0.out HB.out)|(with_reducible refine Kd.C_alloc ?_ _)|(with_reducible refine Kd.C_drewN ?_ _)|(with_reducible refine Kd.C_drew ?_)));(case side2=>exact HC0.out);rintro e w' ⟨rfl,⟨nd,rfl⟩⟩;refine ⟨_,rfl,?_⟩;have hcz22_0:w21.cell? ⟨gb148,0,none⟩=some (.slice A1 l1.length c1):=(blk_cell BK148.out 0).trans rfl;have hfz22_0:=blk_frozen BK148.out 0))
   go_ret2
   exact ⟨_,by first|rfl|(simp [errW_none,errW_some] <;> rfl)|(simp [*,errW_none,errW_some] <;> rfl),by first|exact Kd.R_nil _ _ _ _ _|exact Kd.N_nil _ _ _ _ _|exact Kd.V_nil _ _ _ _ _|exact Kd.Q_nil _ _ _ _ _|exact Kd.S_nil _ _ _ _ _,by repeat (first|(with_reducible first|exact HB.out|apply zlA|apply zlN|apply zlD|refine zlS ?_ GE148.out)|exact HB.out)⟩
 ·rw [if_neg c4] at H
  have c4b0:(t150 == 0)=false:=beq_eq_false_iff_ne.mpr c4
  have c4b1:(t150 != 0)=true:=bne_iff_ne.mpr c4
  simp only [Option.some.injEq,Prod.mk.injEq] at H
  obtain ⟨rfl,rfl⟩:=H
  go_enter Try.func32,Try.ntmps32
  go_wp2_with (first|((with_reducible refine gate_dst (N:=3) rfl ?_);refine box_event ?hg (N:=3) ?hd (cs:=#[.slice A1 l1.length c1]) (t:=25) ?hr ?_;(case hd=>rfl);(case hg=>rfl);(case hr=>first|(go_simp;done)|(go_simp;rfl));intro gb148 hg w23 hbox hb;have n0_:=zm (below_step (by repeat (first|(with_reducible first|exact HB.out|apply zlA|apply zlN|apply zlD)|exact HB.out)) hb);have n1_:=zm (hbox);have n2_:=zm ((by rw [hg];exact (below_size (by repeat (first|(with_reducible first|exact HB.out|apply zlA|apply zlN|apply zlD)|exact HB.out))):w.heap.size≤gb148));have n3_:=zm ((by rw [hg];exact (below_size (by repeat (first|(with_reducible first|exact HB.out|apply zlA|apply zlN|apply zlD)|exact HB.out))):w.heap.size≤gb148));clear HB;have HB:=n0_;have BK148:=n1_;have GW148:=n2_;have GE148:=n3_;clear n0_ n1_ n2_ n3_;clear hb hbox hg)|((with_reducible refine gate_callee (f:=49) rfl ?_);refine goesL_ (some 17) rfl rfl Try.func49 (by kernel_rfl) rfl #[.slice A0 l0.length c0] rfl (by (try simp only [List.map_toArray,List.map_cons,List.map_nil]);first|done|rfl|(simp only [List.length_drop,List.length_take];rfl)) ?_;(with_reducible refine (seal_total.calls k _ _ l0 t149 t150 _ ?side1 ?side2 A3.out).mono ?_);(case side1=>repeat (first|exact (Kd.C_below HR0.out HB.out)|(with_reducible refine Kd.C_alloc ?_ _)|(with_reducible refine Kd.C_drewN ?_ _)|(with_reducible refine Kd.C_drew ?_)));(case side2=>exact HC0.out);rintro e w' ⟨rfl,⟨nd,rfl⟩⟩;refine ⟨_,rfl,?_⟩))
  go_ret2
  exact ⟨_,by first|rfl|(simp [errW_none,errW_some] <;> rfl)|(simp [*,errW_none,errW_some] <;> rfl),by first|exact Kd.R_nil _ _ _ _ _|exact Kd.N_nil _ _ _ _ _|exact Kd.V_nil _ _ _ _ _|exact Kd.Q_nil _ _ _ _ _|exact Kd.S_nil _ _ _ _ _,by repeat (first|(with_reducible first|exact HB.out|apply zlA|apply zlN|apply zlD|refine zlS ?_ GE148.out)|exact HB.out)⟩
end Go.Proofs.Ytjoojmodghpimaa.Print
end
section
namespace Go.Proofs.Ytjoojmodghpimaa.Print
open Go.RowKit Go.Proofs.YtjoojmodghpimaaW.PrintWords Go.Proofs.YtjoojmodghpimaaW.PrintLast Go.Proofs.YtjoojmodghpimaaW.PrintMore
attribute [local go_sem] max2_int min2_int max_two min_two max_three min_three max_four min_four   -- for this text's walks alone
attribute [local go_sem ↓] Go.Proofs.Ytjoojmodghpimaa.Sem.isSome_setCell
attribute [local go_sem] Go.Instr.field Go.asAgg
set_option linter.unusedVariables false
set_option linter.unusedSimpArgs false
def slices_Equal_byte_byte.l0:Nat → List Int → List Int → Int → Int → Option (Bool)
 | 0,_,_,_,_=>none
 | k + 1,x0,x1,x12,x13=>if x13 < x12 then (if 0≤x13 then (if x13 < (x0.length:Int) then (if x13 < (x1.length:Int) then (if (rd x0 x13)=(rd x1 x13) then (slices_Equal_byte_byte.l0 k x0 x1 x12 (wrap64 (x13 + 1))) else (some false)) else (none)) else (none)) else (none)) else (some true)
def slices_Equal_byte_byte.f (k:Nat) (l0:List Int) (l1:List Int):Option (Bool):=if (l0.length:Int)=(l1.length:Int) then (slices_Equal_byte_byte.l0 k l0 l1 (l0.length:Int) 0) else (some false)
set_option maxHeartbeats 8000000 in
set_option maxRecDepth 100000 in
theorem slices_Equal_byte_byte.calls (k:Nat) (A0:Option Addr) (c0:Nat) (l0:List Int) (A1:Option Addr) (c1:Nat) (l1:List Int) (r:Bool) (w:World) (hr0:Kd.C (Kd.int .u8) w A0 l0.length l0) (hc0:l0.length≤c0) (hr1:Kd.C (Kd.int .u8) w A1 l1.length l1) (hc1:l1.length≤c1) (h:slices_Equal_byte_byte.f k l0 l1=some r) :
  Calls Try.prog 33 #[.slice A0 l0.length c0,.slice A1 l1.length c1] w fun e w'=>e=.returned (.bool r)∧Drawn0 w w':=by
 have HR0:=zm hr0
 have HC0:=zm hc0
 clear hr0 hc0
 have HR1:=zm hr1
 have HC1:=zm hc1
 clear hr1 hc1
 have H:(if (l0.length:Int)=(l1.length:Int) then (slices_Equal_byte_byte.l0 k l0 l1 (l0.length:Int) 0) else (some false))=some r:=h
 clear h
 by_cases c3:(l0.length:Int)=(l1.length:Int)
 ·rw [if_pos c3] at H
  have c3b0:((l0.length:Int) == (l1.length:Int))=true:=beq_iff_eq.mpr c3
  have c3b1:((l0.length:Int) != (l1.length:Int))=false:=bne_eq_false_iff_eq.mpr c3
  have c3b2:(l0.length == l1.length)=true:=by first|simpa using c3|(simp at c3 ⊢;omega)
  clear c3
  have H':=zm H
  clear H
  go_enter Try.func33,Try.ntmps33
  go_wp2
  repeat (go_quiet (fail);try go_wp2)
  go_loopg [13] k (fun kq v13 w'=>∃ (x13_1:Int),v13=.int .i64 x13_1∧Aside0 (slices_Equal_byte_byte.l0 kq l0 l1 (l0.length:Int) x13_1=some r)∧Aside0 (kq≤k)∧Drawn0 w w')
  case atStart=>exact ⟨(0),(by first|rfl|(simp;done)|(simp [*];done)),H',⟨Nat.le_refl _⟩,by repeat (first|exact Drawn0.refl _|apply Drawn0.step)⟩
  case round =>
   clear H'
   try clear c1
   try clear p2
   try clear c3
   try clear c3b0
   try clear c3b1
   try clear c3b2
   obtain ⟨x13_1,rfl,HA,HK1,⟨m1,rfl⟩⟩:=hrel
   cases gk with
   | zero=>exact absurd HA.out (by simp [slices_Equal_byte_byte.l0])
   | succ k1 =>
    have H:=HA.out
    clear HA
    simp only [slices_Equal_byte_byte.l0] at H
    by_cases c4:x13_1 < (l0.length:Int)
    ·rw [if_pos c4] at H
     have c4b0:decide (x13_1 < (l0.length:Int))=true:=decide_eq_true c4
     clear c4
     by_cases c5:0≤x13_1
     ·rw [if_pos c5] at H
      have c5b0:decide (0≤x13_1)=true:=decide_eq_true c5
      clear c5
      by_cases c6:x13_1 < (l0.length:Int)
      ·rw [if_pos c6] at H
       have c6b0:decide (x13_1 < (l0.length:Int))=true:=decide_eq_true c6
       clear c6
       by_cases c7:x13_1 < (l1.length:Int)
       ·rw [if_pos c7] at H
        have c7b0:decide (x13_1 < (l1.length:Int))=true:=decide_eq_true c7
        clear c7
        by_cases c8:(rd l0 x13_1)=(rd l1 x13_1)
        ·rw [if_pos c8] at H
         have c8b0:((rd l0 x13_1) == (rd l1 x13_1))=true:=beq_iff_eq.mpr c8
         have c8b1:((rd l0 x13_1) != (rd l1 x13_1))=false:=bne_eq_false_iff_eq.mpr c8
         clear c8
         have H':=zm H
         clear H
         have p157:0≤(x13_1:Int):=of_decide_eq_true (by first|(with_reducible assumption)|assumption)
         have q157:x13_1 < (l0.length:Int):=of_decide_eq_true (by first|(with_reducible assumption)|assumption)
         obtain ⟨ad157,e157,hx157_0⟩:=Kd.at_int HR0.out x13_1 p157 q157
         cases e157
         replace p157:=eq_true p157
         replace q157:=eq_true q157
         have p158:0≤(x13_1:Int):=of_decide_eq_true (by first|(with_reducible assumption)|assumption)
         have q158:x13_1 < (l1.length:Int):=of_decide_eq_true (by first|(with_reducible assumption)|assumption)
         obtain ⟨ad158,e158,hx158_0⟩:=Kd.at_int HR1.out x13_1 p158 q158
         cases e158
         replace p158:=eq_true p158
         replace q158:=eq_true q158
         go_wp2
         repeat (go_quiet (fail);try go_wp2)
         go_roundg k1
         case measure=>have:=HK1.out;omega
         case rel=>exact ⟨(wrap64 (x13_1 + 1)),(by first|rfl|(simp;done)|(simp [*];done)),H',⟨by have:=HK1.out;omega⟩,by repeat (first|exact Drawn0.refl _|apply Drawn0.step)⟩
        ·rw [if_neg c8] at H
         have c8b0:((rd l0 x13_1) == (rd l1 x13_1))=false:=beq_eq_false_iff_ne.mpr c8
         have c8b1:((rd l0 x13_1) != (rd l1 x13_1))=true:=bne_iff_ne.mpr c8
         obtain rfl:=Option.some.inj H
         have p157:0≤(x13_1:Int):=of_decide_eq_true (by first|(with_reducible assumption)|assumption)
         have q157:x13_1 < (l0.length:Int):=of_decide_eq_true (by first|(with_reducible assumption)|assumption)
         obtain ⟨ad157,e157,hx157_0⟩:=Kd.at_int HR0.out x13_1 p157 q157
         cases e157
         replace p157:=eq_true p157
         replace q157:=eq_true q157
         have p158:0≤(x13_1:Int):=of_decide_eq_true (by first|(with_reducible assumption)|assumption)
         have q158:x13_1 < (l1.length:Int):=of_decide_eq_true (by first|(with_reducible assumption)|assumption)
         obtain ⟨ad158,e158,hx158_0⟩:=Kd.at_int HR1.out x13_1 p158 q158
         cases e158
         replace p158:=eq_true p158
         replace q158:=eq_true q158
         go_wp2
         repeat (go_quiet (fail);try go_wp2)
         go_ret
         exact ⟨by first|rfl|(simp;done)|(simp [*];done),by repeat (first|exact Drawn0.refl _|apply Drawn0.step)⟩
       ·rw [if_neg c7] at H
        exact absurd H (by simp)
      ·rw [if_neg c6] at H
       exact absurd H (by simp)
     ·rw [if_neg c5] at H
      exact absurd H (by simp)
    ·rw [if_neg c4] at H
     have c4b0:decide (x13_1 < (l0.length:Int))=false:=decide_eq_false c4
     clear c4
     obtain rfl:=Option.some.inj H
     go_wp2
     repeat (go_quiet (fail);try go_wp2)
     go_ret
     exact ⟨by first|rfl|(simp;done)|(simp [*];done),by repeat (first|exact Drawn0.refl _|apply Drawn0.step)⟩
 ·rw [if_neg c3] at H
  have c3b0:((l0.length:Int) == (l1.length:Int))=false:=beq_eq_false_iff_ne.mpr c3
  have c3b1:((l0.length:Int) != (l1.length:Int))=true:=bne_iff_ne.mpr c3
  have c3b2:(l0.length == l1.length)=false:=by first|simpa using c3|(simp at c3 ⊢;omega)
  obtain rfl:=Option.some.inj H
  go_enter Try.func33,Try.ntmps33
  go_wp2
  repeat (go_quiet (fail);try go_wp2)
  go_ret
  exact ⟨by first|rfl|(simp;done)|(simp [*];done),by repeat (first|exact Drawn0.refl _|apply Drawn0.step)⟩
end Go.Proofs.Ytjoojmodghpimaa.Print
end
section
namespace Go.Proofs.Ytjoojmodghpimaa.Print
open Go.RowKit Go.Proofs.YtjoojmodghpimaaW.PrintWords Go.Proofs.YtjoojmodghpimaaW.PrintLast Go.Proofs.YtjoojmodghpimaaW.PrintMore
attribute [local go_sem] max2_int min2_int max_two min_two max_three min_three max_four min_four   -- for this text's walks alone
attribute [local go_sem ↓] Go.Proofs.Ytjoojmodghpimaa.Sem.isSome_setCell
attribute [local go_sem] Go.Instr.field Go.asAgg
set_option linter.unusedVariables false
set_option linter.unusedSimpArgs false
-- CX
def inode_Decode.go (k:Nat) (b:List Int):Nat → Nat → List S51 → Option (List S51)
 | 0,_,r=>some r
 | d + 1,i,r=>(seal_Unpack.f k [24,16,32] ((b.take (24 + (i + 1) * 9)).drop (24 + i * 9))).bind fun p=>if p.2=0 then (if p.1.length=3 then inode_Decode.go k b d (i + 1) (r ++ [⟨wrap64 (rd p.1 0),wrap64 (rd p.1 1),wrap64 (rd p.1 2)⟩]) else none) else none
def inode_Decode.f (k:Nat) (l0:List Int):Option (Int × Int × Int × Int × Int × Int × (List (S51)) × Int) :=
 if l0.length=64 then
 (seal_Width.f k [8,8,8,8,32,64,32,32]).bind fun n=>if n=(24,0) then (seal_Width.f k [24,16,32]).bind fun s=>if s=(9,0) then
 (seal_Unpack.f k [8,8,8,8,32,64,32,32] (l0.take 24)).bind fun l=>if l.2=0 then if l.1.length=8 then
 if rd l.1 2 > 4 then some (0,0,0,0,0,0,[],140) else if rd l.1 5 > 16777216 then some (0,0,0,0,0,0,[],140) else
 if 0≤rd l.1 2 then
 (inode_Decode.go k l0 (rd l.1 2).toNat 0 []).bind fun r =>
 (inode_Encode.f k (wrap64 (rd l.1 0)) (wrap64 (rd l.1 4)) (wrap64 (rd l.1 5)) (wrap64 (rd l.1 6)) (wrap64 (rd l.1 7)) (wrap64 (rd l.1 1)) r).bind fun p=>if p.2=0 then
 (slices_Equal_byte_byte.f k p.1 l0).bind fun t=>if t=true then some (wrap64 (rd l.1 0),wrap64 (rd l.1 4),wrap64 (rd l.1 5),wrap64 (rd l.1 6),wrap64 (rd l.1 7),wrap64 (rd l.1 1),r,0) else some (0,0,0,0,0,0,[],140)
 else some (0,0,0,0,0,0,[],140)
 else none else none else none else none else none
 else some (0,0,0,0,0,0,[],140)
section
variable {ops : Array Oper} {rest : List Oper} {o : Oper} {a : Act} {Q : Exit → Act → World → Prop} {W : World} {g : Nat} {p : Operand} {x0 x1 x2 x3 x4 x5 x6 : Value}
theorem ID_st7 {x:Operand} {n0 n1 n2 n3 n4 n5:Int} {A:Option Addr} {n c:Nat} (hop:o.op=.store 24 p x) (hp:a.eval p=.pointer (some ⟨g,0,none⟩)) (hx:a.eval x=.agg #[.int .i64 n0,.int .i64 n1,.int .i64 n2,.int .i64 n3,.int .i64 n4,.int .i64 n5,.slice A n c]) (hb:W.heap[g]?=some (.cells #[x0,x1,x2,x3,x4,x5,x6] 24 (0,0))) :
  (execOp a.eval o).run Try.prog W=.ok .skip (Cw.setL W g 0 [.int .i64 n0,.int .i64 n1,.int .i64 n2,.int .i64 n3,.int .i64 n4,.int .i64 n5,.slice A n c]):=by
 have hu:=Try.underlying24
 have c0:W.cell? ⟨g,0,none⟩=some x0:=(blk_cell hb 0).trans rfl
 have c1:W.cell? ⟨g,1,none⟩=some x1:=(blk_cell hb 1).trans rfl
 have c2:W.cell? ⟨g,2,none⟩=some x2:=(blk_cell hb 2).trans rfl
 have c3:W.cell? ⟨g,3,none⟩=some x3:=(blk_cell hb 3).trans rfl
 have c4:W.cell? ⟨g,4,none⟩=some x4:=(blk_cell hb 4).trans rfl
 have c5:W.cell? ⟨g,5,none⟩=some x5:=(blk_cell hb 5).trans rfl
 have c6:W.cell? ⟨g,6,none⟩=some x6:=(blk_cell hb 6).trans rfl
 have f0:=blk_frozen hb 0
 have f1:=blk_frozen hb 1
 have f2:=blk_frozen hb 2
 have f3:=blk_frozen hb 3
 have f4:=blk_frozen hb 4
 have f5:=blk_frozen hb 5
 have f6:=blk_frozen hb 6
 simp only [execOp,hop,hp,hx]
 go_simp
 rfl
theorem ID_mid {α:Type} {d:Kd α} (hs:d.sz=1) {w:World} {A:Option Addr} {xs:List α} {lo hi c:Nat} (h:d.C w A xs.length xs) (h1:lo≤hi) (h2:hi≤xs.length) (hc:xs.length≤c):d.C w (if c=lo then A else A.map (fun x=>x.add lo)) ((xs.take hi).drop lo).length ((xs.take hi).drop lo):=by
 have:=Kd.C_mid (c:=c) h h1 h2 hc
 rw [hs,Nat.mul_one] at this
 exact this
theorem ID_lo {j:Nat} (h:(j:Int)≤3):wrap64 (24 + wrap64 ((j:Int) * 9))=((24 + j * 9:Nat):Int):=by unfold wrap64;omega
theorem ID_hi {j:Nat} (h:(j:Int)≤3):wrap64 (24 + wrap64 (wrap64 ((j:Int) + 1) * 9))=((24 + (j + 1) * 9:Nat):Int):=by unfold wrap64;omega
theorem ID_cut {s x y:Operand} {A0:Option Addr} {n c0:Nat} {lo hi:Int} (hop:o.op=.slice 25 s (some x) (some y) none) (hs:a.eval s=.slice A0 n c0) (hx:a.eval x=.int .i64 lo) (hy:a.eval y=.int .i64 hi) (h0:0≤lo) (h1:lo≤hi) (h2:hi≤(c0:Int)) :
  (execOp a.eval o).run Try.prog W=.ok (.value (.slice (if c0=lo.toNat then A0 else A0.map (·.add (lo.toNat * 1))) (hi.toNat - lo.toNat) (c0 - lo.toNat))) W:=by
 obtain ⟨i0,hi0,hzz⟩:=Option.map_eq_some_iff.1 info5
 simp only [Prod.mk.injEq] at hzz
 have hel:Try.prog.elem 25=5:=by simp [Program.elem,Try.underlying25]
 have hu:Try.prog.underlying 25=some (.slice (Try.prog.elem 25)):=by rw [hel];exact Try.underlying25
 have h:=run_slice_lh W 25 A0 n c0 hu .i64 .i64 lo hi h0 h1 h2
 rw [hel] at h
 generalize hE:a.eval=ev at hs hx hy ⊢
 simp only [execOp,hop,hs,hx,hy,Option.map_some,Option.map_none]
 have hs':=(run_sliceAt_slice (P:=Try.prog) (w:=W) 25 (.slice A0 n c0) (some (.int .i64 lo)) (some (.int .i64 hi)) none hu).trans h
 simp [hs',sizeOf,typeInfo,hi0,hzz.2.1,sliced,Result.andThen]
theorem ID_add0 (ad:Addr):ad.add 0=ad:=by unfold Addr.add;simp
theorem ID_u64 {ad:Addr} {n i:Nat} {xs:List Int} (hop:o.op=.load 58 p) (hp:a.eval p=.pointer (some ⟨ad.block,ad.off + i,none⟩)) (hC:(Kd.int .u64).C W (some ad) n xs) (h1:i < n) (h0:0 < i):(execOp a.eval o).run Try.prog W=.ok (.value (.int .u64 (rd xs (i:Int)))) W:=by
 obtain ⟨ad',e,hc⟩:=Kd.at_int hC (i:Int) (by omega) (by omega)
 obtain rfl:=Option.some.inj e
 have ha:=add_field ad 0 i h0
 rw [ID_add0,Nat.zero_add] at ha
 rw [Int.toNat_natCast,ha] at hc
 simp only [execOp,hop,hp]
 go_simp
theorem ID_u64z {ad:Addr} {n:Nat} {xs:List Int} (hop:o.op=.load 58 p) (hp:a.eval p=.pointer (some ad)) (hC:(Kd.int .u64).C W (some ad) n xs) (h1:0 < n):(execOp a.eval o).run Try.prog W=.ok (.value (.int .u64 (rd xs 0))) W:=by
 obtain ⟨ad',e,hc⟩:=Kd.at_int hC 0 (by omega) (by omega)
 obtain rfl:=Option.some.inj e
 have e0:(0:Int).toNat=0:=rfl
 rw [e0,ID_add0] at hc
 simp only [execOp,hop,hp]
 go_simp
end
theorem ID_unpack (k:Nat) (A0:Option Addr) (c0 n0:Nat) (l0:List Int) (A1:Option Addr) (c1 n1:Nat) (l1:List Int) (r1:List Int) (r2:Int) (w:World) (e0:l0.length=n0) (e1:l1.length=n1) (hr0:Kd.C (Kd.int .i64) w A0 l0.length l0) (hc0:l0.length≤c0) (hr1:Kd.C (Kd.int .u8) w A1 l1.length l1) (hc1:l1.length≤c1) (h:seal_Unpack.f k l0 l1=some (r1,r2)) :
  Calls Try.prog 32 #[.slice A0 n0 c0,.slice A1 n1 c1] w fun e w'=>∃ (A:Option Addr) (c:Nat),e=.returned (.tuple #[.slice A r1.length c,.int .i64 r2])∧r1.length≤c∧Kd.C (Kd.int .u64) w' A r1.length r1∧Below w.heap.size w w':=by
 subst e0 e1
 refine (seal_Unpack.calls k A0 c0 l0 A1 c1 l1 r1 r2 w hr0 hc0 hr1 hc1 h).mono ?_
 rintro e w' ⟨v,rfl,ho,hb⟩
 obtain ⟨A,c,rfl,hl,hC⟩:=Kd.R_reads ho
 exact ⟨A,c,rfl,hl,hC,hb⟩
theorem ID_new24 {o:Oper} {a:Act} {W:World} (hop:o.op=.alloc 24) :
  (execOp a.eval o).run Try.prog W=.ok (.value (.pointer (some ⟨W.heap.size,0,none⟩))) (W.alloc (.cells #[.int .i64 0,.int .i64 0,.int .i64 0,.int .i64 0,.int .i64 0,.int .i64 0,.slice none 0 0] 24 (0,0))):=by
 simp only [execOp,hop]
 go_simp
theorem ID_lit1 {o:Oper} {a:Act} {W:World} {y:Operand} {n0 n1 n2:Int} (hop:o.op=.buildSlice 22 1 #[(0,y)]) (hy:a.eval y=.agg #[.int .i64 n0,.int .i64 n1,.int .i64 n2]) :
  (execOp a.eval o).run Try.prog W=.ok (.value (.slice (some ⟨W.heap.size,0,none⟩) 1 1)) (W.alloc (.cells #[.int .i64 n0,.int .i64 n1,.int .i64 n2] 51 (0,0))):=by
 generalize hE:a.eval=ev at hy ⊢
 simp only [execOp,hop]
 go_simp
theorem ID_st1 {o:Oper} {a:Act} {W:World} {g n c:Nat} {A:Option Addr} {p x:Operand} {x0 x1 x2 x3 x4 x5 x6:Value} (hop:o.op=.store 22 p x) (hp:a.eval p=.pointer (some ⟨g,6,none⟩)) (hx:a.eval x=.slice A n c) (hb:W.heap[g]?=some (.cells #[x0,x1,x2,x3,x4,x5,x6] 24 (0,0))) :
  (execOp a.eval o).run Try.prog W=.ok .skip (W.setCell ⟨g,6,none⟩ (.slice A n c)):=by
 have c6:W.cell? ⟨g,6,none⟩=some x6:=(blk_cell hb 6).trans rfl
 have f6:=blk_frozen hb 6
 simp only [execOp,hop,hp,hx]
 go_simp
theorem ID_meas {j:Nat} {m:Int} (hm:(j:Int) < m):m.toNat - (intOf (.int .i64 ((j:Int) + 1))).toNat < m.toNat - (intOf (.int .i64 (j:Int))).toNat:=by
 simp only [intOf,Int.toNat_natCast]
 omega
theorem ID_R1 {w wd:World} {g t:Nat} {x:S51} (hB:w.heap[g]?=some (.cells #[.int .i64 x.f0,.int .i64 x.f1,.int .i64 x.f2] t (0,0))):ReadsRow (k51.K wd) k51.sz w (some ⟨g,0,none⟩) 1 [x]:=by
 refine ⟨rfl,by omega,fun _=>⟨_,rfl,fun j p hj=>?_⟩⟩
 rcases j with _|j
 ·cases hj
  refine ⟨[.int .i64 x.f0,.int .i64 x.f1,.int .i64 x.f2],rfl,k51_mk _ _,fun i u hu=>?_⟩
  show w.cell? ((⟨g,0,none⟩:Addr).add (0 * 3 + i))=_
  rw [Nat.zero_mul,Nat.zero_add,add_plain,blk_cell hB]
  simpa using hu
 ·simp at hj
set_option maxHeartbeats 4000000 in
set_option maxRecDepth 100000 in
theorem inode_Decode.calls (k:Nat) (A0:Option Addr) (c0:Nat) (l0:List Int) (r1:Int) (r2:Int) (r3:Int) (r4:Int) (r5:Int) (r6:Int) (r7:List (S51)) (r8:Int) (w:World) (hr0:Kd.C (Kd.int .u8) w A0 l0.length l0) (hc0:l0.length≤c0) (h:inode_Decode.f k l0=some (r1,r2,r3,r4,r5,r6,r7,r8)) :
  Calls Try.prog 9 #[.slice A0 l0.length c0] w fun e w'=>∃ v6_:Value,e=.returned (.tuple #[.agg #[.int .i64 r1,.int .i64 r2,.int .i64 r3,.int .i64 r4,.int .i64 r5,.int .i64 r6,v6_],.int .i64 r8])∧Kd.R k51 51 w' w.heap.size (fun _=>True) v6_ r7∧Below w.heap.size w w':=by
 have hu24:=Try.underlying24
 have H:inode_Decode.f k l0=some (r1,r2,r3,r4,r5,r6,r7,r8):=h
 clear h
 unfold inode_Decode.f at H
 by_cases hl:l0.length=64
 ·rw [if_pos hl] at H
  have hg_:=Option.bind_eq_some_iff.mp H;clear H;obtain ⟨n,F1,H⟩:=hg_;have hh_:=zm F1;clear F1;have F1:=hh_;clear hh_;(try dsimp only at H);have hg_:=Cw.gt_ H;clear H;obtain ⟨rfl,H⟩:=hg_;have hg_:=Option.bind_eq_some_iff.mp H;clear H;obtain ⟨s,F2,H⟩:=hg_;have hh_:=zm F2;clear F2;have F2:=hh_;clear hh_;(try dsimp only at H);have hg_:=Cw.gt_ H;clear H;obtain ⟨rfl,H⟩:=hg_;have hg_:=Option.bind_eq_some_iff.mp H;clear H;obtain ⟨⟨l1,e⟩,F3,H⟩:=hg_;have hh_:=zm F3;clear F3;have F3:=hh_;clear hh_;(try dsimp only at H);have hg_:=Cw.gt_ H;clear H;obtain ⟨rfl,H⟩:=hg_;have hg_:=Cw.gt_ H;clear H;obtain ⟨hl8,H⟩:=hg_
  have h64:((l0.length:Int) != 64)=false:=by rw [hl];rfl
  have hc24:(24:Int)≤(c0:Int):=by omega
  have hh_:=zm hr0;clear hr0;have hr0:=hh_;clear hh_;have hh_:=zm hc0;clear hc0;have hc0:=hh_;clear hh_;have hh_:=zm H;clear H;have H:=hh_;clear hh_;have hh_:=zm hl;clear hl;have hl:=hh_;clear hh_;have hh_:=zm hl8;clear hl8;have hl8:=hh_;clear hh_
  go_enter Try.func9,Try.ntmps9
  go_wp2_with (first|((with_reducible refine gate_dst (N:=2) rfl ?_);refine box_event rfl (N:=2) rfl (by first|(go_simp;done)|(go_simp;rfl)) ?_;rintro g2 hg wc hbk hb;have hg2:Aside0 (w.heap.size≤g2):=⟨Nat.le_of_eq hg.symm⟩;clear hg;have hh_:=zm hbk;clear hbk;have hbk:=hh_;clear hh_;have hh_:=zm hb;clear hb;have hb:=hh_;clear hh_)|(go_at_call 28;refine (inode_headWidths.calls _).mono ?_;rintro e w1 ⟨rfl,hb⟩;have hh_:=zm hb;clear hb;have hb:=hh_;clear hh_)|(go_at_call 29;refine (inode_rootWidths.calls _).mono ?_;rintro e w1 ⟨rfl,hb⟩;have hh_:=zm hb;clear hb;have hb:=hh_;clear hh_)|((with_reducible refine gate_ (.alloc 52) rfl ?_);refine box_event rfl rfl (by first|(go_simp;done)|(go_simp;rfl)) ?_;rintro gh hg w1 hbk hb;have hge:Aside0 (wc.heap.size≤gh):=⟨Nat.le_trans (below_size (by repeat (first|exact Below.refl _ _|with_reducible apply zlN|with_reducible apply zlA|refine below_step ?_ (Aside0.out (by assumption))))) (Nat.le_of_eq hg.symm)⟩; clear hg;have hh_:=zm hbk;clear hbk;have hbk:=hh_;clear hh_;have hh_:=zm hb;clear hb;have hb:=hh_;clear hh_)|((with_reducible refine gate_ (.alloc 54) rfl ?_);refine box_event rfl rfl (by first|(go_simp;done)|(go_simp;rfl)) ?_;rintro gr hg w1 hbk hb;have hge:Aside0 (wc.heap.size≤gr):=⟨Nat.le_trans (below_size (by repeat (first|exact Below.refl _ _|with_reducible apply zlN|with_reducible apply zlA|refine below_step ?_ (Aside0.out (by assumption))))) (Nat.le_of_eq hg.symm)⟩;have hne:Aside0 (gr≠gh):=⟨by rw [hg];exact Nat.ne_of_gt (blk_lt (g:=gh) (o:=Obj.cells #[.int .i64 0,.int .i64 0,.int .i64 0,.int .i64 0,.int .i64 0,.int .i64 0,.int .i64 0,.int .i64 0] 52 (0,0)) (zbB (Aside0.out (by assumption)) (by repeat (first|exact Below.refl _ _|with_reducible apply zlN|with_reducible apply zlA|refine below_step ?_ (Aside0.out (by assumption))))))⟩;clear hg;have hh_:=zm hbk;clear hbk;have hbk:=hh_;clear hh_;have hh_:=zm hb;clear hb;have hb:=hh_;clear hh_)|((with_reducible refine gate_ (.store 52 _ _) rfl ?_);refine Cw.put_event (g:=gh) (ys:=[.int .i64 8,.int .i64 8,.int .i64 8,.int .i64 8,.int .i64 32,.int .i64 64,.int .i64 32,.int .i64 32]) rfl rfl rfl (by apply IE_st8;exact rfl;exact rfl;exact rfl;exact (show _=some (Obj.cells #[.int .i64 0,.int .i64 0,.int .i64 0,.int .i64 0,.int .i64 0,.int .i64 0,.int .i64 0,.int .i64 0] 52 (0,0)) from (zbB (Aside0.out (by assumption)) (by repeat (first|exact Below.refl _ _|with_reducible apply zlN|with_reducible apply zlA|refine below_step ?_ (Aside0.out (by assumption))))))) ?_;rintro w2 hw2;have hb2:Aside0 (Below wc.heap.size wc w2):=⟨by rw [hw2];exact Cw.setL_below (Aside0.out (by assumption)) _ _ _ (by repeat (first|exact Below.refl _ _|with_reducible apply zlN|with_reducible apply zlA|refine below_step ?_ (Aside0.out (by assumption))))⟩;have hh8:Aside0 (w2.heap[gh]?=some (.cells #[.int .i64 8,.int .i64 8,.int .i64 8,.int .i64 8,.int .i64 32,.int .i64 64,.int .i64 32,.int .i64 32] 52 (0,0))):=⟨by rw [hw2];exact Cw.setL_full [.int .i64 8,.int .i64 8,.int .i64 8,.int .i64 8,.int .i64 32,.int .i64 64,.int .i64 32,.int .i64 32] (show _=some (Obj.cells #[.int .i64 0,.int .i64 0,.int .i64 0,.int .i64 0,.int .i64 0,.int .i64 0,.int .i64 0,.int .i64 0] 52 (0,0)) from (zbB (Aside0.out (by assumption)) (by repeat (first|exact Below.refl _ _|with_reducible apply zlN|with_reducible apply zlA|refine below_step ?_ (Aside0.out (by assumption)))))) rfl⟩;have hr3:Aside0 (w2.heap[gr]?=some (.cells #[.int .i64 0,.int .i64 0,.int .i64 0] 54 (0,0))):=⟨by rw [hw2,Cw.setL_far hne.out];exact (zbB (Aside0.out (by assumption)) (by repeat (first|exact Below.refl _ _|with_reducible apply zlN|with_reducible apply zlA|refine below_step ?_ (Aside0.out (by assumption)))))⟩;clear hw2)|((with_reducible refine gate_ (.store 54 _ _) rfl ?_);refine Cw.put_event (g:=gr) (ys:=[.int .i64 24,.int .i64 16,.int .i64 32]) rfl rfl rfl (by apply IE_st3;exact rfl;exact rfl;exact rfl;exact hr3.out) ?_;rintro w3 hw3;have hb3:Aside0 (Below wc.heap.size wc w3):=⟨by rw [hw3];exact Cw.setL_below (Aside0.out (by assumption)) _ _ _ hb2.out⟩;have hr3':Aside0 (w3.heap[gr]?=some (.cells #[.int .i64 24,.int .i64 16,.int .i64 32] 54 (0,0))):=⟨by rw [hw3];exact Cw.setL_full [.int .i64 24,.int .i64 16,.int .i64 32] hr3.out rfl⟩;have hh8':Aside0 (w3.heap[gh]?=some (.cells #[.int .i64 8,.int .i64 8,.int .i64 8,.int .i64 8,.int .i64 32,.int .i64 64,.int .i64 32,.int .i64 32] 52 (0,0))):=⟨by rw [hw3,Cw.setL_far (fun e=>hne.out e.symm)];exact hh8.out⟩;clear hw3 hr3 hh8 hb2))
  (refine (seal_Width.calls k _ 8 [8,8,8,8,32,64,32,32] 24 0 _ (Cw.C_ints (zbB (Aside0.out (by assumption)) (by repeat (first|exact Below.refl _ _|with_reducible apply zlN|with_reducible apply zlA|refine below_step ?_ (Aside0.out (by assumption))))) rfl (by simp)) (by simp) F1.out).mono ?_;rintro e w1 ⟨rfl,hd⟩;have hb:=Drawn0.below hd;clear hd;have hh_:=zm hb;clear hb;have hb:=hh_;clear hh_)
  go_wp2_with fail
  (refine (seal_Width.calls k _ 3 [24,16,32] 9 0 _ (Cw.C_ints (zbB (Aside0.out (by assumption)) (by repeat (first|exact Below.refl _ _|with_reducible apply zlN|with_reducible apply zlA|refine below_step ?_ (Aside0.out (by assumption))))) rfl (by simp)) (by simp) F2.out).mono ?_;rintro e w1 ⟨rfl,hd⟩;have hb:=Drawn0.below hd;clear hd;have hh_:=zm hb;clear hb;have hb:=hh_;clear hh_)
  go_wp2_with fail
  refine Cw.dstart (by as_aux_lemma=>kernel_rfl) rfl (fun wd hb=>?_)
  have hh_:=zm hb;clear hb;have hb:=hh_;clear hh_
  refine Cw.dpu (i:=0) (v:=?_) (a':=?_) (by simp only [List.getElem?_toArray,List.getElem?_cons_succ,List.getElem?_cons_zero];rfl) rfl (by as_aux_lemma=>kernel_rfl) (by rfl) (by exact fun _ _ _ h=>h) ?_ ?_ ?_
  rotate_left
  ·intro w'
   go_simp
   with_reducible rfl
  rotate_left
  ·simp only [Act.put,List.setIfInBounds_toArray,List.set_cons_zero,List.set_cons_succ,i64_w,i32_w]
   rfl
  refine Cw.dpu (i:=1) (v:=?_) (a':=?_) (by simp only [List.getElem?_toArray,List.getElem?_cons_succ,List.getElem?_cons_zero];rfl) rfl (by as_aux_lemma=>kernel_rfl) (by rfl) (by exact fun _ _ _ h=>h) ?_ ?_ ?_
  rotate_left
  ·intro w'
   go_simp
   with_reducible rfl
  rotate_left
  ·simp only [Act.put,List.setIfInBounds_toArray,List.set_cons_zero,List.set_cons_succ,i64_w,i32_w]
   rfl
  refine Cw.dpu (i:=2) (v:=?_) (a':=?_) (by simp only [List.getElem?_toArray,List.getElem?_cons_succ,List.getElem?_cons_zero];rfl) rfl (by as_aux_lemma=>kernel_rfl) (by rfl) (by exact fun _ _ _ h=>h) ?_ ?_ ?_
  rotate_left
  ·intro w'
   go_simp
   with_reducible rfl
  rotate_left
  ·simp only [Act.put,List.setIfInBounds_toArray,List.set_cons_zero,List.set_cons_succ,i64_w,i32_w]
   rfl
  refine Cw.dpu (i:=3) (v:=?_) (a':=?_) (by simp only [List.getElem?_toArray,List.getElem?_cons_succ,List.getElem?_cons_zero];rfl) rfl (by as_aux_lemma=>kernel_rfl) (by rfl) (by exact fun _ _ _ h=>h) ?_ ?_ ?_
  rotate_left
  ·intro w'
   go_simp
   with_reducible rfl
  rotate_left
  ·simp only [Act.put,List.setIfInBounds_toArray,List.set_cons_zero,List.set_cons_succ,i64_w,i32_w]
   rfl
  refine Cw.done1 (i:=4) (N:=some 39) (by simp only [List.getElem?_toArray,List.getElem?_cons_succ,List.getElem?_cons_zero];rfl) rfl (by as_aux_lemma=>kernel_rfl) (fun K hK=>?_)
  refine goes_ Try.func32 (by as_aux_lemma=>kernel_rfl) rfl _ (by rfl) rfl rfl (by go_simp;rfl) ?_
  refine (ID_unpack k _ 8 8 [8,8,8,8,32,64,32,32] _ c0 24 (l0.take 24) l1 0 _ rfl (by rw [List.length_take];have:=hl.out;omega) (Cw.C_ints (zbB (Aside0.out (by assumption)) (by repeat (first|exact Below.refl _ _|with_reducible apply zlN|with_reducible apply zlA|refine below_step ?_ (Aside0.out (by assumption))))) rfl (by simp)) (by simp) (Kd.C_take (m:=24) (Kd.C_below (Aside0.out (by assumption)) (by repeat (first|exact Below.refl _ _|with_reducible apply zlN|with_reducible apply zlA|refine below_step ?_ (Aside0.out (by assumption))))) (by have:=hl.out;omega)) (by rw [List.length_take];have:=hl.out;omega) F3.out).mono ?_
  rintro e w1 ⟨A1,c1,rfl,hc1,hr1,hb⟩
  obtain ⟨ad1,rfl,_⟩:=hr1.2.2 (by rw [hl8.out];omega)
  rw [hl8.out] at hr1 hc1 ⊢
  have hh_:=zm hc1;clear hc1;have hc1:=hh_;clear hh_;have hh_:=zm hr1;clear hr1;have hr1:=hh_;clear hh_;have hh_:=zm hb;clear hb;have hb:=hh_;clear hh_
  refine ⟨_,rfl,?_⟩
  refine hK.out _ _ (by repeat (first|exact Below.refl _ _|with_reducible apply zlN|with_reducible apply zlA|refine below_step ?_ (Aside0.out (by assumption)))) (fun _=>?_)
  clear hK K
  refine norm_ (a':=?_) ?_ ?_
  rotate_left
  ·show Act.put _ (some 39) _=_
   simp only [Act.put,List.setIfInBounds_toArray,List.set_cons_zero,List.set_cons_succ,i64_w,i32_w]
   rfl
  refine Cw.dpu (i:=5) (v:=?_) (a':=?_) (by simp only [List.getElem?_toArray,List.getElem?_cons_succ,List.getElem?_cons_zero];rfl) rfl (by as_aux_lemma=>kernel_rfl) (by rfl) (by exact fun _ _ _ h=>h) ?_ ?_ ?_
  rotate_left
  ·intro w'
   go_simp
   with_reducible rfl
  rotate_left
  ·simp only [Act.put,List.setIfInBounds_toArray,List.set_cons_zero,List.set_cons_succ,i64_w,i32_w]
   rfl
  refine Cw.dpu (i:=6) (v:=?_) (a':=?_) (by simp only [List.getElem?_toArray,List.getElem?_cons_succ,List.getElem?_cons_zero];rfl) rfl (by as_aux_lemma=>kernel_rfl) (by rfl) (by exact fun _ _ _ h=>h) ?_ ?_ ?_
  rotate_left
  ·intro w'
   go_simp
   with_reducible rfl
  rotate_left
  ·simp only [Act.put,List.setIfInBounds_toArray,List.set_cons_zero,List.set_cons_succ,i64_w,i32_w]
   rfl
  refine Cw.dpu (i:=7) (v:=?_) (a':=?_) (by simp only [List.getElem?_toArray,List.getElem?_cons_succ,List.getElem?_cons_zero];rfl) rfl (by as_aux_lemma=>kernel_rfl) (by rfl) (by exact fun _ _ _ h=>h) ?_ ?_ ?_
  rotate_left
  ·intro w'
   go_simp
   with_reducible rfl
  rotate_left
  ·simp only [Act.put,List.setIfInBounds_toArray,List.set_cons_zero,List.set_cons_succ,i64_w,i32_w]
   rfl
  refine Cw.dpu (i:=8) (v:=?_) (a':=?_) (by simp only [List.getElem?_toArray,List.getElem?_cons_succ,List.getElem?_cons_zero];rfl) rfl (by as_aux_lemma=>kernel_rfl) (by rfl) (by exact fun _ _ _ h=>h) ?_ ?_ ?_
  rotate_left
  ·intro w'
   go_simp
   with_reducible rfl
  rotate_left
  ·simp only [Act.put,List.setIfInBounds_toArray,List.set_cons_zero,List.set_cons_succ,i64_w,i32_w]
   rfl
  refine Cw.dpu (i:=9) (v:=?_) (a':=?_) (by simp only [List.getElem?_toArray,List.getElem?_cons_succ,List.getElem?_cons_zero];rfl) rfl (by as_aux_lemma=>kernel_rfl) (by rfl) (by exact fun _ _ _ h=>h) ?_ ?_ ?_
  rotate_left
  ·intro w'
   go_simp
   with_reducible rfl
  rotate_left
  ·simp only [Act.put,List.setIfInBounds_toArray,List.set_cons_zero,List.set_cons_succ,i64_w,i32_w]
   rfl
  refine done_ (by as_aux_lemma=>kernel_rfl) ?_
  have H:=H.out
  by_cases hq:rd l1 2 > 4
  ·rw [if_pos hq] at H
   simp only [Option.some.injEq,Prod.mk.injEq] at H
   obtain ⟨rfl,rfl,rfl,rfl,rfl,rfl,rfl,rfl⟩:=H
   have hq4:decide (4 < rd l1 2)=true:=decide_eq_true hq
   clear hq
   go_wp2_with (first|((with_reducible refine gate_ (.load 58 _) rfl ?_);refine Kd.event_run rfl (by apply ID_u64;exact rfl;exact rfl;exact (Kd.C_below (Aside0.out (by assumption)) (by repeat (first|exact Below.refl _ _|with_reducible apply zlN|with_reducible apply zlA|refine below_step ?_ (Aside0.out (by assumption)))));omega;omega) ?_)|((with_reducible refine Cw.guarded rfl ?gw ?_);(case gw=>first|rfl|(go_simp;done));dsimp only)|((with_reducible refine gate_ (.store 24 (.tmp 2) _) rfl ?_);refine Cw.put_event (g:=g2) (ys:=[.int .i64 0,.int .i64 0,.int .i64 0,.int .i64 0,.int .i64 0,.int .i64 0,.slice none 0 0]) rfl rfl rfl (by apply ID_st7;exact rfl;exact rfl;exact rfl;exact (zbB (Aside0.out (by assumption)) (by repeat (first|exact Below.refl _ _|with_reducible apply zlN|with_reducible apply zlA|refine below_step ?_ (Aside0.out (by assumption)))))) ?_;rintro w2 hw2;have hb2:Aside0 (Below w.heap.size w w2):=⟨by rw [hw2];exact Cw.setL_below hg2.out _ _ _ (by repeat (first|exact Below.refl _ _|with_reducible apply zlN|with_reducible apply zlA|refine below_step ?_ (Aside0.out (by assumption))))⟩;have hzz:Aside0 (w2.heap[g2]?=some (.cells #[.int .i64 0,.int .i64 0,.int .i64 0,.int .i64 0,.int .i64 0,.int .i64 0,.slice none 0 0] 24 (0,0))):=⟨by rw [hw2];exact Cw.setL_full [.int .i64 0,.int .i64 0,.int .i64 0,.int .i64 0,.int .i64 0,.int .i64 0,.slice none 0 0] (zbB (Aside0.out (by assumption)) (by repeat (first|exact Below.refl _ _|with_reducible apply zlN|with_reducible apply zlA|refine below_step ?_ (Aside0.out (by assumption))))) rfl⟩;clear hw2))
   refine bodyPost_ret (results_ct rfl _ _ g2 24 #[.int .i64 0,.int .i64 0,.int .i64 0,.int .i64 0,.int .i64 0,.int .i64 0,.slice none 0 0] (0,0) _ rfl hzz.out Try.underlying24 rfl (by kernel_rfl)) rfl ?_
   exact ⟨_,rfl,Kd.R_nil _ _ _ _ _,hb2.out⟩
  ·rw [if_neg hq] at H
   have hq4:decide (4 < rd l1 2)=false:=decide_eq_false hq
   have hqm:rd l1 2≤4:=by omega
   clear hq
   by_cases hr:rd l1 5 > 16777216
   ·rw [if_pos hr] at H
    simp only [Option.some.injEq,Prod.mk.injEq] at H
    obtain ⟨rfl,rfl,rfl,rfl,rfl,rfl,rfl,rfl⟩:=H
    have hr4:decide (16777216 < rd l1 5)=true:=decide_eq_true hr
    clear hr
    go_wp2_with (first|((with_reducible refine gate_ (.load 58 _) rfl ?_);refine Kd.event_run rfl (by apply ID_u64;exact rfl;exact rfl;exact (Kd.C_below (Aside0.out (by assumption)) (by repeat (first|exact Below.refl _ _|with_reducible apply zlN|with_reducible apply zlA|refine below_step ?_ (Aside0.out (by assumption)))));omega;omega) ?_)|((with_reducible refine Cw.guarded rfl ?gw ?_);(case gw=>first|rfl|(go_simp;done));dsimp only)|((with_reducible refine gate_ (.store 24 (.tmp 2) _) rfl ?_);refine Cw.put_event (g:=g2) (ys:=[.int .i64 0,.int .i64 0,.int .i64 0,.int .i64 0,.int .i64 0,.int .i64 0,.slice none 0 0]) rfl rfl rfl (by apply ID_st7;exact rfl;exact rfl;exact rfl;exact (zbB (Aside0.out (by assumption)) (by repeat (first|exact Below.refl _ _|with_reducible apply zlN|with_reducible apply zlA|refine below_step ?_ (Aside0.out (by assumption)))))) ?_;rintro w2 hw2;have hb2:Aside0 (Below w.heap.size w w2):=⟨by rw [hw2];exact Cw.setL_below hg2.out _ _ _ (by repeat (first|exact Below.refl _ _|with_reducible apply zlN|with_reducible apply zlA|refine below_step ?_ (Aside0.out (by assumption))))⟩;have hzz:Aside0 (w2.heap[g2]?=some (.cells #[.int .i64 0,.int .i64 0,.int .i64 0,.int .i64 0,.int .i64 0,.int .i64 0,.slice none 0 0] 24 (0,0))):=⟨by rw [hw2];exact Cw.setL_full [.int .i64 0,.int .i64 0,.int .i64 0,.int .i64 0,.int .i64 0,.int .i64 0,.slice none 0 0] (zbB (Aside0.out (by assumption)) (by repeat (first|exact Below.refl _ _|with_reducible apply zlN|with_reducible apply zlA|refine below_step ?_ (Aside0.out (by assumption))))) rfl⟩;clear hw2))
    refine bodyPost_ret (results_ct rfl _ _ g2 24 #[.int .i64 0,.int .i64 0,.int .i64 0,.int .i64 0,.int .i64 0,.int .i64 0,.slice none 0 0] (0,0) _ rfl hzz.out Try.underlying24 rfl (by kernel_rfl)) rfl ?_
    exact ⟨_,rfl,Kd.R_nil _ _ _ _ _,hb2.out⟩
   ·rw [if_neg hr] at H
    have hr4:decide (16777216 < rd l1 5)=false:=decide_eq_false hr
    clear hr
    have hg_:=Cw.gt_ H;clear H;obtain ⟨hm0,H⟩:=hg_;have hg_:=Option.bind_eq_some_iff.mp H;clear H;obtain ⟨root,F4,H⟩:=hg_;have hh_:=zm F4;clear F4;have F4:=hh_;clear hh_;(try dsimp only at H);have hg_:=Option.bind_eq_some_iff.mp H;clear H;obtain ⟨⟨pb,pe⟩,F5,H⟩:=hg_;have hh_:=zm F5;clear F5;have F5:=hh_;clear hh_;(try dsimp only at H)
    have HO:=zm H;clear H;have hh_:=zm hqm;clear hqm;have hqm:=hh_;clear hh_;have hh_:=zm hm0;clear hm0;have hm0:=hh_;clear hh_
    go_wp2_with (first|((with_reducible refine gate_ (.load 58 _) rfl ?_);refine Kd.event_run rfl (by apply ID_u64;exact rfl;exact rfl;exact (Kd.C_below (Aside0.out (by assumption)) (by repeat (first|exact Below.refl _ _|with_reducible apply zlN|with_reducible apply zlA|refine below_step ?_ (Aside0.out (by assumption)))));omega;omega) ?_)|((with_reducible refine Cw.guarded rfl ?gw ?_);(case gw=>first|rfl|(go_simp;done));dsimp only))
    refine Cw.dstart (by as_aux_lemma=>kernel_rfl) rfl (fun wd hb=>?_)
    have hh_:=zm hb;clear hb;have hb:=hh_;clear hh_
    refine Cw.dpu (i:=0) (v:=?_) (a':=?_) (by simp only [List.getElem?_toArray,List.getElem?_cons_succ,List.getElem?_cons_zero];rfl) rfl (by as_aux_lemma=>kernel_rfl) (by rfl) (by exact fun _ _ _ h=>h) ?_ ?_ ?_
    rotate_left
    ·intro w'
     go_simp
     with_reducible rfl
    rotate_left
    ·simp only [Act.put,List.setIfInBounds_toArray,List.set_cons_zero,List.set_cons_succ,i64_w,i32_w]
     rfl
    refine Cw.dpu (i:=1) (v:=?_) (a':=?_) (by simp only [List.getElem?_toArray,List.getElem?_cons_succ,List.getElem?_cons_zero];rfl) rfl (by as_aux_lemma=>kernel_rfl) (by rfl) (by exact fun _ _ _ h=>h) ?_ ?_ ?_
    rotate_left
    ·intro w'
     go_simp
     with_reducible rfl
    rotate_left
    ·simp only [Act.put,List.setIfInBounds_toArray,List.set_cons_zero,List.set_cons_succ,i64_w,i32_w]
     rfl
    refine Cw.dtk (i:=2) (v:=?_) (a':=?_) (by simp only [List.getElem?_toArray,List.getElem?_cons_succ,List.getElem?_cons_zero];rfl) rfl (by as_aux_lemma=>kernel_rfl) (by rfl) (by exact fun _ _ _ h=>h) ?_ (by repeat (first|exact Below.refl _ _|with_reducible apply zlN|with_reducible apply zlA|refine below_step ?_ (Aside0.out (by assumption)))) ?_ ?_
    rotate_left
    ·intro w' hs_
     have hs:=zm hs_
     clear hs_
     apply Eq.trans
     ·apply ID_u64z
      ·rfl
      ·rfl
      ·exact (Kd.C_below (Aside0.out (by assumption)) (by repeat (first|exact Below.refl _ _|with_reducible apply zlN|with_reducible apply zlA|refine below_step ?_ (Aside0.out (by assumption)))))
      ·omega
     ·rfl
    rotate_left
    ·simp only [Act.put,List.setIfInBounds_toArray,List.set_cons_zero,List.set_cons_succ,i64_w,i32_w]
     rfl
    refine Cw.dpu (i:=3) (v:=?_) (a':=?_) (by simp only [List.getElem?_toArray,List.getElem?_cons_succ,List.getElem?_cons_zero];rfl) rfl (by as_aux_lemma=>kernel_rfl) (by rfl) (by exact fun _ _ _ h=>h) ?_ ?_ ?_
    rotate_left
    ·intro w'
     go_simp
     with_reducible rfl
    rotate_left
    ·simp only [Act.put,List.setIfInBounds_toArray,List.set_cons_zero,List.set_cons_succ,i64_w,i32_w]
     rfl
    refine Cw.dpu (i:=4) (v:=?_) (a':=?_) (by simp only [List.getElem?_toArray,List.getElem?_cons_succ,List.getElem?_cons_zero];rfl) rfl (by as_aux_lemma=>kernel_rfl) (by rfl) (by exact fun _ _ _ h=>h) ?_ ?_ ?_
    rotate_left
    ·intro w'
     go_simp
     with_reducible rfl
    rotate_left
    ·simp only [Act.put,List.setIfInBounds_toArray,List.set_cons_zero,List.set_cons_succ,i64_w,i32_w]
     rfl
    refine Cw.dpu (i:=5) (v:=?_) (a':=?_) (by simp only [List.getElem?_toArray,List.getElem?_cons_succ,List.getElem?_cons_zero];rfl) rfl (by as_aux_lemma=>kernel_rfl) (by rfl) (by exact fun _ _ _ h=>h) ?_ ?_ ?_
    rotate_left
    ·intro w'
     go_simp
     with_reducible rfl
    rotate_left
    ·simp only [Act.put,List.setIfInBounds_toArray,List.set_cons_zero,List.set_cons_succ,i64_w,i32_w]
     rfl
    refine Cw.dtk (i:=6) (v:=?_) (a':=?_) (by simp only [List.getElem?_toArray,List.getElem?_cons_succ,List.getElem?_cons_zero];rfl) rfl (by as_aux_lemma=>kernel_rfl) (by rfl) (by exact fun _ _ _ h=>h) ?_ (by repeat (first|exact Below.refl _ _|with_reducible apply zlN|with_reducible apply zlA|refine below_step ?_ (Aside0.out (by assumption)))) ?_ ?_
    rotate_left
    ·intro w' hs_
     have hs:=zm hs_
     clear hs_
     apply Eq.trans
     ·apply ID_u64
      ·rfl
      ·rfl
      ·exact (Kd.C_below (Aside0.out (by assumption)) (by repeat (first|exact Below.refl _ _|with_reducible apply zlN|with_reducible apply zlA|refine below_step ?_ (Aside0.out (by assumption)))))
      ·omega
      ·omega
     ·rfl
    rotate_left
    ·simp only [Act.put,List.setIfInBounds_toArray,List.set_cons_zero,List.set_cons_succ,i64_w,i32_w]
     rfl
    refine Cw.dpu (i:=7) (v:=?_) (a':=?_) (by simp only [List.getElem?_toArray,List.getElem?_cons_succ,List.getElem?_cons_zero];rfl) rfl (by as_aux_lemma=>kernel_rfl) (by rfl) (by exact fun _ _ _ h=>h) ?_ ?_ ?_
    rotate_left
    ·intro w'
     go_simp
     with_reducible rfl
    rotate_left
    ·simp only [Act.put,List.setIfInBounds_toArray,List.set_cons_zero,List.set_cons_succ,i64_w,i32_w]
     rfl
    refine Cw.dpu (i:=8) (v:=?_) (a':=?_) (by simp only [List.getElem?_toArray,List.getElem?_cons_succ,List.getElem?_cons_zero];rfl) rfl (by as_aux_lemma=>kernel_rfl) (by rfl) (by exact fun _ _ _ h=>h) ?_ ?_ ?_
    rotate_left
    ·intro w'
     go_simp
     with_reducible rfl
    rotate_left
    ·simp only [Act.put,List.setIfInBounds_toArray,List.set_cons_zero,List.set_cons_succ,i64_w,i32_w]
     rfl
    refine Cw.dpu (i:=9) (v:=?_) (a':=?_) (by simp only [List.getElem?_toArray,List.getElem?_cons_succ,List.getElem?_cons_zero];rfl) rfl (by as_aux_lemma=>kernel_rfl) (by rfl) (by exact fun _ _ _ h=>h) ?_ ?_ ?_
    rotate_left
    ·intro w'
     go_simp
     with_reducible rfl
    rotate_left
    ·simp only [Act.put,List.setIfInBounds_toArray,List.set_cons_zero,List.set_cons_succ,i64_w,i32_w]
     rfl
    refine Cw.dtk (i:=10) (v:=?_) (a':=?_) (by simp only [List.getElem?_toArray,List.getElem?_cons_succ,List.getElem?_cons_zero];rfl) rfl (by as_aux_lemma=>kernel_rfl) (by rfl) (by exact fun _ _ _ h=>h) ?_ (by repeat (first|exact Below.refl _ _|with_reducible apply zlN|with_reducible apply zlA|refine below_step ?_ (Aside0.out (by assumption)))) ?_ ?_
    rotate_left
    ·intro w' hs_
     have hs:=zm hs_
     clear hs_
     apply Eq.trans
     ·apply ID_u64
      ·rfl
      ·rfl
      ·exact (Kd.C_below (Aside0.out (by assumption)) (by repeat (first|exact Below.refl _ _|with_reducible apply zlN|with_reducible apply zlA|refine below_step ?_ (Aside0.out (by assumption)))))
      ·omega
      ·omega
     ·rfl
    rotate_left
    ·simp only [Act.put,List.setIfInBounds_toArray,List.set_cons_zero,List.set_cons_succ,i64_w,i32_w]
     rfl
    refine Cw.dpu (i:=11) (v:=?_) (a':=?_) (by simp only [List.getElem?_toArray,List.getElem?_cons_succ,List.getElem?_cons_zero];rfl) rfl (by as_aux_lemma=>kernel_rfl) (by rfl) (by exact fun _ _ _ h=>h) ?_ ?_ ?_
    rotate_left
    ·intro w'
     go_simp
     with_reducible rfl
    rotate_left
    ·simp only [Act.put,List.setIfInBounds_toArray,List.set_cons_zero,List.set_cons_succ,i64_w,i32_w]
     rfl
    refine Cw.dpu (i:=12) (v:=?_) (a':=?_) (by simp only [List.getElem?_toArray,List.getElem?_cons_succ,List.getElem?_cons_zero];rfl) rfl (by as_aux_lemma=>kernel_rfl) (by rfl) (by exact fun _ _ _ h=>h) ?_ ?_ ?_
    rotate_left
    ·intro w'
     go_simp
     with_reducible rfl
    rotate_left
    ·simp only [Act.put,List.setIfInBounds_toArray,List.set_cons_zero,List.set_cons_succ,i64_w,i32_w]
     rfl
    refine Cw.dpu (i:=13) (v:=?_) (a':=?_) (by simp only [List.getElem?_toArray,List.getElem?_cons_succ,List.getElem?_cons_zero];rfl) rfl (by as_aux_lemma=>kernel_rfl) (by rfl) (by exact fun _ _ _ h=>h) ?_ ?_ ?_
    rotate_left
    ·intro w'
     go_simp
     with_reducible rfl
    rotate_left
    ·simp only [Act.put,List.setIfInBounds_toArray,List.set_cons_zero,List.set_cons_succ,i64_w,i32_w]
     rfl
    refine Cw.dtk (i:=14) (v:=?_) (a':=?_) (by simp only [List.getElem?_toArray,List.getElem?_cons_succ,List.getElem?_cons_zero];rfl) rfl (by as_aux_lemma=>kernel_rfl) (by rfl) (by exact fun _ _ _ h=>h) ?_ (by repeat (first|exact Below.refl _ _|with_reducible apply zlN|with_reducible apply zlA|refine below_step ?_ (Aside0.out (by assumption)))) ?_ ?_
    rotate_left
    ·intro w' hs_
     have hs:=zm hs_
     clear hs_
     apply Eq.trans
     ·apply ID_u64
      ·rfl
      ·rfl
      ·exact (Kd.C_below (Aside0.out (by assumption)) (by repeat (first|exact Below.refl _ _|with_reducible apply zlN|with_reducible apply zlA|refine below_step ?_ (Aside0.out (by assumption)))))
      ·omega
      ·omega
     ·rfl
    rotate_left
    ·simp only [Act.put,List.setIfInBounds_toArray,List.set_cons_zero,List.set_cons_succ,i64_w,i32_w]
     rfl
    refine Cw.dpu (i:=15) (v:=?_) (a':=?_) (by simp only [List.getElem?_toArray,List.getElem?_cons_succ,List.getElem?_cons_zero];rfl) rfl (by as_aux_lemma=>kernel_rfl) (by rfl) (by exact fun _ _ _ h=>h) ?_ ?_ ?_
    rotate_left
    ·intro w'
     go_simp
     with_reducible rfl
    rotate_left
    ·simp only [Act.put,List.setIfInBounds_toArray,List.set_cons_zero,List.set_cons_succ,i64_w,i32_w]
     rfl
    refine Cw.dpu (i:=16) (v:=?_) (a':=?_) (by simp only [List.getElem?_toArray,List.getElem?_cons_succ,List.getElem?_cons_zero];rfl) rfl (by as_aux_lemma=>kernel_rfl) (by rfl) (by exact fun _ _ _ h=>h) ?_ ?_ ?_
    rotate_left
    ·intro w'
     go_simp
     with_reducible rfl
    rotate_left
    ·simp only [Act.put,List.setIfInBounds_toArray,List.set_cons_zero,List.set_cons_succ,i64_w,i32_w]
     rfl
    refine Cw.dpu (i:=17) (v:=?_) (a':=?_) (by simp only [List.getElem?_toArray,List.getElem?_cons_succ,List.getElem?_cons_zero];rfl) rfl (by as_aux_lemma=>kernel_rfl) (by rfl) (by exact fun _ _ _ h=>h) ?_ ?_ ?_
    rotate_left
    ·intro w'
     go_simp
     with_reducible rfl
    rotate_left
    ·simp only [Act.put,List.setIfInBounds_toArray,List.set_cons_zero,List.set_cons_succ,i64_w,i32_w]
     rfl
    refine Cw.dtk (i:=18) (v:=?_) (a':=?_) (by simp only [List.getElem?_toArray,List.getElem?_cons_succ,List.getElem?_cons_zero];rfl) rfl (by as_aux_lemma=>kernel_rfl) (by rfl) (by exact fun _ _ _ h=>h) ?_ (by repeat (first|exact Below.refl _ _|with_reducible apply zlN|with_reducible apply zlA|refine below_step ?_ (Aside0.out (by assumption)))) ?_ ?_
    rotate_left
    ·intro w' hs_
     have hs:=zm hs_
     clear hs_
     apply Eq.trans
     ·apply ID_u64
      ·rfl
      ·rfl
      ·exact (Kd.C_below (Aside0.out (by assumption)) (by repeat (first|exact Below.refl _ _|with_reducible apply zlN|with_reducible apply zlA|refine below_step ?_ (Aside0.out (by assumption)))))
      ·omega
      ·omega
     ·rfl
    rotate_left
    ·simp only [Act.put,List.setIfInBounds_toArray,List.set_cons_zero,List.set_cons_succ,i64_w,i32_w]
     rfl
    refine Cw.dpu (i:=19) (v:=?_) (a':=?_) (by simp only [List.getElem?_toArray,List.getElem?_cons_succ,List.getElem?_cons_zero];rfl) rfl (by as_aux_lemma=>kernel_rfl) (by rfl) (by exact fun _ _ _ h=>h) ?_ ?_ ?_
    rotate_left
    ·intro w'
     go_simp
     with_reducible rfl
    rotate_left
    ·simp only [Act.put,List.setIfInBounds_toArray,List.set_cons_zero,List.set_cons_succ,i64_w,i32_w]
     rfl
    refine Cw.dpu (i:=20) (v:=?_) (a':=?_) (by simp only [List.getElem?_toArray,List.getElem?_cons_succ,List.getElem?_cons_zero];rfl) rfl (by as_aux_lemma=>kernel_rfl) (by rfl) (by exact fun _ _ _ h=>h) ?_ ?_ ?_
    rotate_left
    ·intro w'
     go_simp
     with_reducible rfl
    rotate_left
    ·simp only [Act.put,List.setIfInBounds_toArray,List.set_cons_zero,List.set_cons_succ,i64_w,i32_w]
     rfl
    refine Cw.dpu (i:=21) (v:=?_) (a':=?_) (by simp only [List.getElem?_toArray,List.getElem?_cons_succ,List.getElem?_cons_zero];rfl) rfl (by as_aux_lemma=>kernel_rfl) (by rfl) (by exact fun _ _ _ h=>h) ?_ ?_ ?_
    rotate_left
    ·intro w'
     go_simp
     with_reducible rfl
    rotate_left
    ·simp only [Act.put,List.setIfInBounds_toArray,List.set_cons_zero,List.set_cons_succ,i64_w,i32_w]
     rfl
    refine Cw.dtk (i:=22) (v:=?_) (a':=?_) (by simp only [List.getElem?_toArray,List.getElem?_cons_succ,List.getElem?_cons_zero];rfl) rfl (by as_aux_lemma=>kernel_rfl) (by rfl) (by exact fun _ _ _ h=>h) ?_ (by repeat (first|exact Below.refl _ _|with_reducible apply zlN|with_reducible apply zlA|refine below_step ?_ (Aside0.out (by assumption)))) ?_ ?_
    rotate_left
    ·intro w' hs_
     have hs:=zm hs_
     clear hs_
     apply Eq.trans
     ·apply ID_u64
      ·rfl
      ·rfl
      ·exact (Kd.C_below (Aside0.out (by assumption)) (by repeat (first|exact Below.refl _ _|with_reducible apply zlN|with_reducible apply zlA|refine below_step ?_ (Aside0.out (by assumption)))))
      ·omega
      ·omega
     ·rfl
    rotate_left
    ·simp only [Act.put,List.setIfInBounds_toArray,List.set_cons_zero,List.set_cons_succ,i64_w,i32_w]
     rfl
    refine Cw.dpu (i:=23) (v:=?_) (a':=?_) (by simp only [List.getElem?_toArray,List.getElem?_cons_succ,List.getElem?_cons_zero];rfl) rfl (by as_aux_lemma=>kernel_rfl) (by rfl) (by exact fun _ _ _ h=>h) ?_ ?_ ?_
    rotate_left
    ·intro w'
     go_simp
     with_reducible rfl
    rotate_left
    ·simp only [Act.put,List.setIfInBounds_toArray,List.set_cons_zero,List.set_cons_succ,i64_w,i32_w]
     rfl
    refine Cw.dpu (i:=24) (v:=?_) (a':=?_) (by simp only [List.getElem?_toArray,List.getElem?_cons_succ,List.getElem?_cons_zero];rfl) rfl (by as_aux_lemma=>kernel_rfl) (by rfl) (by exact fun _ _ _ h=>h) ?_ ?_ ?_
    rotate_left
    ·intro w'
     go_simp
     with_reducible rfl
    rotate_left
    ·simp only [Act.put,List.setIfInBounds_toArray,List.set_cons_zero,List.set_cons_succ,i64_w,i32_w]
     rfl
    refine Cw.done1 (i:=25) (N:=some 12) (by simp only [List.getElem?_toArray,List.getElem?_cons_succ,List.getElem?_cons_zero];rfl) rfl (by as_aux_lemma=>kernel_rfl) (fun K hK=>?_)
    refine Cw.dnew (fun g=>.pointer (some ⟨g,0,none⟩)) (by rfl) rfl (by apply ID_new24;rfl) ?_
    rintro gx hg w1 hbk hb
    have hge:Aside0 (wd.heap.size≤gx):=⟨Nat.le_trans (below_size (by repeat (first|exact Below.refl _ _|with_reducible apply zlN|with_reducible apply zlA|refine below_step ?_ (Aside0.out (by assumption))))) (Nat.le_of_eq hg.symm)⟩
    clear hg
    have hh_:=zm hbk;clear hbk;have hbk:=hh_;clear hh_;have hh_:=zm hb;clear hb;have hb:=hh_;clear hh_
    refine hK.out _ _ (by repeat (first|exact Below.refl _ _|with_reducible apply zlN|with_reducible apply zlA|refine below_step ?_ (Aside0.out (by assumption)))) (fun _=>?_)
    clear hK K
    refine norm_ (a':=?_) ?_ ?_
    rotate_left
    ·show Act.put _ (some 12) _=_
     simp only [Act.put,List.setIfInBounds_toArray,List.set_cons_zero,List.set_cons_succ,i64_w,i32_w]
     rfl
    refine Cw.done1 (i:=26) (N:=none) (by simp only [List.getElem?_toArray,List.getElem?_cons_succ,List.getElem?_cons_zero];rfl) rfl (by as_aux_lemma=>kernel_rfl) (fun K hK=>?_)
    refine Cw.dput (g:=gx) (ys:=[.int .i64 (wrap64 (rd l1 0)),.int .i64 (wrap64 (rd l1 4)),.int .i64 (wrap64 (rd l1 5)),.int .i64 (wrap64 (rd l1 6)),.int .i64 (wrap64 (rd l1 7)),.int .i64 (wrap64 (rd l1 1)),.slice none 0 0]) (by rfl) rfl ?_ ?_
    ·apply ID_st7
     ·rfl
     ·rfl
     ·rfl
     ·exact (zbB (Aside0.out (by assumption)) (by repeat (first|exact Below.refl _ _|with_reducible apply zlN|with_reducible apply zlA|refine below_step ?_ (Aside0.out (by assumption)))))
    rintro wx hwx
    have hb2:Aside0 (Below wd.heap.size wd wx):=⟨by rw [hwx];exact Cw.setL_below hge.out _ _ _ (by repeat (first|exact Below.refl _ _|with_reducible apply zlN|with_reducible apply zlA|refine below_step ?_ (Aside0.out (by assumption))))⟩
    have hbx:Aside0 (wx.heap[gx]?=some (.cells #[.int .i64 (wrap64 (rd l1 0)),.int .i64 (wrap64 (rd l1 4)),.int .i64 (wrap64 (rd l1 5)),.int .i64 (wrap64 (rd l1 6)),.int .i64 (wrap64 (rd l1 7)),.int .i64 (wrap64 (rd l1 1)),.slice none 0 0] 24 (0,0))):=⟨by rw [hwx];exact Cw.setL_full [.int .i64 (wrap64 (rd l1 0)),.int .i64 (wrap64 (rd l1 4)),.int .i64 (wrap64 (rd l1 5)),.int .i64 (wrap64 (rd l1 6)),.int .i64 (wrap64 (rd l1 7)),.int .i64 (wrap64 (rd l1 1)),.slice none 0 0] (show _=some (Obj.cells #[.int .i64 0,.int .i64 0,.int .i64 0,.int .i64 0,.int .i64 0,.int .i64 0,.slice none 0 0] 24 (0,0)) from (zbB (Aside0.out (by assumption)) (by repeat (first|exact Below.refl _ _|with_reducible apply zlN|with_reducible apply zlA|refine below_step ?_ (Aside0.out (by assumption)))))) rfl⟩
    clear hwx
    refine hK.out _ _ hb2.out (fun _=>?_)
    clear hK K
    refine done_ (by as_aux_lemma=>kernel_rfl) ?_
    have hqm:=hqm.out
    have hm0:=hm0.out
    go_wp2_with (first|((with_reducible refine gate_ (.load 58 _) rfl ?_);refine Kd.event_run rfl (by apply ID_u64;exact rfl;exact rfl;exact (Kd.C_below (Aside0.out (by assumption)) (by repeat (first|exact Below.refl _ _|with_reducible apply zlN|with_reducible apply zlA|refine below_step ?_ (Aside0.out (by assumption)))));omega;omega) ?_))
    go_loopw [86] (fun i wr=>∃ (j:Nat) (rt:List S51) (v:Value),i=.int .i64 (j:Int)∧Aside0 ((j:Int)≤rd l1 2)∧Aside0 (rt.length=j)∧Aside0 (inode_Decode.go k l0 ((rd l1 2).toNat - j) j rt=some root)∧Aside0 (wr.heap[gx]?=some (.cells #[.int .i64 (wrap64 (rd l1 0)),.int .i64 (wrap64 (rd l1 4)),.int .i64 (wrap64 (rd l1 5)),.int .i64 (wrap64 (rd l1 6)),.int .i64 (wrap64 (rd l1 7)),.int .i64 (wrap64 (rd l1 1)),v] 24 (0,0)))∧Aside0 (Kd.R k51 51 wr wd.heap.size (fun _=>True) v rt)∧Aside0 (Below wd.heap.size wd wr)) (fun i _=>(rd l1 2).toNat - (intOf i).toNat)
    case atStart=>exact ⟨0,[],_,by simp,⟨by omega⟩,⟨rfl⟩,⟨F4.out⟩,hbx,⟨Kd.R_nil _ _ _ _ _⟩,⟨(by repeat (first|exact Below.refl _ _|with_reducible apply zlN|with_reducible apply zlA|refine below_step ?_ (Aside0.out (by assumption))))⟩⟩
    case round =>
     obtain ⟨j,rt,v,rfl,hj,HL,HA,hbr,hR,hbw⟩:=hrel
     clear hbx
     by_cases hlt:(j:Int) < rd l1 2
     ·have hlen:=HL
      have H:=HA.out
      clear HA
      obtain ⟨d,hd⟩:∃ d,(rd l1 2).toNat - j=d + 1:=⟨(rd l1 2).toNat - j - 1,by omega⟩
      have hd':(rd l1 2).toNat - (j + 1)=d:=by omega
      rw [hd] at H
      simp only [inode_Decode.go] at H
      have hg_:=Option.bind_eq_some_iff.mp H;clear H;obtain ⟨⟨p,e⟩,G1,H⟩:=hg_;have hh_:=zm G1;clear G1;have G1:=hh_;clear hh_;(try dsimp only at H);have hg_:=Cw.gt_ H;clear H;obtain ⟨rfl,H⟩:=hg_;have hg_:=Cw.gt_ H;clear H;obtain ⟨hp3,H⟩:=hg_
      rw [← hd'] at H
      clear hd hd'
      have hh_:=zm H;clear H;have H:=hh_;clear hh_;have hh_:=zm hp3;clear hp3;have hp3:=hh_;clear hh_
      have hj3:(j:Int)≤3:=by omega
      go_wp2
      refine Cw.dstart (by as_aux_lemma=>kernel_rfl) rfl (fun we hb=>?_)
      have hh_:=zm hb;clear hb;have hb:=hh_;clear hh_
      refine Cw.dpu (i:=0) (v:=?_) (a':=?_) (by simp only [List.getElem?_toArray,List.getElem?_cons_succ,List.getElem?_cons_zero];rfl) rfl (by as_aux_lemma=>kernel_rfl) (by rfl) (by exact fun _ _ _ h=>h) ?_ ?_ ?_
      rotate_left
      ·intro w'
       go_simp
       with_reducible rfl
      rotate_left
      ·simp only [Act.put,List.setIfInBounds_toArray,List.set_cons_zero,List.set_cons_succ,i64_w,i32_w]
       rfl
      refine Cw.dpu (i:=1) (v:=?_) (a':=?_) (by simp only [List.getElem?_toArray,List.getElem?_cons_succ,List.getElem?_cons_zero];rfl) rfl (by as_aux_lemma=>kernel_rfl) (by rfl) (by exact fun _ _ _ h=>h) ?_ ?_ ?_
      rotate_left
      ·intro w'
       go_simp
       with_reducible rfl
      rotate_left
      ·simp only [Act.put,List.setIfInBounds_toArray,List.set_cons_zero,List.set_cons_succ,i64_w,i32_w]
       rfl
      refine Cw.dpu (i:=2) (v:=?_) (a':=?_) (by simp only [List.getElem?_toArray,List.getElem?_cons_succ,List.getElem?_cons_zero];rfl) rfl (by as_aux_lemma=>kernel_rfl) (by rfl) (by exact fun _ _ _ h=>h) ?_ ?_ ?_
      rotate_left
      ·intro w'
       go_simp
       with_reducible rfl
      rotate_left
      ·simp only [Act.put,List.setIfInBounds_toArray,List.set_cons_zero,List.set_cons_succ,i64_w,i32_w]
       rfl
      refine Cw.dpu (i:=3) (v:=?_) (a':=?_) (by simp only [List.getElem?_toArray,List.getElem?_cons_succ,List.getElem?_cons_zero];rfl) rfl (by as_aux_lemma=>kernel_rfl) (by rfl) (by exact fun _ _ _ h=>h) ?_ ?_ ?_
      rotate_left
      ·intro w'
       go_simp
       with_reducible rfl
      rotate_left
      ·simp only [Act.put,List.setIfInBounds_toArray,List.set_cons_zero,List.set_cons_succ,i64_w,i32_w]
       rfl
      refine Cw.dpu (i:=4) (v:=?_) (a':=?_) (by simp only [List.getElem?_toArray,List.getElem?_cons_succ,List.getElem?_cons_zero];rfl) rfl (by as_aux_lemma=>kernel_rfl) (by rfl) (by exact fun _ _ _ h=>h) ?_ ?_ ?_
      rotate_left
      ·intro w'
       go_simp
       with_reducible rfl
      rotate_left
      ·simp only [Act.put,List.setIfInBounds_toArray,List.set_cons_zero,List.set_cons_succ,i64_w,i32_w]
       rfl
      refine Cw.dpu (i:=5) (v:=?_) (a':=?_) (by simp only [List.getElem?_toArray,List.getElem?_cons_succ,List.getElem?_cons_zero];rfl) rfl (by as_aux_lemma=>kernel_rfl) (by rfl) (by exact fun _ _ _ h=>h) ?_ ?_ ?_
      rotate_left
      ·intro w'
       go_simp
       with_reducible rfl
      rotate_left
      ·simp only [Act.put,List.setIfInBounds_toArray,List.set_cons_zero,List.set_cons_succ,i64_w,i32_w]
       rfl
      refine Cw.dpu (i:=6) (v:=?_) (a':=?_) (by simp only [List.getElem?_toArray,List.getElem?_cons_succ,List.getElem?_cons_zero];rfl) rfl (by as_aux_lemma=>kernel_rfl) (by rfl) (by exact fun _ _ _ h=>h) ?_ ?_ ?_
      rotate_left
      ·intro w'
       go_simp
       with_reducible rfl
      rotate_left
      ·simp only [Act.put,List.setIfInBounds_toArray,List.set_cons_zero,List.set_cons_succ,i64_w,i32_w]
       rfl
      refine Cw.dpu (i:=7) (v:=?_) (a':=?_) (by simp only [List.getElem?_toArray,List.getElem?_cons_succ,List.getElem?_cons_zero];rfl) rfl (by as_aux_lemma=>kernel_rfl) (by rfl) (by exact fun _ _ _ h=>h) ?_ ?_ ?_
      rotate_left
      ·intro w'
       go_simp
       with_reducible rfl
      rotate_left
      ·simp only [Act.put,List.setIfInBounds_toArray,List.set_cons_zero,List.set_cons_succ,i64_w,i32_w]
       rfl
      refine Cw.dpu (i:=8) (v:=?_) (a':=?_) (by simp only [List.getElem?_toArray,List.getElem?_cons_succ,List.getElem?_cons_zero];rfl) rfl (by as_aux_lemma=>kernel_rfl) (by rfl) (by exact fun _ _ _ h=>h) ?_ ?_ ?_
      rotate_left
      ·intro w'
       go_simp
       with_reducible rfl
      rotate_left
      ·simp only [Act.put,List.setIfInBounds_toArray,List.set_cons_zero,List.set_cons_succ,i64_w,i32_w]
       rfl
      refine Cw.dpu (i:=9) (v:=?_) (a':=?_) (by simp only [List.getElem?_toArray,List.getElem?_cons_succ,List.getElem?_cons_zero];rfl) rfl (by as_aux_lemma=>kernel_rfl) (by rfl) (by exact fun _ _ _ h=>h) ?_ ?_ ?_
      rotate_left
      ·intro w'
       go_simp
       with_reducible rfl
      rotate_left
      ·simp only [Act.put,List.setIfInBounds_toArray,List.set_cons_zero,List.set_cons_succ,i64_w,i32_w]
       rfl
      refine Cw.dpu (i:=10) (v:=?_) (a':=?_) (by simp only [List.getElem?_toArray,List.getElem?_cons_succ,List.getElem?_cons_zero];rfl) rfl (by as_aux_lemma=>kernel_rfl) (by rfl) (by exact fun _ _ _ h=>h) ?_ ?_ ?_
      rotate_left
      ·intro w'
       go_simp
       with_reducible rfl
      rotate_left
      ·simp only [Act.put,List.setIfInBounds_toArray,List.set_cons_zero,List.set_cons_succ,i64_w,i32_w]
       rfl
      refine Cw.dpu (i:=11) (v:=?_) (a':=?_) (by simp only [List.getElem?_toArray,List.getElem?_cons_succ,List.getElem?_cons_zero];rfl) rfl (by as_aux_lemma=>kernel_rfl) (by rfl) (by exact fun _ _ _ h=>h) ?_ ?_ ?_
      rotate_left
      ·intro w'
       go_simp
       with_reducible rfl
      rotate_left
      ·simp only [Act.put,List.setIfInBounds_toArray,List.set_cons_zero,List.set_cons_succ,i64_w,i32_w]
       rfl
      refine Cw.dpu (i:=12) (v:=?_) (a':=?_) (by simp only [List.getElem?_toArray,List.getElem?_cons_succ,List.getElem?_cons_zero];rfl) rfl (by as_aux_lemma=>kernel_rfl) (by rfl) (by exact fun _ _ _ h=>h) ?_ ?_ ?_
      rotate_left
      ·intro w'
       go_simp
       with_reducible rfl
      rotate_left
      ·simp only [Act.put,List.setIfInBounds_toArray,List.set_cons_zero,List.set_cons_succ,i64_w,i32_w]
       rfl
      have hcap:(64:Int)≤(c0:Int):=by have:=hl.out;have:=hc0.out;omega
      refine Cw.dpu (i:=13) (v:=?_) (a':=?_) (by simp only [List.getElem?_toArray,List.getElem?_cons_succ,List.getElem?_cons_zero];rfl) rfl (by as_aux_lemma=>kernel_rfl) (by rfl) (by exact fun _ _ _ h=>h) ?_ ?_ ?_
      rotate_left
      ·intro w'
       apply Eq.trans
       ·apply ID_cut
        ·rfl
        ·rfl
        ·rfl
        ·rfl
        ·rw [ID_lo hj3];omega
        ·rw [ID_lo hj3,ID_hi hj3];omega
        ·rw [ID_hi hj3];omega
       ·rfl
      rotate_left
      ·simp only [Act.put,List.setIfInBounds_toArray,List.set_cons_zero,List.set_cons_succ,i64_w,i32_w]
       rfl
      refine Cw.done1 (i:=14) (N:=some 104) (by simp only [List.getElem?_toArray,List.getElem?_cons_succ,List.getElem?_cons_zero];rfl) rfl (by as_aux_lemma=>kernel_rfl) (fun K hK=>?_)
      refine goes_ Try.func32 (by as_aux_lemma=>kernel_rfl) rfl _ (by rfl) rfl rfl (by go_simp;rfl) ?_
      rw [ID_lo hj3,ID_hi hj3]
      simp only [Int.toNat_natCast]
      refine (ID_unpack k _ 3 3 [24,16,32] _ _ _ ((l0.take (24 + (j + 1) * 9)).drop (24 + j * 9)) p 0 _ rfl (by rw [List.length_drop,List.length_take];have:=hl.out;omega) (Cw.C_ints (zbB (Aside0.out (by assumption)) (by repeat (first|exact Below.refl _ _|with_reducible apply zlN|with_reducible apply zlA|refine below_step ?_ (Aside0.out (by assumption))))) rfl (by simp)) (by simp) (ID_mid rfl (Kd.C_below (Aside0.out (by assumption)) (by repeat (first|exact Below.refl _ _|with_reducible apply zlN|with_reducible apply zlA|refine below_step ?_ (Aside0.out (by assumption))))) (by omega) (by have:=hl.out;omega) hc0.out) (by rw [List.length_drop,List.length_take];have:=hl.out;omega) G1.out).mono ?_
      rintro e w1 ⟨A2,c2,rfl,hc2,hr2,hb⟩
      obtain ⟨ad2,rfl,_⟩:=hr2.2.2 (by rw [hp3.out];omega)
      rw [hp3.out] at hr2 hc2 ⊢
      have hh_:=zm hc2;clear hc2;have hc2:=hh_;clear hh_;have hh_:=zm hr2;clear hr2;have hr2:=hh_;clear hh_;have hh_:=zm hb;clear hb;have hb:=hh_;clear hh_
      refine ⟨_,rfl,?_⟩
      refine hK.out _ _ (by repeat (first|exact Below.refl _ _|with_reducible apply zlN|with_reducible apply zlA|refine below_step ?_ (Aside0.out (by assumption)))) (fun _=>?_)
      clear hK K
      refine norm_ (a':=?_) ?_ ?_
      rotate_left
      ·show Act.put _ (some 104) _=_
       simp only [Act.put,List.setIfInBounds_toArray,List.set_cons_zero,List.set_cons_succ,i64_w,i32_w]
       rfl
      refine Cw.dpu (i:=15) (v:=?_) (a':=?_) (by simp only [List.getElem?_toArray,List.getElem?_cons_succ,List.getElem?_cons_zero];rfl) rfl (by as_aux_lemma=>kernel_rfl) (by rfl) (by exact fun _ _ _ h=>h) ?_ ?_ ?_
      rotate_left
      ·intro w'
       go_simp
       with_reducible rfl
      rotate_left
      ·simp only [Act.put,List.setIfInBounds_toArray,List.set_cons_zero,List.set_cons_succ,i64_w,i32_w]
       rfl
      refine Cw.dpu (i:=16) (v:=?_) (a':=?_) (by simp only [List.getElem?_toArray,List.getElem?_cons_succ,List.getElem?_cons_zero];rfl) rfl (by as_aux_lemma=>kernel_rfl) (by rfl) (by exact fun _ _ _ h=>h) ?_ ?_ ?_
      rotate_left
      ·intro w'
       go_simp
       with_reducible rfl
      rotate_left
      ·simp only [Act.put,List.setIfInBounds_toArray,List.set_cons_zero,List.set_cons_succ,i64_w,i32_w]
       rfl
      refine Cw.dpu (i:=17) (v:=?_) (a':=?_) (by simp only [List.getElem?_toArray,List.getElem?_cons_succ,List.getElem?_cons_zero];rfl) rfl (by as_aux_lemma=>kernel_rfl) (by rfl) (by exact fun _ _ _ h=>h) ?_ ?_ ?_
      rotate_left
      ·intro w'
       go_simp
       with_reducible rfl
      rotate_left
      ·simp only [Act.put,List.setIfInBounds_toArray,List.set_cons_zero,List.set_cons_succ,i64_w,i32_w]
       rfl
      refine Cw.dpu (i:=18) (v:=?_) (a':=?_) (by simp only [List.getElem?_toArray,List.getElem?_cons_succ,List.getElem?_cons_zero];rfl) rfl (by as_aux_lemma=>kernel_rfl) (by rfl) (by exact fun _ _ _ h=>h) ?_ ?_ ?_
      rotate_left
      ·intro w'
       go_simp
       with_reducible rfl
      rotate_left
      ·simp only [Act.put,List.setIfInBounds_toArray,List.set_cons_zero,List.set_cons_succ,i64_w,i32_w]
       rfl
      refine Cw.dpu (i:=19) (v:=?_) (a':=?_) (by simp only [List.getElem?_toArray,List.getElem?_cons_succ,List.getElem?_cons_zero];rfl) rfl (by as_aux_lemma=>kernel_rfl) (by rfl) (by exact fun _ _ _ h=>h) ?_ ?_ ?_
      rotate_left
      ·intro w'
       go_simp
       with_reducible rfl
      rotate_left
      ·simp only [Act.put,List.setIfInBounds_toArray,List.set_cons_zero,List.set_cons_succ,i64_w,i32_w]
       rfl
      refine done_ (by as_aux_lemma=>kernel_rfl) ?_
      go_wp2
      refine Cw.dstartD [16,18] (by as_aux_lemma=>kernel_rfl) rfl (fun we hb=>?_)
      have hh_:=zm hb;clear hb;have hb:=hh_;clear hh_
      refine Cw.dpu (i:=0) (v:=?_) (a':=?_) (by simp only [List.getElem?_toArray,List.getElem?_cons_succ,List.getElem?_cons_zero];rfl) rfl (by as_aux_lemma=>kernel_rfl) (by rfl) (by exact fun _ _ _ h=>h) ?_ ?_ ?_
      rotate_left
      ·intro w'
       go_simp
       with_reducible rfl
      rotate_left
      ·simp only [Act.put,List.setIfInBounds_toArray,List.set_cons_zero,List.set_cons_succ,i64_w,i32_w]
       rfl
      refine Cw.dtkD (i:=1) (v:=?_) (a':=?_) (by simp only [List.getElem?_toArray,List.getElem?_cons_succ,List.getElem?_cons_zero];rfl) rfl (by as_aux_lemma=>kernel_rfl) (by rfl) (by exact fun _ _ _ h=>h) ?_ (by repeat (first|exact Below.refl _ _|with_reducible apply zlN|with_reducible apply zlA|refine below_step ?_ (Aside0.out (by assumption)))) ?_ ?_
      rotate_left
      ·intro w' hs_
       have hs:=zm hs_
       clear hs_
       apply Eq.trans
       ·apply IE_c22
        ·rfl
        ·rfl
        ·exact (zbB (Aside0.out (by assumption)) (by repeat (first|exact Below.refl _ _|with_reducible apply zlN|with_reducible apply zlA|refine below_step ?_ (Aside0.out (by assumption)))))
        ·rfl
       ·rfl
      rotate_left
      ·simp only [Act.put,List.setIfInBounds_toArray,List.set_cons_zero,List.set_cons_succ,i64_w,i32_w]
       rfl
      refine Cw.dpu (i:=2) (v:=?_) (a':=?_) (by simp only [List.getElem?_toArray,List.getElem?_cons_succ,List.getElem?_cons_zero];rfl) rfl (by as_aux_lemma=>kernel_rfl) (by rfl) (by exact fun _ _ _ h=>h) ?_ ?_ ?_
      rotate_left
      ·intro w'
       go_simp
       with_reducible rfl
      rotate_left
      ·simp only [Act.put,List.setIfInBounds_toArray,List.set_cons_zero,List.set_cons_succ,i64_w,i32_w]
       rfl
      refine Cw.dpu (i:=3) (v:=?_) (a':=?_) (by simp only [List.getElem?_toArray,List.getElem?_cons_succ,List.getElem?_cons_zero];rfl) rfl (by as_aux_lemma=>kernel_rfl) (by rfl) (by exact fun _ _ _ h=>h) ?_ ?_ ?_
      rotate_left
      ·intro w'
       go_simp
       with_reducible rfl
      rotate_left
      ·simp only [Act.put,List.setIfInBounds_toArray,List.set_cons_zero,List.set_cons_succ,i64_w,i32_w]
       rfl
      refine Cw.dtkD (i:=4) (v:=?_) (a':=?_) (by simp only [List.getElem?_toArray,List.getElem?_cons_succ,List.getElem?_cons_zero];rfl) rfl (by as_aux_lemma=>kernel_rfl) (by rfl) (by exact fun _ _ _ h=>h) ?_ (by repeat (first|exact Below.refl _ _|with_reducible apply zlN|with_reducible apply zlA|refine below_step ?_ (Aside0.out (by assumption)))) ?_ ?_
      rotate_left
      ·intro w' hs_
       have hs:=zm hs_
       clear hs_
       apply Eq.trans
       ·apply ID_u64z
        ·rfl
        ·rfl
        ·exact (Kd.C_below (Aside0.out (by assumption)) (by repeat (first|exact Below.refl _ _|with_reducible apply zlN|with_reducible apply zlA|refine below_step ?_ (Aside0.out (by assumption)))))
        ·omega
       ·rfl
      rotate_left
      ·simp only [Act.put,List.setIfInBounds_toArray,List.set_cons_zero,List.set_cons_succ,i64_w,i32_w]
       rfl
      refine Cw.dpu (i:=5) (v:=?_) (a':=?_) (by simp only [List.getElem?_toArray,List.getElem?_cons_succ,List.getElem?_cons_zero];rfl) rfl (by as_aux_lemma=>kernel_rfl) (by rfl) (by exact fun _ _ _ h=>h) ?_ ?_ ?_
      rotate_left
      ·intro w'
       go_simp
       with_reducible rfl
      rotate_left
      ·simp only [Act.put,List.setIfInBounds_toArray,List.set_cons_zero,List.set_cons_succ,i64_w,i32_w]
       rfl
      refine Cw.dpu (i:=6) (v:=?_) (a':=?_) (by simp only [List.getElem?_toArray,List.getElem?_cons_succ,List.getElem?_cons_zero];rfl) rfl (by as_aux_lemma=>kernel_rfl) (by rfl) (by exact fun _ _ _ h=>h) ?_ ?_ ?_
      rotate_left
      ·intro w'
       go_simp
       with_reducible rfl
      rotate_left
      ·simp only [Act.put,List.setIfInBounds_toArray,List.set_cons_zero,List.set_cons_succ,i64_w,i32_w]
       rfl
      refine Cw.dpu (i:=7) (v:=?_) (a':=?_) (by simp only [List.getElem?_toArray,List.getElem?_cons_succ,List.getElem?_cons_zero];rfl) rfl (by as_aux_lemma=>kernel_rfl) (by rfl) (by exact fun _ _ _ h=>h) ?_ ?_ ?_
      rotate_left
      ·intro w'
       go_simp
       with_reducible rfl
      rotate_left
      ·simp only [Act.put,List.setIfInBounds_toArray,List.set_cons_zero,List.set_cons_succ,i64_w,i32_w]
       rfl
      refine Cw.dtkD (i:=8) (v:=?_) (a':=?_) (by simp only [List.getElem?_toArray,List.getElem?_cons_succ,List.getElem?_cons_zero];rfl) rfl (by as_aux_lemma=>kernel_rfl) (by rfl) (by exact fun _ _ _ h=>h) ?_ (by repeat (first|exact Below.refl _ _|with_reducible apply zlN|with_reducible apply zlA|refine below_step ?_ (Aside0.out (by assumption)))) ?_ ?_
      rotate_left
      ·intro w' hs_
       have hs:=zm hs_
       clear hs_
       apply Eq.trans
       ·apply ID_u64
        ·rfl
        ·rfl
        ·exact (Kd.C_below (Aside0.out (by assumption)) (by repeat (first|exact Below.refl _ _|with_reducible apply zlN|with_reducible apply zlA|refine below_step ?_ (Aside0.out (by assumption)))))
        ·omega
        ·omega
       ·rfl
      rotate_left
      ·simp only [Act.put,List.setIfInBounds_toArray,List.set_cons_zero,List.set_cons_succ,i64_w,i32_w]
       rfl
      refine Cw.dpu (i:=9) (v:=?_) (a':=?_) (by simp only [List.getElem?_toArray,List.getElem?_cons_succ,List.getElem?_cons_zero];rfl) rfl (by as_aux_lemma=>kernel_rfl) (by rfl) (by exact fun _ _ _ h=>h) ?_ ?_ ?_
      rotate_left
      ·intro w'
       go_simp
       with_reducible rfl
      rotate_left
      ·simp only [Act.put,List.setIfInBounds_toArray,List.set_cons_zero,List.set_cons_succ,i64_w,i32_w]
       rfl
      refine Cw.dpu (i:=10) (v:=?_) (a':=?_) (by simp only [List.getElem?_toArray,List.getElem?_cons_succ,List.getElem?_cons_zero];rfl) rfl (by as_aux_lemma=>kernel_rfl) (by rfl) (by exact fun _ _ _ h=>h) ?_ ?_ ?_
      rotate_left
      ·intro w'
       go_simp
       with_reducible rfl
      rotate_left
      ·simp only [Act.put,List.setIfInBounds_toArray,List.set_cons_zero,List.set_cons_succ,i64_w,i32_w]
       rfl
      refine Cw.dpu (i:=11) (v:=?_) (a':=?_) (by simp only [List.getElem?_toArray,List.getElem?_cons_succ,List.getElem?_cons_zero];rfl) rfl (by as_aux_lemma=>kernel_rfl) (by rfl) (by exact fun _ _ _ h=>h) ?_ ?_ ?_
      rotate_left
      ·intro w'
       go_simp
       with_reducible rfl
      rotate_left
      ·simp only [Act.put,List.setIfInBounds_toArray,List.set_cons_zero,List.set_cons_succ,i64_w,i32_w]
       rfl
      refine Cw.dtkD (i:=12) (v:=?_) (a':=?_) (by simp only [List.getElem?_toArray,List.getElem?_cons_succ,List.getElem?_cons_zero];rfl) rfl (by as_aux_lemma=>kernel_rfl) (by rfl) (by exact fun _ _ _ h=>h) ?_ (by repeat (first|exact Below.refl _ _|with_reducible apply zlN|with_reducible apply zlA|refine below_step ?_ (Aside0.out (by assumption)))) ?_ ?_
      rotate_left
      ·intro w' hs_
       have hs:=zm hs_
       clear hs_
       apply Eq.trans
       ·apply ID_u64
        ·rfl
        ·rfl
        ·exact (Kd.C_below (Aside0.out (by assumption)) (by repeat (first|exact Below.refl _ _|with_reducible apply zlN|with_reducible apply zlA|refine below_step ?_ (Aside0.out (by assumption)))))
        ·omega
        ·omega
       ·rfl
      rotate_left
      ·simp only [Act.put,List.setIfInBounds_toArray,List.set_cons_zero,List.set_cons_succ,i64_w,i32_w]
       rfl
      refine Cw.dpu (i:=13) (v:=?_) (a':=?_) (by simp only [List.getElem?_toArray,List.getElem?_cons_succ,List.getElem?_cons_zero];rfl) rfl (by as_aux_lemma=>kernel_rfl) (by rfl) (by exact fun _ _ _ h=>h) ?_ ?_ ?_
      rotate_left
      ·intro w'
       go_simp
       with_reducible rfl
      rotate_left
      ·simp only [Act.put,List.setIfInBounds_toArray,List.set_cons_zero,List.set_cons_succ,i64_w,i32_w]
       rfl
      refine Cw.dpu (i:=14) (v:=?_) (a':=?_) (by simp only [List.getElem?_toArray,List.getElem?_cons_succ,List.getElem?_cons_zero];rfl) rfl (by as_aux_lemma=>kernel_rfl) (by rfl) (by exact fun _ _ _ h=>h) ?_ ?_ ?_
      rotate_left
      ·intro w'
       go_simp
       with_reducible rfl
      rotate_left
      ·simp only [Act.put,List.setIfInBounds_toArray,List.set_cons_zero,List.set_cons_succ,i64_w,i32_w]
       rfl
      refine Cw.done1D (i:=15) (N:=some 125) (by simp only [List.getElem?_toArray,List.getElem?_cons_succ,List.getElem?_cons_zero];rfl) rfl (by as_aux_lemma=>kernel_rfl) (by decide) (fun K hK=>?_)
      refine Cw.dnew (fun g=>.slice (some ⟨g,0,none⟩) 1 1) (by rfl) rfl (by apply ID_lit1;exact rfl;exact rfl) ?_
      rintro gl hg w1 hbk hb
      clear hg
      have hh_:=zm hbk;clear hbk;have hbk:=hh_;clear hh_;have hh_:=zm hb;clear hb;have hb:=hh_;clear hh_
      refine hK.out _ _ (by repeat (first|exact Below.refl _ _|with_reducible apply zlN|with_reducible apply zlA|refine below_step ?_ (Aside0.out (by assumption)))) (fun _=>?_)
      clear hK K
      refine norm_ (a':=?_) ?_ ?_
      rotate_left
      ·show Act.put _ (some 125) _=_
       simp only [Act.put,List.setIfInBounds_toArray,List.set_cons_zero,List.set_cons_succ,i64_w,i32_w]
       rfl
      refine Cw.lastD (i:=16) (N:=some 126) (by simp only [List.getElem?_toArray,List.getElem?_cons_succ,List.getElem?_cons_zero];rfl) rfl (by as_aux_lemma=>kernel_rfl) (by decide) (fun K hK=>?_)
      refine Kd.R_append_rows_step k51 (Rr:=k51.K wd) (w0:=wd) wd.heap.size (by rfl) (.tmp 111) (.tmp 125) 22 51 (.agg #[(.int .i64 0),(.int .i64 0),(.int .i64 0)]) 24 rfl Try.underlying22 info51 rfl (by decide) (by omega) v rt [(⟨wrap64 (rd p 0),wrap64 (rd p 1),wrap64 (rd p 2)⟩:S51)] _ _ _ (fun _=>True) (fun _=>False) rfl rfl (Kd.R_below hR.out (by repeat (first|exact Below.refl _ _|with_reducible apply zlN|with_reducible apply zlA|refine below_step ?_ (Aside0.out (by assumption))))) (ID_R1 (zbB (Aside0.out (by assumption)) (by repeat (first|exact Below.refl _ _|with_reducible apply zlN|with_reducible apply zlA|refine below_step ?_ (Aside0.out (by assumption)))))) (fun x cs h=>by rw [k51_open h];exact k51_mkM _ _ _ x) (fun _ hk=>hk.elim) (fun _ _=>trivial) (by repeat (first|exact Below.refl _ _|with_reducible apply zlN|with_reducible apply zlA|refine below_step ?_ (Aside0.out (by assumption)))) (below_size (by repeat (first|exact Below.refl _ _|with_reducible apply zlN|with_reducible apply zlA|refine below_step ?_ (Aside0.out (by assumption))))) ?_ ?_
      ·have:=HL.out
       omega
      intro v1 wA ho hb hg _
      have hbx:Aside0 (wA.heap[gx]?=some (.cells #[.int .i64 (wrap64 (rd l1 0)),.int .i64 (wrap64 (rd l1 4)),.int .i64 (wrap64 (rd l1 5)),.int .i64 (wrap64 (rd l1 6)),.int .i64 (wrap64 (rd l1 7)),.int .i64 (wrap64 (rd l1 1)),v] 24 (0,0))):=⟨blk_grown (show _=some (Obj.cells #[.int .i64 (wrap64 (rd l1 0)),.int .i64 (wrap64 (rd l1 4)),.int .i64 (wrap64 (rd l1 5)),.int .i64 (wrap64 (rd l1 6)),.int .i64 (wrap64 (rd l1 7)),.int .i64 (wrap64 (rd l1 1)),v] 24 (0,0)) from (zbB (Aside0.out (by assumption)) (by repeat (first|exact Below.refl _ _|with_reducible apply zlN|with_reducible apply zlA|refine below_step ?_ (Aside0.out (by assumption)))))) hg (Kd.R_ne hR.out hbr.out (by decide))⟩
      clear hg
      obtain ⟨A3,c3,rfl⟩:=Kd.R_slice ho
      have hh_:=zm ho;clear ho;have ho:=hh_;clear hh_;have hh_:=zm hb;clear hb;have hb:=hh_;clear hh_
      refine hK.out _ _ ?_
      clear hK K
      refine norm_ (a':=?_) ?_ ?_
      rotate_left
      ·show Act.put _ (some 126) _=_
       simp only [Act.put,List.setIfInBounds_toArray,List.set_cons_zero,List.set_cons_succ,i64_w,i32_w]
       rfl
      refine Cw.dpu (i:=17) (v:=?_) (a':=?_) (by simp only [List.getElem?_toArray,List.getElem?_cons_succ,List.getElem?_cons_zero];rfl) rfl (by as_aux_lemma=>kernel_rfl) (by rfl) (by exact fun _ _ _ h=>h) ?_ ?_ ?_
      rotate_left
      ·intro w'
       go_simp
       with_reducible rfl
      rotate_left
      ·simp only [Act.put,List.setIfInBounds_toArray,List.set_cons_zero,List.set_cons_succ,i64_w,i32_w]
       rfl
      refine Cw.lastD (i:=18) (N:=none) (by simp only [List.getElem?_toArray,List.getElem?_cons_succ,List.getElem?_cons_zero];rfl) rfl (by as_aux_lemma=>kernel_rfl) (by decide) (fun K hK=>?_)
      refine skip_ (w1:=wA.setCell ⟨gx,6,none⟩ (.slice A3 (rt ++ [(⟨wrap64 (rd p 0),wrap64 (rd p 1),wrap64 (rd p 2)⟩:S51)]).length c3)) (by rfl) rfl ?_ ?_
      ·apply ID_st1
       ·rfl
       ·rfl
       ·rfl
       ·exact hbx.out
      have hbx2:Aside0 ((wA.setCell ⟨gx,6,none⟩ (.slice A3 (rt ++ [(⟨wrap64 (rd p 0),wrap64 (rd p 1),wrap64 (rd p 2)⟩:S51)]).length c3)).heap[gx]?=some (.cells #[.int .i64 (wrap64 (rd l1 0)),.int .i64 (wrap64 (rd l1 4)),.int .i64 (wrap64 (rd l1 5)),.int .i64 (wrap64 (rd l1 6)),.int .i64 (wrap64 (rd l1 7)),.int .i64 (wrap64 (rd l1 1)),.slice A3 (rt ++ [(⟨wrap64 (rd p 0),wrap64 (rd p 1),wrap64 (rd p 2)⟩:S51)]).length c3] 24 (0,0))):=⟨blk_set hbx.out 6 _⟩
      have ho2:=zm (Kd.R_set ho.out hbx.out (by intro q hq;simp [k51,Kd.iso,Kd.pair,Kd.int,Kd.scalar] at hq;omega) 6 (.slice A3 (rt ++ [(⟨wrap64 (rd p 0),wrap64 (rd p 1),wrap64 (rd p 2)⟩:S51)]).length c3))
      have hb2:Aside0 (Below wd.heap.size wd (wA.setCell ⟨gx,6,none⟩ (.slice A3 (rt ++ [(⟨wrap64 (rd p 0),wrap64 (rd p 1),wrap64 (rd p 2)⟩:S51)]).length c3))):=⟨zlS hb.out hge.out⟩
      generalize wA.setCell ⟨gx,6,none⟩ (.slice A3 (rt ++ [(⟨wrap64 (rd p 0),wrap64 (rd p 1),wrap64 (rd p 2)⟩:S51)]).length c3)=wB at hbx2 ho2 hb2 ⊢
      refine hK.out _ _ ?_
      clear hK K
      refine done_ (by as_aux_lemma=>kernel_rfl) ?_
      go_wp2
      go_roundw
      case rel=>exact ⟨j + 1,rt ++ [(⟨wrap64 (rd p 0),wrap64 (rd p 1),wrap64 (rd p 2)⟩:S51)],_,rfl,⟨by omega⟩,⟨by rw [List.length_append,HL.out];rfl⟩,⟨H.out⟩,hbx2,ho2,hb2⟩
      case measure=>exact ID_meas hlt
     ·have hjm:(rd l1 2).toNat - j=0:=by have:=hj.out;omega
      have H:=HA.out
      clear HA
      rw [hjm] at H
      simp only [inode_Decode.go] at H
      obtain rfl:=Option.some.inj H
      clear H hjm
      obtain ⟨A3,c3,rfl⟩:=Kd.R_slice hR.out
      have hc3:=zm (Kd.R_reads' hR.out).2.1
      have hr3:=zm (Kd.R_reads' hR.out).2.2
      have H:=HO.out
      clear HO
      by_cases hpe:pe=0
      ·rw [if_pos hpe] at H
       have hg_:=Option.bind_eq_some_iff.mp H;clear H;obtain ⟨t,F6,H⟩:=hg_;have hh_:=zm F6;clear F6;have F6:=hh_;clear hh_;(try dsimp only at H)
       have hpe':(pe != 0)=false:=by rw [hpe];rfl
       clear hpe
       by_cases ht:t=true
       ·subst ht
        rw [if_pos rfl] at H
        simp only [Option.some.injEq,Prod.mk.injEq] at H
        obtain ⟨rfl,rfl,rfl,rfl,rfl,rfl,rfl,rfl⟩:=H
        go_wp2_with (first|((with_reducible refine gate_ (.load 24 _) rfl ?_);refine IE_ld rfl rfl rfl (zbB (Aside0.out (by assumption)) (by repeat (first|exact Below.refl _ _|with_reducible apply zlN|with_reducible apply zlA|refine below_step ?_ (Aside0.out (by assumption))))) ?_)|(go_at_call 8;refine (inode_Encode.calls k _ _ _ _ _ _ _ _ _ _ _ _ (Kd.C_below (Aside0.out (by assumption)) (by repeat (first|exact Below.refl _ _|with_reducible apply zlN|with_reducible apply zlA|refine below_step ?_ (Aside0.out (by assumption))))) (Aside0.out (by assumption)) F5.out).mono ?_;rintro e wE ⟨vE,rfl,hoE,hb⟩;obtain ⟨AE,cE,rfl⟩:=Kd.R_slice hoE;have hcE:=zm (Kd.R_reads' hoE).2.1;have hrE:=zm (Kd.R_reads' hoE).2.2;clear hoE;have hh_:=zm hb;clear hb;have hb:=hh_;clear hh_)|((with_reducible refine Cw.guarded rfl ?gw ?_);(case gw=>first|rfl|(go_simp;done));dsimp only)|(go_at_call 33;refine (slices_Equal_byte_byte.calls k _ _ _ _ _ _ _ _ (Kd.C_below (Aside0.out (by assumption)) (by repeat (first|exact Below.refl _ _|with_reducible apply zlN|with_reducible apply zlA|refine below_step ?_ (Aside0.out (by assumption))))) (Aside0.out (by assumption)) (Kd.C_below (Aside0.out (by assumption)) (by repeat (first|exact Below.refl _ _|with_reducible apply zlN|with_reducible apply zlA|refine below_step ?_ (Aside0.out (by assumption))))) (Aside0.out (by assumption)) F6.out).mono ?_;rintro e w1 ⟨rfl,hd⟩;have hb:=Drawn0.below hd;clear hd;have hh_:=zm hb;clear hb;have hb:=hh_;clear hh_)|((with_reducible refine gate_ (.store 24 (.tmp 2) _) rfl ?_);refine Cw.put_event (g:=g2) (ys:=[.int .i64 (wrap64 (rd l1 0)),.int .i64 (wrap64 (rd l1 4)),.int .i64 (wrap64 (rd l1 5)),.int .i64 (wrap64 (rd l1 6)),.int .i64 (wrap64 (rd l1 7)),.int .i64 (wrap64 (rd l1 1)),.slice A3 rt.length c3]) rfl rfl rfl (by apply ID_st7;exact rfl;exact rfl;exact rfl;exact (zbB (Aside0.out (by assumption)) (by repeat (first|exact Below.refl _ _|with_reducible apply zlN|with_reducible apply zlA|refine below_step ?_ (Aside0.out (by assumption)))))) ?_;rintro w2 hw2;have hb2:Aside0 (Below w.heap.size w w2):=⟨by rw [hw2];exact Cw.setL_below hg2.out _ _ _ (by repeat (first|exact Below.refl _ _|with_reducible apply zlN|with_reducible apply zlA|refine below_step ?_ (Aside0.out (by assumption))))⟩;have hzz:Aside0 (w2.heap[g2]?=some (.cells #[.int .i64 (wrap64 (rd l1 0)),.int .i64 (wrap64 (rd l1 4)),.int .i64 (wrap64 (rd l1 5)),.int .i64 (wrap64 (rd l1 6)),.int .i64 (wrap64 (rd l1 7)),.int .i64 (wrap64 (rd l1 1)),.slice A3 rt.length c3] 24 (0,0))):=⟨by rw [hw2];exact Cw.setL_full [.int .i64 (wrap64 (rd l1 0)),.int .i64 (wrap64 (rd l1 4)),.int .i64 (wrap64 (rd l1 5)),.int .i64 (wrap64 (rd l1 6)),.int .i64 (wrap64 (rd l1 7)),.int .i64 (wrap64 (rd l1 1)),.slice A3 rt.length c3] (show _=some (Obj.cells #[.int .i64 0,.int .i64 0,.int .i64 0,.int .i64 0,.int .i64 0,.int .i64 0,.slice none 0 0] 24 (0,0)) from (zbB (Aside0.out (by assumption)) (by repeat (first|exact Below.refl _ _|with_reducible apply zlN|with_reducible apply zlA|refine below_step ?_ (Aside0.out (by assumption)))))) rfl⟩;have hR2:Aside0 (Kd.R k51 51 w2 w.heap.size (fun _=>True) (.slice A3 rt.length c3) rt):=⟨by rw [hw2];exact Cw.setL_R (Kd.R_lower (Kd.R_below hR.out (by repeat (first|exact Below.refl _ _|with_reducible apply zlN|with_reducible apply zlA|refine below_step ?_ (Aside0.out (by assumption))))) (below_size (by repeat (first|exact Below.refl _ _|with_reducible apply zlN|with_reducible apply zlA|refine below_step ?_ (Aside0.out (by assumption)))))) (show _=some (Obj.cells #[.int .i64 0,.int .i64 0,.int .i64 0,.int .i64 0,.int .i64 0,.int .i64 0,.slice none 0 0] 24 (0,0)) from (zbB (Aside0.out (by assumption)) (by repeat (first|exact Below.refl _ _|with_reducible apply zlN|with_reducible apply zlA|refine below_step ?_ (Aside0.out (by assumption)))))) (by intro q hq;simp [k51,Kd.iso,Kd.pair,Kd.int,Kd.scalar] at hq;omega) 0 _⟩;clear hw2))
        refine bodyPost_ret (results_ct rfl _ _ g2 24 #[.int .i64 (wrap64 (rd l1 0)),.int .i64 (wrap64 (rd l1 4)),.int .i64 (wrap64 (rd l1 5)),.int .i64 (wrap64 (rd l1 6)),.int .i64 (wrap64 (rd l1 7)),.int .i64 (wrap64 (rd l1 1)),.slice A3 rt.length c3] (0,0) _ rfl hzz.out Try.underlying24 rfl (by kernel_rfl)) rfl ?_
        exact ⟨_,rfl,hR2.out,hb2.out⟩
       ·rw [if_neg ht] at H
        simp only [Option.some.injEq,Prod.mk.injEq] at H
        obtain ⟨rfl,rfl,rfl,rfl,rfl,rfl,rfl,rfl⟩:=H
        have ht:=Bool.eq_false_iff.mpr ht
        subst ht
        go_wp2_with (first|((with_reducible refine gate_ (.load 24 _) rfl ?_);refine IE_ld rfl rfl rfl (zbB (Aside0.out (by assumption)) (by repeat (first|exact Below.refl _ _|with_reducible apply zlN|with_reducible apply zlA|refine below_step ?_ (Aside0.out (by assumption))))) ?_)|(go_at_call 8;refine (inode_Encode.calls k _ _ _ _ _ _ _ _ _ _ _ _ (Kd.C_below (Aside0.out (by assumption)) (by repeat (first|exact Below.refl _ _|with_reducible apply zlN|with_reducible apply zlA|refine below_step ?_ (Aside0.out (by assumption))))) (Aside0.out (by assumption)) F5.out).mono ?_;rintro e wE ⟨vE,rfl,hoE,hb⟩;obtain ⟨AE,cE,rfl⟩:=Kd.R_slice hoE;have hcE:=zm (Kd.R_reads' hoE).2.1;have hrE:=zm (Kd.R_reads' hoE).2.2;clear hoE;have hh_:=zm hb;clear hb;have hb:=hh_;clear hh_)|((with_reducible refine Cw.guarded rfl ?gw ?_);(case gw=>first|rfl|(go_simp;done));dsimp only)|(go_at_call 33;refine (slices_Equal_byte_byte.calls k _ _ _ _ _ _ _ _ (Kd.C_below (Aside0.out (by assumption)) (by repeat (first|exact Below.refl _ _|with_reducible apply zlN|with_reducible apply zlA|refine below_step ?_ (Aside0.out (by assumption))))) (Aside0.out (by assumption)) (Kd.C_below (Aside0.out (by assumption)) (by repeat (first|exact Below.refl _ _|with_reducible apply zlN|with_reducible apply zlA|refine below_step ?_ (Aside0.out (by assumption))))) (Aside0.out (by assumption)) F6.out).mono ?_;rintro e w1 ⟨rfl,hd⟩;have hb:=Drawn0.below hd;clear hd;have hh_:=zm hb;clear hb;have hb:=hh_;clear hh_)|((with_reducible refine gate_ (.store 24 (.tmp 2) _) rfl ?_);refine Cw.put_event (g:=g2) (ys:=[.int .i64 0,.int .i64 0,.int .i64 0,.int .i64 0,.int .i64 0,.int .i64 0,.slice none 0 0]) rfl rfl rfl (by apply ID_st7;exact rfl;exact rfl;exact rfl;exact (zbB (Aside0.out (by assumption)) (by repeat (first|exact Below.refl _ _|with_reducible apply zlN|with_reducible apply zlA|refine below_step ?_ (Aside0.out (by assumption)))))) ?_;rintro w2 hw2;have hb2:Aside0 (Below w.heap.size w w2):=⟨by rw [hw2];exact Cw.setL_below hg2.out _ _ _ (by repeat (first|exact Below.refl _ _|with_reducible apply zlN|with_reducible apply zlA|refine below_step ?_ (Aside0.out (by assumption))))⟩;have hzz:Aside0 (w2.heap[g2]?=some (.cells #[.int .i64 0,.int .i64 0,.int .i64 0,.int .i64 0,.int .i64 0,.int .i64 0,.slice none 0 0] 24 (0,0))):=⟨by rw [hw2];exact Cw.setL_full [.int .i64 0,.int .i64 0,.int .i64 0,.int .i64 0,.int .i64 0,.int .i64 0,.slice none 0 0] (zbB (Aside0.out (by assumption)) (by repeat (first|exact Below.refl _ _|with_reducible apply zlN|with_reducible apply zlA|refine below_step ?_ (Aside0.out (by assumption))))) rfl⟩;clear hw2))
        refine bodyPost_ret (results_ct rfl _ _ g2 24 #[.int .i64 0,.int .i64 0,.int .i64 0,.int .i64 0,.int .i64 0,.int .i64 0,.slice none 0 0] (0,0) _ rfl hzz.out Try.underlying24 rfl (by kernel_rfl)) rfl ?_
        exact ⟨_,rfl,Kd.R_nil _ _ _ _ _,hb2.out⟩
      ·rw [if_neg hpe] at H
       simp only [Option.some.injEq,Prod.mk.injEq] at H
       obtain ⟨rfl,rfl,rfl,rfl,rfl,rfl,rfl,rfl⟩:=H
       have hpe':(pe != 0)=true:=bne_iff_ne.mpr hpe
       clear hpe
       go_wp2_with (first|((with_reducible refine gate_ (.load 24 _) rfl ?_);refine IE_ld rfl rfl rfl (zbB (Aside0.out (by assumption)) (by repeat (first|exact Below.refl _ _|with_reducible apply zlN|with_reducible apply zlA|refine below_step ?_ (Aside0.out (by assumption))))) ?_)|(go_at_call 8;refine (inode_Encode.calls k _ _ _ _ _ _ _ _ _ _ _ _ (Kd.C_below (Aside0.out (by assumption)) (by repeat (first|exact Below.refl _ _|with_reducible apply zlN|with_reducible apply zlA|refine below_step ?_ (Aside0.out (by assumption))))) (Aside0.out (by assumption)) F5.out).mono ?_;rintro e wE ⟨vE,rfl,hoE,hb⟩;obtain ⟨AE,cE,rfl⟩:=Kd.R_slice hoE;have hcE:=zm (Kd.R_reads' hoE).2.1;have hrE:=zm (Kd.R_reads' hoE).2.2;clear hoE;have hh_:=zm hb;clear hb;have hb:=hh_;clear hh_)|((with_reducible refine Cw.guarded rfl ?gw ?_);(case gw=>first|rfl|(go_simp;done));dsimp only)|((with_reducible refine gate_ (.store 24 (.tmp 2) _) rfl ?_);refine Cw.put_event (g:=g2) (ys:=[.int .i64 0,.int .i64 0,.int .i64 0,.int .i64 0,.int .i64 0,.int .i64 0,.slice none 0 0]) rfl rfl rfl (by apply ID_st7;exact rfl;exact rfl;exact rfl;exact (zbB (Aside0.out (by assumption)) (by repeat (first|exact Below.refl _ _|with_reducible apply zlN|with_reducible apply zlA|refine below_step ?_ (Aside0.out (by assumption)))))) ?_;rintro w2 hw2;have hb2:Aside0 (Below w.heap.size w w2):=⟨by rw [hw2];exact Cw.setL_below hg2.out _ _ _ (by repeat (first|exact Below.refl _ _|with_reducible apply zlN|with_reducible apply zlA|refine below_step ?_ (Aside0.out (by assumption))))⟩;have hzz:Aside0 (w2.heap[g2]?=some (.cells #[.int .i64 0,.int .i64 0,.int .i64 0,.int .i64 0,.int .i64 0,.int .i64 0,.slice none 0 0] 24 (0,0))):=⟨by rw [hw2];exact Cw.setL_full [.int .i64 0,.int .i64 0,.int .i64 0,.int .i64 0,.int .i64 0,.int .i64 0,.slice none 0 0] (zbB (Aside0.out (by assumption)) (by repeat (first|exact Below.refl _ _|with_reducible apply zlN|with_reducible apply zlA|refine below_step ?_ (Aside0.out (by assumption))))) rfl⟩;clear hw2))
       refine bodyPost_ret (results_ct rfl _ _ g2 24 #[.int .i64 0,.int .i64 0,.int .i64 0,.int .i64 0,.int .i64 0,.int .i64 0,.slice none 0 0] (0,0) _ rfl hzz.out Try.underlying24 rfl (by kernel_rfl)) rfl ?_
       exact ⟨_,rfl,Kd.R_nil _ _ _ _ _,hb2.out⟩
 ·rw [if_neg hl] at H
  simp only [Option.some.injEq,Prod.mk.injEq] at H
  obtain ⟨rfl,rfl,rfl,rfl,rfl,rfl,rfl,rfl⟩:=H
  have h64:((l0.length:Int) != 64)=true:=by simp;omega
  have hh_:=zm hr0;clear hr0;have hr0:=hh_;clear hh_;have hh_:=zm hc0;clear hc0;have hc0:=hh_;clear hh_;have hh_:=zm hl;clear hl;have hl:=hh_;clear hh_
  go_enter Try.func9,Try.ntmps9
  go_wp2_with (first|((with_reducible refine gate_dst (N:=2) rfl ?_);refine box_event rfl (N:=2) rfl (by first|(go_simp;done)|(go_simp;rfl)) ?_;rintro g2 hg wc hbk hb;have hg2:Aside0 (w.heap.size≤g2):=⟨Nat.le_of_eq hg.symm⟩;clear hg;have hh_:=zm hbk;clear hbk;have hbk:=hh_;clear hh_;have hh_:=zm hb;clear hb;have hb:=hh_;clear hh_)|((with_reducible refine gate_ (.store 24 (.tmp 2) _) rfl ?_);refine Cw.put_event (g:=g2) (ys:=[.int .i64 0,.int .i64 0,.int .i64 0,.int .i64 0,.int .i64 0,.int .i64 0,.slice none 0 0]) rfl rfl rfl (by apply ID_st7;exact rfl;exact rfl;exact rfl;exact (zbB (Aside0.out (by assumption)) (by repeat (first|exact Below.refl _ _|with_reducible apply zlN|with_reducible apply zlA|refine below_step ?_ (Aside0.out (by assumption)))))) ?_;rintro w2 hw2;have hb2:Aside0 (Below w.heap.size w w2):=⟨by rw [hw2];exact Cw.setL_below hg2.out _ _ _ (by repeat (first|exact Below.refl _ _|with_reducible apply zlN|with_reducible apply zlA|refine below_step ?_ (Aside0.out (by assumption))))⟩;have hzz:Aside0 (w2.heap[g2]?=some (.cells #[.int .i64 0,.int .i64 0,.int .i64 0,.int .i64 0,.int .i64 0,.int .i64 0,.slice none 0 0] 24 (0,0))):=⟨by rw [hw2];exact Cw.setL_full [.int .i64 0,.int .i64 0,.int .i64 0,.int .i64 0,.int .i64 0,.int .i64 0,.slice none 0 0] (zbB (Aside0.out (by assumption)) (by repeat (first|exact Below.refl _ _|with_reducible apply zlN|with_reducible apply zlA|refine below_step ?_ (Aside0.out (by assumption))))) rfl⟩;clear hw2))
  refine bodyPost_ret (results_ct rfl _ _ g2 24 #[.int .i64 0,.int .i64 0,.int .i64 0,.int .i64 0,.int .i64 0,.int .i64 0,.slice none 0 0] (0,0) _ rfl hzz.out Try.underlying24 rfl (by kernel_rfl)) rfl ?_
  exact ⟨_,rfl,Kd.R_nil _ _ _ _ _,hb2.out⟩
end Go.Proofs.Ytjoojmodghpimaa.Print
end
section
namespace Go.Proofs.Ytjoojmodghpimaa.Print
open Go.RowKit Go.Proofs.YtjoojmodghpimaaW.PrintWords Go.Proofs.YtjoojmodghpimaaW.PrintLast Go.Proofs.YtjoojmodghpimaaW.PrintMore
attribute [local go_sem] max2_int min2_int max_two min_two max_three min_three max_four min_four   -- for this text's walks alone
attribute [local go_sem ↓] Go.Proofs.Ytjoojmodghpimaa.Sem.isSome_setCell
attribute [local go_sem] Go.Instr.field Go.asAgg
set_option linter.unusedVariables false
set_option linter.unusedSimpArgs false
theorem eqA51 (d:Nat) (w:World) (x0 y0:Int) (x1 y1:Int) (x2 y2:Int) :
  (Op.equalIn (d + 2) 51 (.agg #[.int .i64 x0,.int .i64 x1,.int .i64 x2]) (.agg #[.int .i64 y0,.int .i64 y1,.int .i64 y2])).run Try.prog w=.ok (x0 == y0 && (x1 == y1 && (x2 == y2))) w:=by
 refine eqA_of Try.underlying51 (by kernel_rfl) ?_
 refine eqf_cons (by rfl) (by go_simp;rfl) (by go_simp;rfl) (by go_simp) ?_
 refine eqf_cons (by rfl) (by go_simp;rfl) (by go_simp;rfl) (by go_simp) ?_
 exact eqf_last (by rfl) (by go_simp;rfl) (by go_simp;rfl) (by go_simp)
end Go.Proofs.Ytjoojmodghpimaa.Print
end
section
namespace Go.Proofs.Ytjoojmodghpimaa.Print
open Go.RowKit Go.Proofs.YtjoojmodghpimaaW.PrintWords Go.Proofs.YtjoojmodghpimaaW.PrintLast Go.Proofs.YtjoojmodghpimaaW.PrintMore
attribute [local go_sem] max2_int min2_int max_two min_two max_three min_three max_four min_four   -- for this text's walks alone
attribute [local go_sem ↓] Go.Proofs.Ytjoojmodghpimaa.Sem.isSome_setCell
attribute [local go_sem] Go.Instr.field Go.asAgg
set_option linter.unusedVariables false
set_option linter.unusedSimpArgs false
attribute [local go_sem high] eqA51
def slipwayref13_Same.l0:Nat → List (S51) → List (S51) → Int → Option (Bool)
 | 0,_,_,_=>none
 | k + 1,x0,x1,x5=>if x5 < (x0.length:Int) then (if 0≤x5 then (if x5 < (x1.length:Int) then (if (!(((rd_T51 x0 x5).f0) == ((rd_T51 x1 x5).f0)) || (!(((rd_T51 x0 x5).f1) == ((rd_T51 x1 x5).f1)) || (!(((rd_T51 x0 x5).f2) == ((rd_T51 x1 x5).f2)))))=true then (some false) else (slipwayref13_Same.l0 k x0 x1 (wrap64 (x5 + 1)))) else (none)) else (none)) else (some true)
def slipwayref13_Same.f (k:Nat) (l0:List (S51)) (l1:List (S51)):Option (Bool):=if (l0.length:Int)=(l1.length:Int) then (slipwayref13_Same.l0 k l0 l1 0) else (some false)
set_option maxHeartbeats 8000000 in
set_option maxRecDepth 100000 in
theorem slipwayref13_Same.calls (k:Nat) (A0:Option Addr) (c0:Nat) (l0:List (S51)) (A1:Option Addr) (c1:Nat) (l1:List (S51)) (r:Bool) (w:World) (hr0:Kd.C k51 w A0 l0.length l0) (hc0:l0.length≤c0) (hr1:Kd.C k51 w A1 l1.length l1) (hc1:l1.length≤c1) (h:slipwayref13_Same.f k l0 l1=some r) :
  Calls Try.prog 34 #[.slice A0 l0.length c0,.slice A1 l1.length c1] w fun e w'=>e=.returned (.bool r)∧Drawn0 w w':=by
 have hu51:=Try.underlying51
 have HR0:=zm hr0
 have HC0:=zm hc0
 clear hr0 hc0
 have HR1:=zm hr1
 have HC1:=zm hc1
 clear hr1 hc1
 have H:(if (l0.length:Int)=(l1.length:Int) then (slipwayref13_Same.l0 k l0 l1 0) else (some false))=some r:=h
 clear h
 by_cases c3:(l0.length:Int)=(l1.length:Int)
 ·rw [if_pos c3] at H
  have c3b0:((l0.length:Int) == (l1.length:Int))=true:=beq_iff_eq.mpr c3
  have c3b1:((l0.length:Int) != (l1.length:Int))=false:=bne_eq_false_iff_eq.mpr c3
  have c3b2:(l0.length == l1.length)=true:=by first|simpa using c3|(simp at c3 ⊢;omega)
  clear c3
  have H':=zm H
  clear H
  go_enter Try.func34,Try.ntmps34
  go_wp2
  repeat (go_quiet (fail);try go_wp2)
  go_loopg [5] k (fun kq v5 w'=>∃ (x5_1:Int),v5=.int .i64 x5_1∧Aside0 (slipwayref13_Same.l0 kq l0 l1 x5_1=some r)∧Aside0 (kq≤k)∧Drawn0 w w')
  case atStart=>exact ⟨(0),(by first|rfl|(simp;done)|(simp [*];done)),H',⟨Nat.le_refl _⟩,by repeat (first|exact Drawn0.refl _|apply Drawn0.step)⟩
  case round =>
   clear H'
   try clear c1
   try clear p2
   try clear c3
   try clear c3b0
   try clear c3b1
   try clear c3b2
   obtain ⟨x5_1,rfl,HA,HK1,⟨m1,rfl⟩⟩:=hrel
   cases gk with
   | zero=>exact absurd HA.out (by simp [slipwayref13_Same.l0])
   | succ k1 =>
    have H:=HA.out
    clear HA
    simp only [slipwayref13_Same.l0] at H
    by_cases c4:x5_1 < (l0.length:Int)
    ·rw [if_pos c4] at H
     have c4b0:decide (x5_1 < (l0.length:Int))=true:=decide_eq_true c4
     clear c4
     by_cases c5:0≤x5_1
     ·rw [if_pos c5] at H
      have c5b0:decide (0≤x5_1)=true:=decide_eq_true c5
      clear c5
      by_cases c6:x5_1 < (l1.length:Int)
      ·rw [if_pos c6] at H
       have c6b0:decide (x5_1 < (l1.length:Int))=true:=decide_eq_true c6
       clear c6
       by_cases c7:(!(((rd_T51 l0 x5_1).f0) == ((rd_T51 l1 x5_1).f0)) || (!(((rd_T51 l0 x5_1).f1) == ((rd_T51 l1 x5_1).f1)) || (!(((rd_T51 l0 x5_1).f2) == ((rd_T51 l1 x5_1).f2)))))=true
       ·rw [if_pos c7] at H
        have c7b0:(!(((rd_T51 l0 x5_1).f0) == ((rd_T51 l1 x5_1).f0)) || (!(((rd_T51 l0 x5_1).f1) == ((rd_T51 l1 x5_1).f1)) || (!(((rd_T51 l0 x5_1).f2) == ((rd_T51 l1 x5_1).f2)))))=true:=c7
        clear c7
        obtain rfl:=Option.some.inj H
        have p159:0≤(x5_1:Int):=of_decide_eq_true (by first|(with_reducible assumption)|assumption)
        have q159:x5_1 < (l0.length:Int):=of_decide_eq_true (by first|(with_reducible assumption)|assumption)
        obtain ⟨ad159,e159,hx159_0,hx159_1,hx159_2⟩:=at_T51 HR0.out x5_1 p159 q159
        cases e159
        replace p159:=eq_true p159
        replace q159:=eq_true q159
        have p160:0≤(x5_1:Int):=of_decide_eq_true (by first|(with_reducible assumption)|assumption)
        have q160:x5_1 < (l1.length:Int):=of_decide_eq_true (by first|(with_reducible assumption)|assumption)
        obtain ⟨ad160,e160,hx160_0,hx160_1,hx160_2⟩:=at_T51 HR1.out x5_1 p160 q160
        cases e160
        replace p160:=eq_true p160
        replace q160:=eq_true q160
        go_wp2
        repeat (go_quiet (fail);try go_wp2)
        go_ret
        exact ⟨by first|rfl|(simp;done)|(simp [*];done),by repeat (first|exact Drawn0.refl _|apply Drawn0.step)⟩
       ·rw [if_neg c7] at H
        have c7b0:(!(((rd_T51 l0 x5_1).f0) == ((rd_T51 l1 x5_1).f0)) || (!(((rd_T51 l0 x5_1).f1) == ((rd_T51 l1 x5_1).f1)) || (!(((rd_T51 l0 x5_1).f2) == ((rd_T51 l1 x5_1).f2)))))=false:=by simpa using c7
        clear c7
        have H':=zm H
        clear H
        have p159:0≤(x5_1:Int):=of_decide_eq_true (by first|(with_reducible assumption)|assumption)
        have q159:x5_1 < (l0.length:Int):=of_decide_eq_true (by first|(with_reducible assumption)|assumption)
        obtain ⟨ad159,e159,hx159_0,hx159_1,hx159_2⟩:=at_T51 HR0.out x5_1 p159 q159
        cases e159
        replace p159:=eq_true p159
        replace q159:=eq_true q159
        have p160:0≤(x5_1:Int):=of_decide_eq_true (by first|(with_reducible assumption)|assumption)
        have q160:x5_1 < (l1.length:Int):=of_decide_eq_true (by first|(with_reducible assumption)|assumption)
        obtain ⟨ad160,e160,hx160_0,hx160_1,hx160_2⟩:=at_T51 HR1.out x5_1 p160 q160
        cases e160
        replace p160:=eq_true p160
        replace q160:=eq_true q160
        go_wp2
        repeat (go_quiet (fail);try go_wp2)
        go_roundg k1
        case measure=>have:=HK1.out;omega
        case rel=>exact ⟨(wrap64 (x5_1 + 1)),(by first|rfl|(simp;done)|(simp [*];done)),H',⟨by have:=HK1.out;omega⟩,by repeat (first|exact Drawn0.refl _|apply Drawn0.step)⟩
      ·rw [if_neg c6] at H
       exact absurd H (by simp)
     ·rw [if_neg c5] at H
      exact absurd H (by simp)
    ·rw [if_neg c4] at H
     have c4b0:decide (x5_1 < (l0.length:Int))=false:=decide_eq_false c4
     clear c4
     obtain rfl:=Option.some.inj H
     go_wp2
     repeat (go_quiet (fail);try go_wp2)
     go_ret
     exact ⟨by first|rfl|(simp;done)|(simp [*];done),by repeat (first|exact Drawn0.refl _|apply Drawn0.step)⟩
 ·rw [if_neg c3] at H
  have c3b0:((l0.length:Int) == (l1.length:Int))=false:=beq_eq_false_iff_ne.mpr c3
  have c3b1:((l0.length:Int) != (l1.length:Int))=true:=bne_iff_ne.mpr c3
  have c3b2:(l0.length == l1.length)=false:=by first|simpa using c3|(simp at c3 ⊢;omega)
  obtain rfl:=Option.some.inj H
  go_enter Try.func34,Try.ntmps34
  go_wp2
  repeat (go_quiet (fail);try go_wp2)
  go_ret
  exact ⟨by first|rfl|(simp;done)|(simp [*];done),by repeat (first|exact Drawn0.refl _|apply Drawn0.step)⟩
def slipwayref14_Same.f (k:Nat) (a0_0:Int) (a0_1:Int) (a0_2:Int) (a0_3:Int) (a0_4:Int) (a0_5:Int) (l0_6:List (S51)) (a1_0:Int) (a1_1:Int) (a1_2:Int) (a1_3:Int) (a1_4:Int) (a1_5:Int) (l1_6:List (S51)):Option (Bool):=if a0_0=a1_0 then (if a0_1=a1_1 then (if a0_2=a1_2 then (if a0_3=a1_3 then (if a0_4=a1_4 then (if a0_5=a1_5 then ((slipwayref13_Same.f k l0_6 l1_6).bind fun t163=>(some t163)) else (some false)) else (some false)) else (some false)) else (some false)) else (some false)) else (some false)
set_option maxHeartbeats 8000000 in
set_option maxRecDepth 100000 in
theorem slipwayref14_Same.calls (k:Nat) (a0_0:Int) (a0_1:Int) (a0_2:Int) (a0_3:Int) (a0_4:Int) (a0_5:Int) (A0_6:Option Addr) (c0_6:Nat) (l0_6:List (S51)) (a1_0:Int) (a1_1:Int) (a1_2:Int) (a1_3:Int) (a1_4:Int) (a1_5:Int) (A1_6:Option Addr) (c1_6:Nat) (l1_6:List (S51)) (r:Bool) (w:World) (hr0_6:Kd.C k51 w A0_6 l0_6.length l0_6) (hc0_6:l0_6.length≤c0_6) (hr1_6:Kd.C k51 w A1_6 l1_6.length l1_6) (hc1_6:l1_6.length≤c1_6) (h:slipwayref14_Same.f k a0_0 a0_1 a0_2 a0_3 a0_4 a0_5 l0_6 a1_0 a1_1 a1_2 a1_3 a1_4 a1_5 l1_6=some r) :
  Calls Try.prog 10 #[.agg #[.int .i64 a0_0,.int .i64 a0_1,.int .i64 a0_2,.int .i64 a0_3,.int .i64 a0_4,.int .i64 a0_5,.slice A0_6 l0_6.length c0_6],.agg #[.int .i64 a1_0,.int .i64 a1_1,.int .i64 a1_2,.int .i64 a1_3,.int .i64 a1_4,.int .i64 a1_5,.slice A1_6 l1_6.length c1_6]] w fun e w'=>e=.returned (.bool r)∧Below w.heap.size w w':=by
 have hu24:=Try.underlying24
 have HR0_6:=zm hr0_6
 have HC0_6:=zm hc0_6
 clear hr0_6 hc0_6
 have HR1_6:=zm hr1_6
 have HC1_6:=zm hc1_6
 clear hr1_6 hc1_6
 have HB:=zm (Below.refl w.heap.size w)
 have H:(if a0_0=a1_0 then (if a0_1=a1_1 then (if a0_2=a1_2 then (if a0_3=a1_3 then (if a0_4=a1_4 then (if a0_5=a1_5 then ((slipwayref13_Same.f k l0_6 l1_6).bind fun t163=>(some t163)) else (some false)) else (some false)) else (some false)) else (some false)) else (some false)) else (some false))=some r:=h
 clear h
 by_cases c3:a0_0=a1_0
 ·rw [if_pos c3] at H
  have c3b0:(a0_0 == a1_0)=true:=beq_iff_eq.mpr c3
  have c3b1:(a0_0 != a1_0)=false:=bne_eq_false_iff_eq.mpr c3
  clear c3
  by_cases c4:a0_1=a1_1
  ·rw [if_pos c4] at H
   have c4b0:(a0_1 == a1_1)=true:=beq_iff_eq.mpr c4
   have c4b1:(a0_1 != a1_1)=false:=bne_eq_false_iff_eq.mpr c4
   clear c4
   by_cases c5:a0_2=a1_2
   ·rw [if_pos c5] at H
    have c5b0:(a0_2 == a1_2)=true:=beq_iff_eq.mpr c5
    have c5b1:(a0_2 != a1_2)=false:=bne_eq_false_iff_eq.mpr c5
    clear c5
    by_cases c6:a0_3=a1_3
    ·rw [if_pos c6] at H
     have c6b0:(a0_3 == a1_3)=true:=beq_iff_eq.mpr c6
     have c6b1:(a0_3 != a1_3)=false:=bne_eq_false_iff_eq.mpr c6
     clear c6
     by_cases c7:a0_4=a1_4
     ·rw [if_pos c7] at H
      have c7b0:(a0_4 == a1_4)=true:=beq_iff_eq.mpr c7
      have c7b1:(a0_4 != a1_4)=false:=bne_eq_false_iff_eq.mpr c7
      clear c7
      by_cases c8:a0_5=a1_5
      ·rw [if_pos c8] at H
       have c8b0:(a0_5 == a1_5)=true:=beq_iff_eq.mpr c8
       have c8b1:(a0_5 != a1_5)=false:=bne_eq_false_iff_eq.mpr c8
       clear c8
       replace H:=Option.bind_eq_some_iff.mp H
       obtain ⟨t163,A90,H⟩:=H
       replace H:(some t163)=some r:=H
       have A9:=zm A90
       clear A90
       obtain rfl:=Option.some.inj H
       go_enter Try.func10,Try.ntmps10
       go_wp2_with (first|((with_reducible refine gate_dst (N:=2) rfl ?_);refine box_event ?hg (N:=2) ?hd (cs:=#[.int .i64 a0_0,.int .i64 a0_1,.int .i64 a0_2,.int .i64 a0_3,.int .i64 a0_4,.int .i64 a0_5,.slice A0_6 l0_6.length c0_6]) (t:=24) ?hr ?_;(case hd=>rfl);(case hg=>rfl);(case hr=>first|(go_simp;done)|(go_simp;rfl));intro gb161 hg w10 hbox hb;have n0_:=zm (below_step (by repeat (first|(with_reducible first|exact HB.out|apply zlA|apply zlN|apply zlD)|exact HB.out)) hb);have n1_:=zm (hbox);have n2_:=zm ((by rw [hg];exact (below_size (by repeat (first|(with_reducible first|exact HB.out|apply zlA|apply zlN|apply zlD)|exact HB.out))):w.heap.size≤gb161));have n3_:=zm ((by rw [hg];exact (below_size (by repeat (first|(with_reducible first|exact HB.out|apply zlA|apply zlN|apply zlD)|exact HB.out))):w.heap.size≤gb161));clear HB;have HB:=n0_;have BK161:=n1_;have GW161:=n2_;have GE161:=n3_;clear n0_ n1_ n2_ n3_;clear hb hbox hg)|((with_reducible refine gate_dst (N:=3) rfl ?_);refine box_event ?hg (N:=3) ?hd (cs:=#[.int .i64 a1_0,.int .i64 a1_1,.int .i64 a1_2,.int .i64 a1_3,.int .i64 a1_4,.int .i64 a1_5,.slice A1_6 l1_6.length c1_6]) (t:=24) ?hr ?_;(case hd=>rfl);(case hg=>rfl);(case hr=>first|(go_simp;done)|(go_simp;rfl));intro gb162 hg w11 hbox hb;have n0_:=zm (zbB (g:=gb161) (o:=.cells #[.int .i64 a0_0,.int .i64 a0_1,.int .i64 a0_2,.int .i64 a0_3,.int .i64 a0_4,.int .i64 a0_5,.slice A0_6 l0_6.length c0_6] 24 (0,0)) (by (with_reducible repeat (first|refine zbN ?_ _|refine zbD ?_|refine zbA ?_ _));exact BK161.out) hb);have n1_:=zm (below_step (by repeat (first|(with_reducible first|exact HB.out|apply zlA|apply zlN|apply zlD|refine zlS ?_ GE161.out)|exact HB.out)) hb);have n2_:=zm (hbox);have n3_:=zm ((by rw [hg];exact (below_size (by repeat (first|(with_reducible first|exact HB.out|apply zlA|apply zlN|apply zlD|refine zlS ?_ GE161.out)|exact HB.out))):w.heap.size≤gb162));have n4_:=zm ((by rw [hg];exact (below_size (by repeat (first|(with_reducible first|exact HB.out|apply zlA|apply zlN|apply zlD|refine zlS ?_ GE161.out)|exact HB.out))):w.heap.size≤gb162));have n5_:=zm ((by rw [hg];exact Nat.ne_of_lt (blk_lt (g:=gb161) (o:=.cells #[.int .i64 a0_0,.int .i64 a0_1,.int .i64 a0_2,.int .i64 a0_3,.int .i64 a0_4,.int .i64 a0_5,.slice A0_6 l0_6.length c0_6] 24 (0,0)) (by (with_reducible repeat (first|refine zbN ?_ _|refine zbD ?_|refine zbA ?_ _));exact BK161.out)):gb161≠gb162));have n6_:=zm ((by rw [hg];exact Nat.ne_of_gt (blk_lt (g:=gb161) (o:=.cells #[.int .i64 a0_0,.int .i64 a0_1,.int .i64 a0_2,.int .i64 a0_3,.int .i64 a0_4,.int .i64 a0_5,.slice A0_6 l0_6.length c0_6] 24 (0,0)) (by (with_reducible repeat (first|refine zbN ?_ _|refine zbD ?_|refine zbA ?_ _));exact BK161.out)):gb162≠gb161));clear BK161 HB;have BK161:=n0_;have HB:=n1_;have BK162:=n2_;have GW162:=n3_;have GE162:=n4_;have NB161_162:=n5_;have NB162_161:=n6_;clear n0_ n1_ n2_ n3_ n4_ n5_ n6_;clear hb hbox hg;have hnb12:=NB161_162.out;have hnc12:=NB162_161.out;have hcz13_0:w11.cell? ⟨gb161,0,none⟩=some (.int .i64 a0_0):=(blk_cell BK161.out 0).trans rfl;have hcz13_1:w11.cell? ⟨gb161,1,none⟩=some (.int .i64 a0_1):=(blk_cell BK161.out 1).trans rfl;have hcz13_2:w11.cell? ⟨gb161,2,none⟩=some (.int .i64 a0_2):=(blk_cell BK161.out 2).trans rfl;have hcz13_3:w11.cell? ⟨gb161,3,none⟩=some (.int .i64 a0_3):=(blk_cell BK161.out 3).trans rfl;have hcz13_4:w11.cell? ⟨gb161,4,none⟩=some (.int .i64 a0_4):=(blk_cell BK161.out 4).trans rfl;have hcz13_5:w11.cell? ⟨gb161,5,none⟩=some (.int .i64 a0_5):=(blk_cell BK161.out 5).trans rfl;have hcz13_6:w11.cell? ⟨gb161,6,none⟩=some (.slice A0_6 l0_6.length c0_6):=(blk_cell BK161.out 6).trans rfl;have hfz13_0:=blk_frozen BK161.out 0;have hfz13_1:=blk_frozen BK161.out 1;have hfz13_2:=blk_frozen BK161.out 2;have hfz13_3:=blk_frozen BK161.out 3;have hfz13_4:=blk_frozen BK161.out 4;have hfz13_5:=blk_frozen BK161.out 5;have hfz13_6:=blk_frozen BK161.out 6;have hcz14_0:w11.cell? ⟨gb162,0,none⟩=some (.int .i64 a1_0):=(blk_cell BK162.out 0).trans rfl;have hcz14_1:w11.cell? ⟨gb162,1,none⟩=some (.int .i64 a1_1):=(blk_cell BK162.out 1).trans rfl;have hcz14_2:w11.cell? ⟨gb162,2,none⟩=some (.int .i64 a1_2):=(blk_cell BK162.out 2).trans rfl;have hcz14_3:w11.cell? ⟨gb162,3,none⟩=some (.int .i64 a1_3):=(blk_cell BK162.out 3).trans rfl;have hcz14_4:w11.cell? ⟨gb162,4,none⟩=some (.int .i64 a1_4):=(blk_cell BK162.out 4).trans rfl;have hcz14_5:w11.cell? ⟨gb162,5,none⟩=some (.int .i64 a1_5):=(blk_cell BK162.out 5).trans rfl;have hcz14_6:w11.cell? ⟨gb162,6,none⟩=some (.slice A1_6 l1_6.length c1_6):=(blk_cell BK162.out 6).trans rfl;have hfz14_0:=blk_frozen BK162.out 0;have hfz14_1:=blk_frozen BK162.out 1;have hfz14_2:=blk_frozen BK162.out 2;have hfz14_3:=blk_frozen BK162.out 3;have hfz14_4:=blk_frozen BK162.out 4;have hfz14_5:=blk_frozen BK162.out 5;have hfz14_6:=blk_frozen BK162.out 6)|(go_at_call 34;(with_reducible refine (slipwayref13_Same.calls k _ _ l0_6 _ _ l1_6 t163 _ ?side1 ?side2 ?side3 ?side4 A9.out).mono ?_);(case side1=>repeat (first|exact (Kd.C_below HR0_6.out HB.out)|(with_reducible refine Kd.C_alloc ?_ _)|(with_reducible refine Kd.C_drewN ?_ _)|(with_reducible refine Kd.C_drew ?_)));(case side2=>exact HC0_6.out);(case side3=>repeat (first|exact (Kd.C_below HR1_6.out HB.out)|(with_reducible refine Kd.C_alloc ?_ _)|(with_reducible refine Kd.C_drewN ?_ _)|(with_reducible refine Kd.C_drew ?_)));(case side4=>exact HC1_6.out);rintro e w' ⟨rfl,⟨nd,rfl⟩⟩))
       go_ret
       exact ⟨by first|rfl|(simp [errW_none,errW_some] <;> rfl)|(simp [*,errW_none,errW_some] <;> rfl),by repeat (first|(with_reducible first|exact HB.out|apply zlA|apply zlN|apply zlD|refine zlS ?_ GE161.out|refine zlS ?_ GE162.out)|exact HB.out)⟩
      ·rw [if_neg c8] at H
       have c8b0:(a0_5 == a1_5)=false:=beq_eq_false_iff_ne.mpr c8
       have c8b1:(a0_5 != a1_5)=true:=bne_iff_ne.mpr c8
       obtain rfl:=Option.some.inj H
       go_enter Try.func10,Try.ntmps10
       go_wp2_with (first|((with_reducible refine gate_dst (N:=2) rfl ?_);refine box_event ?hg (N:=2) ?hd (cs:=#[.int .i64 a0_0,.int .i64 a0_1,.int .i64 a0_2,.int .i64 a0_3,.int .i64 a0_4,.int .i64 a0_5,.slice A0_6 l0_6.length c0_6]) (t:=24) ?hr ?_;(case hd=>rfl);(case hg=>rfl);(case hr=>first|(go_simp;done)|(go_simp;rfl));intro gb161 hg w15 hbox hb;have n0_:=zm (below_step (by repeat (first|(with_reducible first|exact HB.out|apply zlA|apply zlN|apply zlD)|exact HB.out)) hb);have n1_:=zm (hbox);have n2_:=zm ((by rw [hg];exact (below_size (by repeat (first|(with_reducible first|exact HB.out|apply zlA|apply zlN|apply zlD)|exact HB.out))):w.heap.size≤gb161));have n3_:=zm ((by rw [hg];exact (below_size (by repeat (first|(with_reducible first|exact HB.out|apply zlA|apply zlN|apply zlD)|exact HB.out))):w.heap.size≤gb161));clear HB;have HB:=n0_;have BK161:=n1_;have GW161:=n2_;have GE161:=n3_;clear n0_ n1_ n2_ n3_;clear hb hbox hg)|((with_reducible refine gate_dst (N:=3) rfl ?_);refine box_event ?hg (N:=3) ?hd (cs:=#[.int .i64 a1_0,.int .i64 a1_1,.int .i64 a1_2,.int .i64 a1_3,.int .i64 a1_4,.int .i64 a1_5,.slice A1_6 l1_6.length c1_6]) (t:=24) ?hr ?_;(case hd=>rfl);(case hg=>rfl);(case hr=>first|(go_simp;done)|(go_simp;rfl));intro gb162 hg w16 hbox hb;have n0_:=zm (zbB (g:=gb161) (o:=.cells #[.int .i64 a0_0,.int .i64 a0_1,.int .i64 a0_2,.int .i64 a0_3,.int .i64 a0_4,.int .i64 a0_5,.slice A0_6 l0_6.length c0_6] 24 (0,0)) (by (with_reducible repeat (first|refine zbN ?_ _|refine zbD ?_|refine zbA ?_ _));exact BK161.out) hb);have n1_:=zm (below_step (by repeat (first|(with_reducible first|exact HB.out|apply zlA|apply zlN|apply zlD|refine zlS ?_ GE161.out)|exact HB.out)) hb);have n2_:=zm (hbox);have n3_:=zm ((by rw [hg];exact (below_size (by repeat (first|(with_reducible first|exact HB.out|apply zlA|apply zlN|apply zlD|refine zlS ?_ GE161.out)|exact HB.out))):w.heap.size≤gb162));have n4_:=zm ((by rw [hg];exact (below_size (by repeat (first|(with_reducible first|exact HB.out|apply zlA|apply zlN|apply zlD|refine zlS ?_ GE161.out)|exact HB.out))):w.heap.size≤gb162));have n5_:=zm ((by rw [hg];exact Nat.ne_of_lt (blk_lt (g:=gb161) (o:=.cells #[.int .i64 a0_0,.int .i64 a0_1,.int .i64 a0_2,.int .i64 a0_3,.int .i64 a0_4,.int .i64 a0_5,.slice A0_6 l0_6.length c0_6] 24 (0,0)) (by (with_reducible repeat (first|refine zbN ?_ _|refine zbD ?_|refine zbA ?_ _));exact BK161.out)):gb161≠gb162));have n6_:=zm ((by rw [hg];exact Nat.ne_of_gt (blk_lt (g:=gb161) (o:=.cells #[.int .i64 a0_0,.int .i64 a0_1,.int .i64 a0_2,.int .i64 a0_3,.int .i64 a0_4,.int .i64 a0_5,.slice A0_6 l0_6.length c0_6] 24 (0,0)) (by (with_reducible repeat (first|refine zbN ?_ _|refine zbD ?_|refine zbA ?_ _));exact BK161.out)):gb162≠gb161));clear BK161 HB;have BK161:=n0_;have HB:=n1_;have BK162:=n2_;have GW162:=n3_;have GE162:=n4_;have NB161_162:=n5_;have NB162_161:=n6_;clear n0_ n1_ n2_ n3_ n4_ n5_ n6_;clear hb hbox hg;have hnb17:=NB161_162.out;have hnc17:=NB162_161.out;have hcz18_0:w16.cell? ⟨gb161,0,none⟩=some (.int .i64 a0_0):=(blk_cell BK161.out 0).trans rfl;have hcz18_1:w16.cell? ⟨gb161,1,none⟩=some (.int .i64 a0_1):=(blk_cell BK161.out 1).trans rfl;have hcz18_2:w16.cell? ⟨gb161,2,none⟩=some (.int .i64 a0_2):=(blk_cell BK161.out 2).trans rfl;have hcz18_3:w16.cell? ⟨gb161,3,none⟩=some (.int .i64 a0_3):=(blk_cell BK161.out 3).trans rfl;have hcz18_4:w16.cell? ⟨gb161,4,none⟩=some (.int .i64 a0_4):=(blk_cell BK161.out 4).trans rfl;have hcz18_5:w16.cell? ⟨gb161,5,none⟩=some (.int .i64 a0_5):=(blk_cell BK161.out 5).trans rfl;have hcz18_6:w16.cell? ⟨gb161,6,none⟩=some (.slice A0_6 l0_6.length c0_6):=(blk_cell BK161.out 6).trans rfl;have hfz18_0:=blk_frozen BK161.out 0;have hfz18_1:=blk_frozen BK161.out 1;have hfz18_2:=blk_frozen BK161.out 2;have hfz18_3:=blk_frozen BK161.out 3;have hfz18_4:=blk_frozen BK161.out 4;have hfz18_5:=blk_frozen BK161.out 5;have hfz18_6:=blk_frozen BK161.out 6;have hcz19_0:w16.cell? ⟨gb162,0,none⟩=some (.int .i64 a1_0):=(blk_cell BK162.out 0).trans rfl;have hcz19_1:w16.cell? ⟨gb162,1,none⟩=some (.int .i64 a1_1):=(blk_cell BK162.out 1).trans rfl;have hcz19_2:w16.cell? ⟨gb162,2,none⟩=some (.int .i64 a1_2):=(blk_cell BK162.out 2).trans rfl;have hcz19_3:w16.cell? ⟨gb162,3,none⟩=some (.int .i64 a1_3):=(blk_cell BK162.out 3).trans rfl;have hcz19_4:w16.cell? ⟨gb162,4,none⟩=some (.int .i64 a1_4):=(blk_cell BK162.out 4).trans rfl;have hcz19_5:w16.cell? ⟨gb162,5,none⟩=some (.int .i64 a1_5):=(blk_cell BK162.out 5).trans rfl;have hcz19_6:w16.cell? ⟨gb162,6,none⟩=some (.slice A1_6 l1_6.length c1_6):=(blk_cell BK162.out 6).trans rfl;have hfz19_0:=blk_frozen BK162.out 0;have hfz19_1:=blk_frozen BK162.out 1;have hfz19_2:=blk_frozen BK162.out 2;have hfz19_3:=blk_frozen BK162.out 3;have hfz19_4:=blk_frozen BK162.out 4;have hfz19_5:=blk_frozen BK162.out 5;have hfz19_6:=blk_frozen BK162.out 6))
       go_ret
       exact ⟨by first|rfl|(simp [errW_none,errW_some] <;> rfl)|(simp [*,errW_none,errW_some] <;> rfl),by repeat (first|(with_reducible first|exact HB.out|apply zlA|apply zlN|apply zlD|refine zlS ?_ GE161.out|refine zlS ?_ GE162.out)|exact HB.out)⟩
     ·rw [if_neg c7] at H
      have c7b0:(a0_4 == a1_4)=false:=beq_eq_false_iff_ne.mpr c7
      have c7b1:(a0_4 != a1_4)=true:=bne_iff_ne.mpr c7
      obtain rfl:=Option.some.inj H
      go_enter Try.func10,Try.ntmps10
      go_wp2_with (first|((with_reducible refine gate_dst (N:=2) rfl ?_);refine box_event ?hg (N:=2) ?hd (cs:=#[.int .i64 a0_0,.int .i64 a0_1,.int .i64 a0_2,.int .i64 a0_3,.int .i64 a0_4,.int .i64 a0_5,.slice A0_6 l0_6.length c0_6]) (t:=24) ?hr ?_;(case hd=>rfl);(case hg=>rfl);(case hr=>first|(go_simp;done)|(go_simp;rfl));intro gb161 hg w20 hbox hb;have n0_:=zm (below_step (by repeat (first|(with_reducible first|exact HB.out|apply zlA|apply zlN|apply zlD)|exact HB.out)) hb);have n1_:=zm (hbox);have n2_:=zm ((by rw [hg];exact (below_size (by repeat (first|(with_reducible first|exact HB.out|apply zlA|apply zlN|apply zlD)|exact HB.out))):w.heap.size≤gb161));have n3_:=zm ((by rw [hg];exact (below_size (by repeat (first|(with_reducible first|exact HB.out|apply zlA|apply zlN|apply zlD)|exact HB.out))):w.heap.size≤gb161));clear HB;have HB:=n0_;have BK161:=n1_;have GW161:=n2_;have GE161:=n3_;clear n0_ n1_ n2_ n3_;clear hb hbox hg)|((with_reducible refine gate_dst (N:=3) rfl ?_);refine box_event ?hg (N:=3) ?hd (cs:=#[.int .i64 a1_0,.int .i64 a1_1,.int .i64 a1_2,.int .i64 a1_3,.int .i64 a1_4,.int .i64 a1_5,.slice A1_6 l1_6.length c1_6]) (t:=24) ?hr ?_;(case hd=>rfl);(case hg=>rfl);(case hr=>first|(go_simp;done)|(go_simp;rfl));intro gb162 hg w21 hbox hb;have n0_:=zm (zbB (g:=gb161) (o:=.cells #[.int .i64 a0_0,.int .i64 a0_1,.int .i64 a0_2,.int .i64 a0_3,.int .i64 a0_4,.int .i64 a0_5,.slice A0_6 l0_6.length c0_6] 24 (0,0)) (by (with_reducible repeat (first|refine zbN ?_ _|refine zbD ?_|refine zbA ?_ _));exact BK161.out) hb);have n1_:=zm (below_step (by repeat (first|(with_reducible first|exact HB.out|apply zlA|apply zlN|apply zlD|refine zlS ?_ GE161.out)|exact HB.out)) hb);have n2_:=zm (hbox);have n3_:=zm ((by rw [hg];exact (below_size (by repeat (first|(with_reducible first|exact HB.out|apply zlA|apply zlN|apply zlD|refine zlS ?_ GE161.out)|exact HB.out))):w.heap.size≤gb162));have n4_:=zm ((by rw [hg];exact (below_size (by repeat (first|(with_reducible first|exact HB.out|apply zlA|apply zlN|apply zlD|refine zlS ?_ GE161.out)|exact HB.out))):w.heap.size≤gb162));have n5_:=zm ((by rw [hg];exact Nat.ne_of_lt (blk_lt (g:=gb161) (o:=.cells #[.int .i64 a0_0,.int .i64 a0_1,.int .i64 a0_2,.int .i64 a0_3,.int .i64 a0_4,.int .i64 a0_5,.slice A0_6 l0_6.length c0_6] 24 (0,0)) (by (with_reducible repeat (first|refine zbN ?_ _|refine zbD ?_|refine zbA ?_ _));exact BK161.out)):gb161≠gb162));have n6_:=zm ((by rw [hg];exact Nat.ne_of_gt (blk_lt (g:=gb161) (o:=.cells #[.int .i64 a0_0,.int .i64 a0_1,.int .i64 a0_2,.int .i64 a0_3,.int .i64 a0_4,.int .i64 a0_5,.slice A0_6 l0_6.length c0_6] 24 (0,0)) (by (with_reducible repeat (first|refine zbN ?_ _|refine zbD ?_|refine zbA ?_ _));exact BK161.out)):gb162≠gb161));clear BK161 HB;have BK161:=n0_;have HB:=n1_;have BK162:=n2_;have GW162:=n3_;have GE162:=n4_;have NB161_162:=n5_;have NB162_161:=n6_;clear n0_ n1_ n2_ n3_ n4_ n5_ n6_;clear hb hbox hg;have hnb22:=NB161_162.out;have hnc22:=NB162_161.out;have hcz23_0:w21.cell? ⟨gb161,0,none⟩=some (.int .i64 a0_0):=(blk_cell BK161.out 0).trans rfl;have hcz23_1:w21.cell? ⟨gb161,1,none⟩=some (.int .i64 a0_1):=(blk_cell BK161.out 1).trans rfl;have hcz23_2:w21.cell? ⟨gb161,2,none⟩=some (.int .i64 a0_2):=(blk_cell BK161.out 2).trans rfl;have hcz23_3:w21.cell? ⟨gb161,3,none⟩=some (.int .i64 a0_3):=(blk_cell BK161.out 3).trans rfl;have hcz23_4:w21.cell? ⟨gb161,4,none⟩=some (.int .i64 a0_4):=(blk_cell BK161.out 4).trans rfl;have hcz23_5:w21.cell? ⟨gb161,5,none⟩=some (.int .i64 a0_5):=(blk_cell BK161.out 5).trans rfl;have hcz23_6:w21.cell? ⟨gb161,6,none⟩=some (.slice A0_6 l0_6.length c0_6):=(blk_cell BK161.out 6).trans rfl;have hfz23_0:=blk_frozen BK161.out 0;have hfz23_1:=blk_frozen BK161.out 1;have hfz23_2:=blk_frozen BK161.out 2;have hfz23_3:=blk_frozen BK161.out 3;have hfz23_4:=blk_frozen BK161.out 4;have hfz23_5:=blk_frozen BK161.out 5;have hfz23_6:=blk_frozen BK161.out 6;have hcz24_0:w21.cell? ⟨gb162,0,none⟩=some (.int .i64 a1_0):=(blk_cell BK162.out 0).trans rfl;have hcz24_1:w21.cell? ⟨gb162,1,none⟩=some (.int .i64 a1_1):=(blk_cell BK162.out 1).trans rfl;have hcz24_2:w21.cell? ⟨gb162,2,none⟩=some (.int .i64 a1_2):=(blk_cell BK162.out 2).trans rfl;have hcz24_3:w21.cell? ⟨gb162,3,none⟩=some (.int .i64 a1_3):=(blk_cell BK162.out 3).trans rfl;have hcz24_4:w21.cell? ⟨gb162,4,none⟩=some (.int .i64 a1_4):=(blk_cell BK162.out 4).trans rfl;have hcz24_5:w21.cell? ⟨gb162,5,none⟩=some (.int .i64 a1_5):=(blk_cell BK162.out 5).trans rfl;have hcz24_6:w21.cell? ⟨gb162,6,none⟩=some (.slice A1_6 l1_6.length c1_6):=(blk_cell BK162.out 6).trans rfl;have hfz24_0:=blk_frozen BK162.out 0;have hfz24_1:=blk_frozen BK162.out 1;have hfz24_2:=blk_frozen BK162.out 2;have hfz24_3:=blk_frozen BK162.out 3;have hfz24_4:=blk_frozen BK162.out 4;have hfz24_5:=blk_frozen BK162.out 5;have hfz24_6:=blk_frozen BK162.out 6))
      go_ret
      exact ⟨by first|rfl|(simp [errW_none,errW_some] <;> rfl)|(simp [*,errW_none,errW_some] <;> rfl),by repeat (first|(with_reducible first|exact HB.out|apply zlA|apply zlN|apply zlD|refine zlS ?_ GE161.out|refine zlS ?_ GE162.out)|exact HB.out)⟩
    ·rw [if_neg c6] at H
     have c6b0:(a0_3 == a1_3)=false:=beq_eq_false_iff_ne.mpr c6
     have c6b1:(a0_3 != a1_3)=true:=bne_iff_ne.mpr c6
     obtain rfl:=Option.some.inj H
     go_enter Try.func10,Try.ntmps10
     go_wp2_with (first|((with_reducible refine gate_dst (N:=2) rfl ?_);refine box_event ?hg (N:=2) ?hd (cs:=#[.int .i64 a0_0,.int .i64 a0_1,.int .i64 a0_2,.int .i64 a0_3,.int .i64 a0_4,.int .i64 a0_5,.slice A0_6 l0_6.length c0_6]) (t:=24) ?hr ?_;(case hd=>rfl);(case hg=>rfl);(case hr=>first|(go_simp;done)|(go_simp;rfl));intro gb161 hg w25 hbox hb;have n0_:=zm (below_step (by repeat (first|(with_reducible first|exact HB.out|apply zlA|apply zlN|apply zlD)|exact HB.out)) hb);have n1_:=zm (hbox);have n2_:=zm ((by rw [hg];exact (below_size (by repeat (first|(with_reducible first|exact HB.out|apply zlA|apply zlN|apply zlD)|exact HB.out))):w.heap.size≤gb161));have n3_:=zm ((by rw [hg];exact (below_size (by repeat (first|(with_reducible first|exact HB.out|apply zlA|apply zlN|apply zlD)|exact HB.out))):w.heap.size≤gb161));clear HB;have HB:=n0_;have BK161:=n1_;have GW161:=n2_;have GE161:=n3_;clear n0_ n1_ n2_ n3_;clear hb hbox hg)|((with_reducible refine gate_dst (N:=3) rfl ?_);refine box_event ?hg (N:=3) ?hd (cs:=#[.int .i64 a1_0,.int .i64 a1_1,.int .i64 a1_2,.int .i64 a1_3,.int .i64 a1_4,.int .i64 a1_5,.slice A1_6 l1_6.length c1_6]) (t:=24) ?hr ?_;(case hd=>rfl);(case hg=>rfl);(case hr=>first|(go_simp;done)|(go_simp;rfl));intro gb162 hg w26 hbox hb;have n0_:=zm (zbB (g:=gb161) (o:=.cells #[.int .i64 a0_0,.int .i64 a0_1,.int .i64 a0_2,.int .i64 a0_3,.int .i64 a0_4,.int .i64 a0_5,.slice A0_6 l0_6.length c0_6] 24 (0,0)) (by (with_reducible repeat (first|refine zbN ?_ _|refine zbD ?_|refine zbA ?_ _));exact BK161.out) hb);have n1_:=zm (below_step (by repeat (first|(with_reducible first|exact HB.out|apply zlA|apply zlN|apply zlD|refine zlS ?_ GE161.out)|exact HB.out)) hb);have n2_:=zm (hbox);have n3_:=zm ((by rw [hg];exact (below_size (by repeat (first|(with_reducible first|exact HB.out|apply zlA|apply zlN|apply zlD|refine zlS ?_ GE161.out)|exact HB.out))):w.heap.size≤gb162));have n4_:=zm ((by rw [hg];exact (below_size (by repeat (first|(with_reducible first|exact HB.out|apply zlA|apply zlN|apply zlD|refine zlS ?_ GE161.out)|exact HB.out))):w.heap.size≤gb162));have n5_:=zm ((by rw [hg];exact Nat.ne_of_lt (blk_lt (g:=gb161) (o:=.cells #[.int .i64 a0_0,.int .i64 a0_1,.int .i64 a0_2,.int .i64 a0_3,.int .i64 a0_4,.int .i64 a0_5,.slice A0_6 l0_6.length c0_6] 24 (0,0)) (by (with_reducible repeat (first|refine zbN ?_ _|refine zbD ?_|refine zbA ?_ _));exact BK161.out)):gb161≠gb162));have n6_:=zm ((by rw [hg];exact Nat.ne_of_gt (blk_lt (g:=gb161) (o:=.cells #[.int .i64 a0_0,.int .i64 a0_1,.int .i64 a0_2,.int .i64 a0_3,.int .i64 a0_4,.int .i64 a0_5,.slice A0_6 l0_6.length c0_6] 24 (0,0)) (by (with_reducible repeat (first|refine zbN ?_ _|refine zbD ?_|refine zbA ?_ _));exact BK161.out)):gb162≠gb161));clear BK161 HB;have BK161:=n0_;have HB:=n1_;have BK162:=n2_;have GW162:=n3_;have GE162:=n4_;have NB161_162:=n5_;have NB162_161:=n6_;clear n0_ n1_ n2_ n3_ n4_ n5_ n6_;clear hb hbox hg;have hnb27:=NB161_162.out;have hnc27:=NB162_161.out;have hcz28_0:w26.cell? ⟨gb161,0,none⟩=some (.int .i64 a0_0):=(blk_cell BK161.out 0).trans rfl;have hcz28_1:w26.cell? ⟨gb161,1,none⟩=some (.int .i64 a0_1):=(blk_cell BK161.out 1).trans rfl;have hcz28_2:w26.cell? ⟨gb161,2,none⟩=some (.int .i64 a0_2):=(blk_cell BK161.out 2).trans rfl;have hcz28_3:w26.cell? ⟨gb161,3,none⟩=some (.int .i64 a0_3):=(blk_cell BK161.out 3).trans rfl;have hcz28_4:w26.cell? ⟨gb161,4,none⟩=some (.int .i64 a0_4):=(blk_cell BK161.out 4).trans rfl;have hcz28_5:w26.cell? ⟨gb161,5,none⟩=some (.int .i64 a0_5):=(blk_cell BK161.out 5).trans rfl;have hcz28_6:w26.cell? ⟨gb161,6,none⟩=some (.slice A0_6 l0_6.length c0_6):=(blk_cell BK161.out 6).trans rfl;have hfz28_0:=blk_frozen BK161.out 0;have hfz28_1:=blk_frozen BK161.out 1;have hfz28_2:=blk_frozen BK161.out 2;have hfz28_3:=blk_frozen BK161.out 3;have hfz28_4:=blk_frozen BK161.out 4;have hfz28_5:=blk_frozen BK161.out 5;have hfz28_6:=blk_frozen BK161.out 6;have hcz29_0:w26.cell? ⟨gb162,0,none⟩=some (.int .i64 a1_0):=(blk_cell BK162.out 0).trans rfl;have hcz29_1:w26.cell? ⟨gb162,1,none⟩=some (.int .i64 a1_1):=(blk_cell BK162.out 1).trans rfl;have hcz29_2:w26.cell? ⟨gb162,2,none⟩=some (.int .i64 a1_2):=(blk_cell BK162.out 2).trans rfl;have hcz29_3:w26.cell? ⟨gb162,3,none⟩=some (.int .i64 a1_3):=(blk_cell BK162.out 3).trans rfl;have hcz29_4:w26.cell? ⟨gb162,4,none⟩=some (.int .i64 a1_4):=(blk_cell BK162.out 4).trans rfl;have hcz29_5:w26.cell? ⟨gb162,5,none⟩=some (.int .i64 a1_5):=(blk_cell BK162.out 5).trans rfl;have hcz29_6:w26.cell? ⟨gb162,6,none⟩=some (.slice A1_6 l1_6.length c1_6):=(blk_cell BK162.out 6).trans rfl;have hfz29_0:=blk_frozen BK162.out 0;have hfz29_1:=blk_frozen BK162.out 1;have hfz29_2:=blk_frozen BK162.out 2;have hfz29_3:=blk_frozen BK162.out 3;have hfz29_4:=blk_frozen BK162.out 4;have hfz29_5:=blk_frozen BK162.out 5;have hfz29_6:=blk_frozen BK162.out 6))
     go_ret
     exact ⟨by first|rfl|(simp [errW_none,errW_some] <;> rfl)|(simp [*,errW_none,errW_some] <;> rfl),by repeat (first|(with_reducible first|exact HB.out|apply zlA|apply zlN|apply zlD|refine zlS ?_ GE161.out|refine zlS ?_ GE162.out)|exact HB.out)⟩
   ·rw [if_neg c5] at H
    have c5b0:(a0_2 == a1_2)=false:=beq_eq_false_iff_ne.mpr c5
    have c5b1:(a0_2 != a1_2)=true:=bne_iff_ne.mpr c5
    obtain rfl:=Option.some.inj H
    go_enter Try.func10,Try.ntmps10
    go_wp2_with (first|((with_reducible refine gate_dst (N:=2) rfl ?_);refine box_event ?hg (N:=2) ?hd (cs:=#[.int .i64 a0_0,.int .i64 a0_1,.int .i64 a0_2,.int .i64 a0_3,.int .i64 a0_4,.int .i64 a0_5,.slice A0_6 l0_6.length c0_6]) (t:=24) ?hr ?_;(case hd=>rfl);(case hg=>rfl);(case hr=>first|(go_simp;done)|(go_simp;rfl));intro gb161 hg w30 hbox hb;have n0_:=zm (below_step (by repeat (first|(with_reducible first|exact HB.out|apply zlA|apply zlN|apply zlD)|exact HB.out)) hb);have n1_:=zm (hbox);have n2_:=zm ((by rw [hg];exact (below_size (by repeat (first|(with_reducible first|exact HB.out|apply zlA|apply zlN|apply zlD)|exact HB.out))):w.heap.size≤gb161));have n3_:=zm ((by rw [hg];exact (below_size (by repeat (first|(with_reducible first|exact HB.out|apply zlA|apply zlN|apply zlD)|exact HB.out))):w.heap.size≤gb161));clear HB;have HB:=n0_;have BK161:=n1_;have GW161:=n2_;have GE161:=n3_;clear n0_ n1_ n2_ n3_;clear hb hbox hg)|((with_reducible refine gate_dst (N:=3) rfl ?_);refine box_event ?hg (N:=3) ?hd (cs:=#[.int .i64 a1_0,.int .i64 a1_1,.int .i64 a1_2,.int .i64 a1_3,.int .i64 a1_4,.int .i64 a1_5,.slice A1_6 l1_6.length c1_6]) (t:=24) ?hr ?_;(case hd=>rfl);(case hg=>rfl);(case hr=>first|(go_simp;done)|(go_simp;rfl));intro gb162 hg w31 hbox hb;have n0_:=zm (zbB (g:=gb161) (o:=.cells #[.int .i64 a0_0,.int .i64 a0_1,.int .i64 a0_2,.int .i64 a0_3,.int .i64 a0_4,.int .i64 a0_5,.slice A0_6 l0_6.length c0_6] 24 (0,0)) (by (with_reducible repeat (first|refine zbN ?_ _|refine zbD ?_|refine zbA ?_ _));exact BK161.out) hb);have n1_:=zm (below_step (by repeat (first|(with_reducible first|exact HB.out|apply zlA|apply zlN|apply zlD|refine zlS ?_ GE161.out)|exact HB.out)) hb);have n2_:=zm (hbox);have n3_:=zm ((by rw [hg];exact (below_size (by repeat (first|(with_reducible first|exact HB.out|apply zlA|apply zlN|apply zlD|refine zlS ?_ GE161.out)|exact HB.out))):w.heap.size≤gb162));have n4_:=zm ((by rw [hg];exact (below_size (by repeat (first|(with_reducible first|exact HB.out|apply zlA|apply zlN|apply zlD|refine zlS ?_ GE161.out)|exact HB.out))):w.heap.size≤gb162));have n5_:=zm ((by rw [hg];exact Nat.ne_of_lt (blk_lt (g:=gb161) (o:=.cells #[.int .i64 a0_0,.int .i64 a0_1,.int .i64 a0_2,.int .i64 a0_3,.int .i64 a0_4,.int .i64 a0_5,.slice A0_6 l0_6.length c0_6] 24 (0,0)) (by (with_reducible repeat (first|refine zbN ?_ _|refine zbD ?_|refine zbA ?_ _));exact BK161.out)):gb161≠gb162));have n6_:=zm ((by rw [hg];exact Nat.ne_of_gt (blk_lt (g:=gb161) (o:=.cells #[.int .i64 a0_0,.int .i64 a0_1,.int .i64 a0_2,.int .i64 a0_3,.int .i64 a0_4,.int .i64 a0_5,.slice A0_6 l0_6.length c0_6] 24 (0,0)) (by (with_reducible repeat (first|refine zbN ?_ _|refine zbD ?_|refine zbA ?_ _));exact BK161.out)):gb162≠gb161));clear BK161 HB;have BK161:=n0_;have HB:=n1_;have BK162:=n2_;have GW162:=n3_;have GE162:=n4_;have NB161_162:=n5_;have NB162_161:=n6_;clear n0_ n1_ n2_ n3_ n4_ n5_ n6_;clear hb hbox hg;have hnb32:=NB161_162.out;have hnc32:=NB162_161.out;have hcz33_0:w31.cell? ⟨gb161,0,none⟩=some (.int .i64 a0_0):=(blk_cell BK161.out 0).trans rfl;have hcz33_1:w31.cell? ⟨gb161,1,none⟩=some (.int .i64 a0_1):=(blk_cell BK161.out 1).trans rfl;have hcz33_2:w31.cell? ⟨gb161,2,none⟩=some (.int .i64 a0_2):=(blk_cell BK161.out 2).trans rfl;have hcz33_3:w31.cell? ⟨gb161,3,none⟩=some (.int .i64 a0_3):=(blk_cell BK161.out 3).trans rfl;have hcz33_4:w31.cell? ⟨gb161,4,none⟩=some (.int .i64 a0_4):=(blk_cell BK161.out 4).trans rfl;have hcz33_5:w31.cell? ⟨gb161,5,none⟩=some (.int .i64 a0_5):=(blk_cell BK161.out 5).trans rfl;have hcz33_6:w31.cell? ⟨gb161,6,none⟩=some (.slice A0_6 l0_6.length c0_6):=(blk_cell BK161.out 6).trans rfl;have hfz33_0:=blk_frozen BK161.out 0;have hfz33_1:=blk_frozen BK161.out 1;have hfz33_2:=blk_frozen BK161.out 2;have hfz33_3:=blk_frozen BK161.out 3;have hfz33_4:=blk_frozen BK161.out 4;have hfz33_5:=blk_frozen BK161.out 5;have hfz33_6:=blk_frozen BK161.out 6;have hcz34_0:w31.cell? ⟨gb162,0,none⟩=some (.int .i64 a1_0):=(blk_cell BK162.out 0).trans rfl;have hcz34_1:w31.cell? ⟨gb162,1,none⟩=some (.int .i64 a1_1):=(blk_cell BK162.out 1).trans rfl;have hcz34_2:w31.cell? ⟨gb162,2,none⟩=some (.int .i64 a1_2):=(blk_cell BK162.out 2).trans rfl;have hcz34_3:w31.cell? ⟨gb162,3,none⟩=some (.int .i64 a1_3):=(blk_cell BK162.out 3).trans rfl;have hcz34_4:w31.cell? ⟨gb162,4,none⟩=some (.int .i64 a1_4):=(blk_cell BK162.out 4).trans rfl;have hcz34_5:w31.cell? ⟨gb162,5,none⟩=some (.int .i64 a1_5):=(blk_cell BK162.out 5).trans rfl;have hcz34_6:w31.cell? ⟨gb162,6,none⟩=some (.slice A1_6 l1_6.length c1_6):=(blk_cell BK162.out 6).trans rfl;have hfz34_0:=blk_frozen BK162.out 0;have hfz34_1:=blk_frozen BK162.out 1;have hfz34_2:=blk_frozen BK162.out 2;have hfz34_3:=blk_frozen BK162.out 3;have hfz34_4:=blk_frozen BK162.out 4;have hfz34_5:=blk_frozen BK162.out 5;have hfz34_6:=blk_frozen BK162.out 6))
    go_ret
    exact ⟨by first|rfl|(simp [errW_none,errW_some] <;> rfl)|(simp [*,errW_none,errW_some] <;> rfl),by repeat (first|(with_reducible first|exact HB.out|apply zlA|apply zlN|apply zlD|refine zlS ?_ GE161.out|refine zlS ?_ GE162.out)|exact HB.out)⟩
  ·rw [if_neg c4] at H
   have c4b0:(a0_1 == a1_1)=false:=beq_eq_false_iff_ne.mpr c4
   have c4b1:(a0_1 != a1_1)=true:=bne_iff_ne.mpr c4
   obtain rfl:=Option.some.inj H
   go_enter Try.func10,Try.ntmps10
   go_wp2_with (first|((with_reducible refine gate_dst (N:=2) rfl ?_);refine box_event ?hg (N:=2) ?hd (cs:=#[.int .i64 a0_0,.int .i64 a0_1,.int .i64 a0_2,.int .i64 a0_3,.int .i64 a0_4,.int .i64 a0_5,.slice A0_6 l0_6.length c0_6]) (t:=24) ?hr ?_;(case hd=>rfl);(case hg=>rfl);(case hr=>first|(go_simp;done)|(go_simp;rfl));intro gb161 hg w35 hbox hb;have n0_:=zm (below_step (by repeat (first|(with_reducible first|exact HB.out|apply zlA|apply zlN|apply zlD)|exact HB.out)) hb);have n1_:=zm (hbox);have n2_:=zm ((by rw [hg];exact (below_size (by repeat (first|(with_reducible first|exact HB.out|apply zlA|apply zlN|apply zlD)|exact HB.out))):w.heap.size≤gb161));have n3_:=zm ((by rw [hg];exact (below_size (by repeat (first|(with_reducible first|exact HB.out|apply zlA|apply zlN|apply zlD)|exact HB.out))):w.heap.size≤gb161));clear HB;have HB:=n0_;have BK161:=n1_;have GW161:=n2_;have GE161:=n3_;clear n0_ n1_ n2_ n3_;clear hb hbox hg)|((with_reducible refine gate_dst (N:=3) rfl ?_);refine box_event ?hg (N:=3) ?hd (cs:=#[.int .i64 a1_0,.int .i64 a1_1,.int .i64 a1_2,.int .i64 a1_3,.int .i64 a1_4,.int .i64 a1_5,.slice A1_6 l1_6.length c1_6]) (t:=24) ?hr ?_;(case hd=>rfl);(case hg=>rfl);(case hr=>first|(go_simp;done)|(go_simp;rfl));intro gb162 hg w36 hbox hb;have n0_:=zm (zbB (g:=gb161) (o:=.cells #[.int .i64 a0_0,.int .i64 a0_1,.int .i64 a0_2,.int .i64 a0_3,.int .i64 a0_4,.int .i64 a0_5,.slice A0_6 l0_6.length c0_6] 24 (0,0)) (by (with_reducible repeat (first|refine zbN ?_ _|refine zbD ?_|refine zbA ?_ _));exact BK161.out) hb);have n1_:=zm (below_step (by repeat (first|(with_reducible first|exact HB.out|apply zlA|apply zlN|apply zlD|refine zlS ?_ GE161.out)|exact HB.out)) hb);have n2_:=zm (hbox);have n3_:=zm ((by rw [hg];exact (below_size (by repeat (first|(with_reducible first|exact HB.out|apply zlA|apply zlN|apply zlD|refine zlS ?_ GE161.out)|exact HB.out))):w.heap.size≤gb162));have n4_:=zm ((by rw [hg];exact (below_size (by repeat (first|(with_reducible first|exact HB.out|apply zlA|apply zlN|apply zlD|refine zlS ?_ GE161.out)|exact HB.out))):w.heap.size≤gb162));have n5_:=zm ((by rw [hg];exact Nat.ne_of_lt (blk_lt (g:=gb161) (o:=.cells #[.int .i64 a0_0,.int .i64 a0_1,.int .i64 a0_2,.int .i64 a0_3,.int .i64 a0_4,.int .i64 a0_5,.slice A0_6 l0_6.length c0_6] 24 (0,0)) (by (with_reducible repeat (first|refine zbN ?_ _|refine zbD ?_|refine zbA ?_ _));exact BK161.out)):gb161≠gb162));have n6_:=zm ((by rw [hg];exact Nat.ne_of_gt (blk_lt (g:=gb161) (o:=.cells #[.int .i64 a0_0,.int .i64 a0_1,.int .i64 a0_2,.int .i64 a0_3,.int .i64 a0_4,.int .i64 a0_5,.slice A0_6 l0_6.length c0_6] 24 (0,0)) (by (with_reducible repeat (first|refine zbN ?_ _|refine zbD ?_|refine zbA ?_ _));exact BK161.out)):gb162≠gb161));clear BK161 HB;have BK161:=n0_;have HB:=n1_;have BK162:=n2_;have GW162:=n3_;have GE162:=n4_;have NB161_162:=n5_;have NB162_161:=n6_;clear n0_ n1_ n2_ n3_ n4_ n5_ n6_;clear hb hbox hg;have hnb37:=NB161_162.out;have hnc37:=NB162_161.out;have hcz38_0:w36.cell? ⟨gb161,0,none⟩=some (.int .i64 a0_0):=(blk_cell BK161.out 0).trans rfl;have hcz38_1:w36.cell? ⟨gb161,1,none⟩=some (.int .i64 a0_1):=(blk_cell BK161.out 1).trans rfl;have hcz38_2:w36.cell? ⟨gb161,2,none⟩=some (.int .i64 a0_2):=(blk_cell BK161.out 2).trans rfl;have hcz38_3:w36.cell? ⟨gb161,3,none⟩=some (.int .i64 a0_3):=(blk_cell BK161.out 3).trans rfl;have hcz38_4:w36.cell? ⟨gb161,4,none⟩=some (.int .i64 a0_4):=(blk_cell BK161.out 4).trans rfl;have hcz38_5:w36.cell? ⟨gb161,5,none⟩=some (.int .i64 a0_5):=(blk_cell BK161.out 5).trans rfl;have hcz38_6:w36.cell? ⟨gb161,6,none⟩=some (.slice A0_6 l0_6.length c0_6):=(blk_cell BK161.out 6).trans rfl;have hfz38_0:=blk_frozen BK161.out 0;have hfz38_1:=blk_frozen BK161.out 1;have hfz38_2:=blk_frozen BK161.out 2;have hfz38_3:=blk_frozen BK161.out 3;have hfz38_4:=blk_frozen BK161.out 4;have hfz38_5:=blk_frozen BK161.out 5;have hfz38_6:=blk_frozen BK161.out 6;have hcz39_0:w36.cell? ⟨gb162,0,none⟩=some (.int .i64 a1_0):=(blk_cell BK162.out 0).trans rfl;have hcz39_1:w36.cell? ⟨gb162,1,none⟩=some (.int .i64 a1_1):=(blk_cell BK162.out 1).trans rfl;have hcz39_2:w36.cell? ⟨gb162,2,none⟩=some (.int .i64 a1_2):=(blk_cell BK162.out 2).trans rfl;have hcz39_3:w36.cell? ⟨gb162,3,none⟩=some (.int .i64 a1_3):=(blk_cell BK162.out 3).trans rfl;have hcz39_4:w36.cell? ⟨gb162,4,none⟩=some (.int .i64 a1_4):=(blk_cell BK162.out 4).trans rfl;have hcz39_5:w36.cell? ⟨gb162,5,none⟩=some (.int .i64 a1_5):=(blk_cell BK162.out 5).trans rfl;have hcz39_6:w36.cell? ⟨gb162,6,none⟩=some (.slice A1_6 l1_6.length c1_6):=(blk_cell BK162.out 6).trans rfl;have hfz39_0:=blk_frozen BK162.out 0;have hfz39_1:=blk_frozen BK162.out 1;have hfz39_2:=blk_frozen BK162.out 2;have hfz39_3:=blk_frozen BK162.out 3;have hfz39_4:=blk_frozen BK162.out 4;have hfz39_5:=blk_frozen BK162.out 5;have hfz39_6:=blk_frozen BK162.out 6))
   go_ret
   exact ⟨by first|rfl|(simp [errW_none,errW_some] <;> rfl)|(simp [*,errW_none,errW_some] <;> rfl),by repeat (first|(with_reducible first|exact HB.out|apply zlA|apply zlN|apply zlD|refine zlS ?_ GE161.out|refine zlS ?_ GE162.out)|exact HB.out)⟩
 ·rw [if_neg c3] at H
  have c3b0:(a0_0 == a1_0)=false:=beq_eq_false_iff_ne.mpr c3
  have c3b1:(a0_0 != a1_0)=true:=bne_iff_ne.mpr c3
  obtain rfl:=Option.some.inj H
  go_enter Try.func10,Try.ntmps10
  go_wp2_with (first|((with_reducible refine gate_dst (N:=2) rfl ?_);refine box_event ?hg (N:=2) ?hd (cs:=#[.int .i64 a0_0,.int .i64 a0_1,.int .i64 a0_2,.int .i64 a0_3,.int .i64 a0_4,.int .i64 a0_5,.slice A0_6 l0_6.length c0_6]) (t:=24) ?hr ?_;(case hd=>rfl);(case hg=>rfl);(case hr=>first|(go_simp;done)|(go_simp;rfl));intro gb161 hg w40 hbox hb;have n0_:=zm (below_step (by repeat (first|(with_reducible first|exact HB.out|apply zlA|apply zlN|apply zlD)|exact HB.out)) hb);have n1_:=zm (hbox);have n2_:=zm ((by rw [hg];exact (below_size (by repeat (first|(with_reducible first|exact HB.out|apply zlA|apply zlN|apply zlD)|exact HB.out))):w.heap.size≤gb161));have n3_:=zm ((by rw [hg];exact (below_size (by repeat (first|(with_reducible first|exact HB.out|apply zlA|apply zlN|apply zlD)|exact HB.out))):w.heap.size≤gb161));clear HB;have HB:=n0_;have BK161:=n1_;have GW161:=n2_;have GE161:=n3_;clear n0_ n1_ n2_ n3_;clear hb hbox hg)|((with_reducible refine gate_dst (N:=3) rfl ?_);refine box_event ?hg (N:=3) ?hd (cs:=#[.int .i64 a1_0,.int .i64 a1_1,.int .i64 a1_2,.int .i64 a1_3,.int .i64 a1_4,.int .i64 a1_5,.slice A1_6 l1_6.length c1_6]) (t:=24) ?hr ?_;(case hd=>rfl);(case hg=>rfl);(case hr=>first|(go_simp;done)|(go_simp;rfl));intro gb162 hg w41 hbox hb;have n0_:=zm (zbB (g:=gb161) (o:=.cells #[.int .i64 a0_0,.int .i64 a0_1,.int .i64 a0_2,.int .i64 a0_3,.int .i64 a0_4,.int .i64 a0_5,.slice A0_6 l0_6.length c0_6] 24 (0,0)) (by (with_reducible repeat (first|refine zbN ?_ _|refine zbD ?_|refine zbA ?_ _));exact BK161.out) hb);have n1_:=zm (below_step (by repeat (first|(with_reducible first|exact HB.out|apply zlA|apply zlN|apply zlD|refine zlS ?_ GE161.out)|exact HB.out)) hb);have n2_:=zm (hbox);have n3_:=zm ((by rw [hg];exact (below_size (by repeat (first|(with_reducible first|exact HB.out|apply zlA|apply zlN|apply zlD|refine zlS ?_ GE161.out)|exact HB.out))):w.heap.size≤gb162));have n4_:=zm ((by rw [hg];exact (below_size (by repeat (first|(with_reducible first|exact HB.out|apply zlA|apply zlN|apply zlD|refine zlS ?_ GE161.out)|exact HB.out))):w.heap.size≤gb162));have n5_:=zm ((by rw [hg];exact Nat.ne_of_lt (blk_lt (g:=gb161) (o:=.cells #[.int .i64 a0_0,.int .i64 a0_1,.int .i64 a0_2,.int .i64 a0_3,.int .i64 a0_4,.int .i64 a0_5,.slice A0_6 l0_6.length c0_6] 24 (0,0)) (by (with_reducible repeat (first|refine zbN ?_ _|refine zbD ?_|refine zbA ?_ _));exact BK161.out)):gb161≠gb162));have n6_:=zm ((by rw [hg];exact Nat.ne_of_gt (blk_lt (g:=gb161) (o:=.cells #[.int .i64 a0_0,.int .i64 a0_1,.int .i64 a0_2,.int .i64 a0_3,.int .i64 a0_4,.int .i64 a0_5,.slice A0_6 l0_6.length c0_6] 24 (0,0)) (by (with_reducible repeat (first|refine zbN ?_ _|refine zbD ?_|refine zbA ?_ _));exact BK161.out)):gb162≠gb161));clear BK161 HB;have BK161:=n0_;have HB:=n1_;have BK162:=n2_;have GW162:=n3_;have GE162:=n4_;have NB161_162:=n5_;have NB162_161:=n6_;clear n0_ n1_ n2_ n3_ n4_ n5_ n6_;clear hb hbox hg;have hnb42:=NB161_162.out;have hnc42:=NB162_161.out;have hcz43_0:w41.cell? ⟨gb161,0,none⟩=some (.int .i64 a0_0):=(blk_cell BK161.out 0).trans rfl;have hcz43_1:w41.cell? ⟨gb161,1,none⟩=some (.int .i64 a0_1):=(blk_cell BK161.out 1).trans rfl;have hcz43_2:w41.cell? ⟨gb161,2,none⟩=some (.int .i64 a0_2):=(blk_cell BK161.out 2).trans rfl;have hcz43_3:w41.cell? ⟨gb161,3,none⟩=some (.int .i64 a0_3):=(blk_cell BK161.out 3).trans rfl;have hcz43_4:w41.cell? ⟨gb161,4,none⟩=some (.int .i64 a0_4):=(blk_cell BK161.out 4).trans rfl;have hcz43_5:w41.cell? ⟨gb161,5,none⟩=some (.int .i64 a0_5):=(blk_cell BK161.out 5).trans rfl;have hcz43_6:w41.cell? ⟨gb161,6,none⟩=some (.slice A0_6 l0_6.length c0_6):=(blk_cell BK161.out 6).trans rfl;have hfz43_0:=blk_frozen BK161.out 0;have hfz43_1:=blk_frozen BK161.out 1;have hfz43_2:=blk_frozen BK161.out 2;have hfz43_3:=blk_frozen BK161.out 3;have hfz43_4:=blk_frozen BK161.out 4;have hfz43_5:=blk_frozen BK161.out 5;have hfz43_6:=blk_frozen BK161.out 6;have hcz44_0:w41.cell? ⟨gb162,0,none⟩=some (.int .i64 a1_0):=(blk_cell BK162.out 0).trans rfl;have hcz44_1:w41.cell? ⟨gb162,1,none⟩=some (.int .i64 a1_1):=(blk_cell BK162.out 1).trans rfl;have hcz44_2:w41.cell? ⟨gb162,2,none⟩=some (.int .i64 a1_2):=(blk_cell BK162.out 2).trans rfl;have hcz44_3:w41.cell? ⟨gb162,3,none⟩=some (.int .i64 a1_3):=(blk_cell BK162.out 3).trans rfl;have hcz44_4:w41.cell? ⟨gb162,4,none⟩=some (.int .i64 a1_4):=(blk_cell BK162.out 4).trans rfl;have hcz44_5:w41.cell? ⟨gb162,5,none⟩=some (.int .i64 a1_5):=(blk_cell BK162.out 5).trans rfl;have hcz44_6:w41.cell? ⟨gb162,6,none⟩=some (.slice A1_6 l1_6.length c1_6):=(blk_cell BK162.out 6).trans rfl;have hfz44_0:=blk_frozen BK162.out 0;have hfz44_1:=blk_frozen BK162.out 1;have hfz44_2:=blk_frozen BK162.out 2;have hfz44_3:=blk_frozen BK162.out 3;have hfz44_4:=blk_frozen BK162.out 4;have hfz44_5:=blk_frozen BK162.out 5;have hfz44_6:=blk_frozen BK162.out 6))
  go_ret
  exact ⟨by first|rfl|(simp [errW_none,errW_some] <;> rfl)|(simp [*,errW_none,errW_some] <;> rfl),by repeat (first|(with_reducible first|exact HB.out|apply zlA|apply zlN|apply zlD|refine zlS ?_ GE161.out|refine zlS ?_ GE162.out)|exact HB.out)⟩
end Go.Proofs.Ytjoojmodghpimaa.Print
end
