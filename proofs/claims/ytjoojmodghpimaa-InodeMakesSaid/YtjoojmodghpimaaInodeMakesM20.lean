/- Texts of the proof of InodeMakes, part 20. -/
import Derived.Test.YtjoojmodghpimaaInodeMakesM14
import Derived.Test.YtjoojmodghpimaaInodeMakesMA
import Derived.Test.YtjoojmodghpimaaInodeMakesM19
import Derived.Test.YtjoojmodghpimaaInodeMakesM12
section
namespace Go.Proofs.Ytjoojmodghpimaa.Print
open Go.RowKit Go.Proofs.YtjoojmodghpimaaW.PrintWords Go.Proofs.YtjoojmodghpimaaW.PrintLast Go.Proofs.YtjoojmodghpimaaW.PrintMore
attribute [local go_sem] max2_int min2_int max_two min_two max_three min_three max_four min_four   -- for this text's walks alone
attribute [local go_sem ↓] Go.Proofs.Ytjoojmodghpimaa.Sem.isSome_setCell
attribute [local go_sem] Go.Instr.field Go.asAgg
set_option linter.unusedVariables false
set_option linter.unusedSimpArgs false
-- CX
def inode_Decode.go (k:Nat) (b:List Int):Nat → Nat → List S51 → Option (List S51)
 | 0,_,r=>some r
 | d + 1,i,r=>(seal_Unpack.f k [24,16,32] ((b.take (24 + (i + 1) * 9)).drop (24 + i * 9))).bind fun p=>if p.2=0 then (if p.1.length=3 then inode_Decode.go k b d (i + 1) (r ++ [⟨wrap64 (rd p.1 0),wrap64 (rd p.1 1),wrap64 (rd p.1 2)⟩]) else none) else none
def inode_Decode.f (k:Nat) (l0:List Int):Option (Int × Int × Int × Int × Int × Int × (List (S51)) × Int) :=
 if l0.length=64 then
 (seal_Width.f k [8,8,8,8,32,64,32,32]).bind fun n=>if n=(24,0) then (seal_Width.f k [24,16,32]).bind fun s=>if s=(9,0) then
 (seal_Unpack.f k [8,8,8,8,32,64,32,32] (l0.take 24)).bind fun l=>if l.2=0 then if l.1.length=8 then
 if rd l.1 2 > 4 then some (0,0,0,0,0,0,[],140) else if rd l.1 5 > 16777216 then some (0,0,0,0,0,0,[],140) else
 if 0≤rd l.1 2 then
 (inode_Decode.go k l0 (rd l.1 2).toNat 0 []).bind fun r =>
 (inode_Encode.f k (wrap64 (rd l.1 0)) (wrap64 (rd l.1 4)) (wrap64 (rd l.1 5)) (wrap64 (rd l.1 6)) (wrap64 (rd l.1 7)) (wrap64 (rd l.1 1)) r).bind fun p=>if p.2=0 then
 (slices_Equal_byte_byte.f k p.1 l0).bind fun t=>if t=true then some (wrap64 (rd l.1 0),wrap64 (rd l.1 4),wrap64 (rd l.1 5),wrap64 (rd l.1 6),wrap64 (rd l.1 7),wrap64 (rd l.1 1),r,0) else some (0,0,0,0,0,0,[],140)
 else some (0,0,0,0,0,0,[],140)
 else none else none else none else none else none
 else some (0,0,0,0,0,0,[],140)
section
variable {ops : Array Oper} {rest : List Oper} {o : Oper} {a : Act} {Q : Exit → Act → World → Prop} {W : World} {g : Nat} {p : Operand} {x0 x1 x2 x3 x4 x5 x6 : Value}
theorem ID_st7 {x:Operand} {n0 n1 n2 n3 n4 n5:Int} {A:Option Addr} {n c:Nat} (hop:o.op=.store 24 p x) (hp:a.eval p=.pointer (some ⟨g,0,none⟩)) (hx:a.eval x=.agg #[.int .i64 n0,.int .i64 n1,.int .i64 n2,.int .i64 n3,.int .i64 n4,.int .i64 n5,.slice A n c]) (hb:W.heap[g]?=some (.cells #[x0,x1,x2,x3,x4,x5,x6] 24 (0,0))) :
  (execOp a.eval o).run Try.prog W=.ok .skip (Cw.setL W g 0 [.int .i64 n0,.int .i64 n1,.int .i64 n2,.int .i64 n3,.int .i64 n4,.int .i64 n5,.slice A n c]):=by
 have hu:=Try.underlying24
 have c0:W.cell? ⟨g,0,none⟩=some x0:=(blk_cell hb 0).trans rfl
 have c1:W.cell? ⟨g,1,none⟩=some x1:=(blk_cell hb 1).trans rfl
 have c2:W.cell? ⟨g,2,none⟩=some x2:=(blk_cell hb 2).trans rfl
 have c3:W.cell? ⟨g,3,none⟩=some x3:=(blk_cell hb 3).trans rfl
 have c4:W.cell? ⟨g,4,none⟩=some x4:=(blk_cell hb 4).trans rfl
 have c5:W.cell? ⟨g,5,none⟩=some x5:=(blk_cell hb 5).trans rfl
 have c6:W.cell? ⟨g,6,none⟩=some x6:=(blk_cell hb 6).trans rfl
 have f0:=blk_frozen hb 0
 have f1:=blk_frozen hb 1
 have f2:=blk_frozen hb 2
 have f3:=blk_frozen hb 3
 have f4:=blk_frozen hb 4
 have f5:=blk_frozen hb 5
 have f6:=blk_frozen hb 6
 simp only [execOp,hop,hp,hx]
 go_simp
 rfl
theorem ID_mid {α:Type} {d:Kd α} (hs:d.sz=1) {w:World} {A:Option Addr} {xs:List α} {lo hi c:Nat} (h:d.C w A xs.length xs) (h1:lo≤hi) (h2:hi≤xs.length) (hc:xs.length≤c):d.C w (if c=lo then A else A.map (fun x=>x.add lo)) ((xs.take hi).drop lo).length ((xs.take hi).drop lo):=by
 have:=Kd.C_mid (c:=c) h h1 h2 hc
 rw [hs,Nat.mul_one] at this
 exact this
theorem ID_lo {j:Nat} (h:(j:Int)≤3):wrap64 (24 + wrap64 ((j:Int) * 9))=((24 + j * 9:Nat):Int):=by unfold wrap64;omega
theorem ID_hi {j:Nat} (h:(j:Int)≤3):wrap64 (24 + wrap64 (wrap64 ((j:Int) + 1) * 9))=((24 + (j + 1) * 9:Nat):Int):=by unfold wrap64;omega
theorem ID_cut {s x y:Operand} {A0:Option Addr} {n c0:Nat} {lo hi:Int} (hop:o.op=.slice 25 s (some x) (some y) none) (hs:a.eval s=.slice A0 n c0) (hx:a.eval x=.int .i64 lo) (hy:a.eval y=.int .i64 hi) (h0:0≤lo) (h1:lo≤hi) (h2:hi≤(c0:Int)) :
  (execOp a.eval o).run Try.prog W=.ok (.value (.slice (if c0=lo.toNat then A0 else A0.map (·.add (lo.toNat * 1))) (hi.toNat - lo.toNat) (c0 - lo.toNat))) W:=by
 obtain ⟨i0,hi0,hzz⟩:=Option.map_eq_some_iff.1 info5
 simp only [Prod.mk.injEq] at hzz
 have hel:Try.prog.elem 25=5:=by simp [Program.elem,Try.underlying25]
 have hu:Try.prog.underlying 25=some (.slice (Try.prog.elem 25)):=by rw [hel];exact Try.underlying25
 have h:=run_slice_lh W 25 A0 n c0 hu .i64 .i64 lo hi h0 h1 h2
 rw [hel] at h
 generalize hE:a.eval=ev at hs hx hy ⊢
 simp only [execOp,hop,hs,hx,hy,Option.map_some,Option.map_none]
 have hs':=(run_sliceAt_slice (P:=Try.prog) (w:=W) 25 (.slice A0 n c0) (some (.int .i64 lo)) (some (.int .i64 hi)) none hu).trans h
 simp [hs',sizeOf,typeInfo,hi0,hzz.2.1,sliced,Result.andThen]
theorem ID_add0 (ad:Addr):ad.add 0=ad:=by unfold Addr.add;simp
theorem ID_u64 {ad:Addr} {n i:Nat} {xs:List Int} (hop:o.op=.load 58 p) (hp:a.eval p=.pointer (some ⟨ad.block,ad.off + i,none⟩)) (hC:(Kd.int .u64).C W (some ad) n xs) (h1:i < n) (h0:0 < i):(execOp a.eval o).run Try.prog W=.ok (.value (.int .u64 (rd xs (i:Int)))) W:=by
 obtain ⟨ad',e,hc⟩:=Kd.at_int hC (i:Int) (by omega) (by omega)
 obtain rfl:=Option.some.inj e
 have ha:=add_field ad 0 i h0
 rw [ID_add0,Nat.zero_add] at ha
 rw [Int.toNat_natCast,ha] at hc
 simp only [execOp,hop,hp]
 go_simp
theorem ID_u64z {ad:Addr} {n:Nat} {xs:List Int} (hop:o.op=.load 58 p) (hp:a.eval p=.pointer (some ad)) (hC:(Kd.int .u64).C W (some ad) n xs) (h1:0 < n):(execOp a.eval o).run Try.prog W=.ok (.value (.int .u64 (rd xs 0))) W:=by
 obtain ⟨ad',e,hc⟩:=Kd.at_int hC 0 (by omega) (by omega)
 obtain rfl:=Option.some.inj e
 have e0:(0:Int).toNat=0:=rfl
 rw [e0,ID_add0] at hc
 simp only [execOp,hop,hp]
 go_simp
end
theorem ID_unpack (k:Nat) (A0:Option Addr) (c0 n0:Nat) (l0:List Int) (A1:Option Addr) (c1 n1:Nat) (l1:List Int) (r1:List Int) (r2:Int) (w:World) (e0:l0.length=n0) (e1:l1.length=n1) (hr0:Kd.C (Kd.int .i64) w A0 l0.length l0) (hc0:l0.length≤c0) (hr1:Kd.C (Kd.int .u8) w A1 l1.length l1) (hc1:l1.length≤c1) (h:seal_Unpack.f k l0 l1=some (r1,r2)) :
  Calls Try.prog 32 #[.slice A0 n0 c0,.slice A1 n1 c1] w fun e w'=>∃ (A:Option Addr) (c:Nat),e=.returned (.tuple #[.slice A r1.length c,.int .i64 r2])∧r1.length≤c∧Kd.C (Kd.int .u64) w' A r1.length r1∧Below w.heap.size w w':=by
 subst e0 e1
 refine (seal_Unpack.calls k A0 c0 l0 A1 c1 l1 r1 r2 w hr0 hc0 hr1 hc1 h).mono ?_
 rintro e w' ⟨v,rfl,ho,hb⟩
 obtain ⟨A,c,rfl,hl,hC⟩:=Kd.R_reads ho
 exact ⟨A,c,rfl,hl,hC,hb⟩
theorem ID_new24 {o:Oper} {a:Act} {W:World} (hop:o.op=.alloc 24) :
  (execOp a.eval o).run Try.prog W=.ok (.value (.pointer (some ⟨W.heap.size,0,none⟩))) (W.alloc (.cells #[.int .i64 0,.int .i64 0,.int .i64 0,.int .i64 0,.int .i64 0,.int .i64 0,.slice none 0 0] 24 (0,0))):=by
 simp only [execOp,hop]
 go_simp
theorem ID_lit1 {o:Oper} {a:Act} {W:World} {y:Operand} {n0 n1 n2:Int} (hop:o.op=.buildSlice 22 1 #[(0,y)]) (hy:a.eval y=.agg #[.int .i64 n0,.int .i64 n1,.int .i64 n2]) :
  (execOp a.eval o).run Try.prog W=.ok (.value (.slice (some ⟨W.heap.size,0,none⟩) 1 1)) (W.alloc (.cells #[.int .i64 n0,.int .i64 n1,.int .i64 n2] 51 (0,0))):=by
 generalize hE:a.eval=ev at hy ⊢
 simp only [execOp,hop]
 go_simp
theorem ID_st1 {o:Oper} {a:Act} {W:World} {g n c:Nat} {A:Option Addr} {p x:Operand} {x0 x1 x2 x3 x4 x5 x6:Value} (hop:o.op=.store 22 p x) (hp:a.eval p=.pointer (some ⟨g,6,none⟩)) (hx:a.eval x=.slice A n c) (hb:W.heap[g]?=some (.cells #[x0,x1,x2,x3,x4,x5,x6] 24 (0,0))) :
  (execOp a.eval o).run Try.prog W=.ok .skip (W.setCell ⟨g,6,none⟩ (.slice A n c)):=by
 have c6:W.cell? ⟨g,6,none⟩=some x6:=(blk_cell hb 6).trans rfl
 have f6:=blk_frozen hb 6
 simp only [execOp,hop,hp,hx]
 go_simp
theorem ID_meas {j:Nat} {m:Int} (hm:(j:Int) < m):m.toNat - (intOf (.int .i64 ((j:Int) + 1))).toNat < m.toNat - (intOf (.int .i64 (j:Int))).toNat:=by
 simp only [intOf,Int.toNat_natCast]
 omega
theorem ID_R1 {w wd:World} {g t:Nat} {x:S51} (hB:w.heap[g]?=some (.cells #[.int .i64 x.f0,.int .i64 x.f1,.int .i64 x.f2] t (0,0))):ReadsRow (k51.K wd) k51.sz w (some ⟨g,0,none⟩) 1 [x]:=by
 refine ⟨rfl,by omega,fun _=>⟨_,rfl,fun j p hj=>?_⟩⟩
 rcases j with _|j
 ·cases hj
  refine ⟨[.int .i64 x.f0,.int .i64 x.f1,.int .i64 x.f2],rfl,k51_mk _ _,fun i u hu=>?_⟩
  show w.cell? ((⟨g,0,none⟩:Addr).add (0 * 3 + i))=_
  rw [Nat.zero_mul,Nat.zero_add,add_plain,blk_cell hB]
  simpa using hu
 ·simp at hj
set_option maxHeartbeats 4000000 in
set_option maxRecDepth 100000 in
theorem inode_Decode.calls (k:Nat) (A0:Option Addr) (c0:Nat) (l0:List Int) (r1:Int) (r2:Int) (r3:Int) (r4:Int) (r5:Int) (r6:Int) (r7:List (S51)) (r8:Int) (w:World) (hr0:Kd.C (Kd.int .u8) w A0 l0.length l0) (hc0:l0.length≤c0) (h:inode_Decode.f k l0=some (r1,r2,r3,r4,r5,r6,r7,r8)) :
  Calls Try.prog 9 #[.slice A0 l0.length c0] w fun e w'=>∃ v6_:Value,e=.returned (.tuple #[.agg #[.int .i64 r1,.int .i64 r2,.int .i64 r3,.int .i64 r4,.int .i64 r5,.int .i64 r6,v6_],.int .i64 r8])∧Kd.R k51 51 w' w.heap.size (fun _=>True) v6_ r7∧Below w.heap.size w w':=by
 have hu24:=Try.underlying24
 have H:inode_Decode.f k l0=some (r1,r2,r3,r4,r5,r6,r7,r8):=h
 clear h
 unfold inode_Decode.f at H
 by_cases hl:l0.length=64
 ·rw [if_pos hl] at H
  have hg_:=Option.bind_eq_some_iff.mp H;clear H;obtain ⟨n,F1,H⟩:=hg_;have hh_:=zm F1;clear F1;have F1:=hh_;clear hh_;(try dsimp only at H);have hg_:=Cw.gt_ H;clear H;obtain ⟨rfl,H⟩:=hg_;have hg_:=Option.bind_eq_some_iff.mp H;clear H;obtain ⟨s,F2,H⟩:=hg_;have hh_:=zm F2;clear F2;have F2:=hh_;clear hh_;(try dsimp only at H);have hg_:=Cw.gt_ H;clear H;obtain ⟨rfl,H⟩:=hg_;have hg_:=Option.bind_eq_some_iff.mp H;clear H;obtain ⟨⟨l1,e⟩,F3,H⟩:=hg_;have hh_:=zm F3;clear F3;have F3:=hh_;clear hh_;(try dsimp only at H);have hg_:=Cw.gt_ H;clear H;obtain ⟨rfl,H⟩:=hg_;have hg_:=Cw.gt_ H;clear H;obtain ⟨hl8,H⟩:=hg_
  have h64:((l0.length:Int) != 64)=false:=by rw [hl];rfl
  have hc24:(24:Int)≤(c0:Int):=by omega
  have hh_:=zm hr0;clear hr0;have hr0:=hh_;clear hh_;have hh_:=zm hc0;clear hc0;have hc0:=hh_;clear hh_;have hh_:=zm H;clear H;have H:=hh_;clear hh_;have hh_:=zm hl;clear hl;have hl:=hh_;clear hh_;have hh_:=zm hl8;clear hl8;have hl8:=hh_;clear hh_
  go_enter Try.func9,Try.ntmps9
  go_wp2_with (first|((with_reducible refine gate_dst (N:=2) rfl ?_);refine box_event rfl (N:=2) rfl (by first|(go_simp;done)|(go_simp;rfl)) ?_;rintro g2 hg wc hbk hb;have hg2:Aside0 (w.heap.size≤g2):=⟨Nat.le_of_eq hg.symm⟩;clear hg;have hh_:=zm hbk;clear hbk;have hbk:=hh_;clear hh_;have hh_:=zm hb;clear hb;have hb:=hh_;clear hh_)|(go_at_call 28;refine (inode_headWidths.calls _).mono ?_;rintro e w1 ⟨rfl,hb⟩;have hh_:=zm hb;clear hb;have hb:=hh_;clear hh_)|(go_at_call 29;refine (inode_rootWidths.calls _).mono ?_;rintro e w1 ⟨rfl,hb⟩;have hh_:=zm hb;clear hb;have hb:=hh_;clear hh_)|((with_reducible refine gate_ (.alloc 52) rfl ?_);refine box_event rfl rfl (by first|(go_simp;done)|(go_simp;rfl)) ?_;rintro gh hg w1 hbk hb;have hge:Aside0 (wc.heap.size≤gh):=⟨Nat.le_trans (below_size (by repeat (first|exact Below.refl _ _|with_reducible apply zlN|with_reducible apply zlA|refine below_step ?_ (Aside0.out (by assumption))))) (Nat.le_of_eq hg.symm)⟩; clear hg;have hh_:=zm hbk;clear hbk;have hbk:=hh_;clear hh_;have hh_:=zm hb;clear hb;have hb:=hh_;clear hh_)|((with_reducible refine gate_ (.alloc 54) rfl ?_);refine box_event rfl rfl (by first|(go_simp;done)|(go_simp;rfl)) ?_;rintro gr hg w1 hbk hb;have hge:Aside0 (wc.heap.size≤gr):=⟨Nat.le_trans (below_size (by repeat (first|exact Below.refl _ _|with_reducible apply zlN|with_reducible apply zlA|refine below_step ?_ (Aside0.out (by assumption))))) (Nat.le_of_eq hg.symm)⟩;have hne:Aside0 (gr≠gh):=⟨by rw [hg];exact Nat.ne_of_gt (blk_lt (g:=gh) (o:=Obj.cells #[.int .i64 0,.int .i64 0,.int .i64 0,.int .i64 0,.int .i64 0,.int .i64 0,.int .i64 0,.int .i64 0] 52 (0,0)) (zbB (Aside0.out (by assumption)) (by repeat (first|exact Below.refl _ _|with_reducible apply zlN|with_reducible apply zlA|refine below_step ?_ (Aside0.out (by assumption))))))⟩;clear hg;have hh_:=zm hbk;clear hbk;have hbk:=hh_;clear hh_;have hh_:=zm hb;clear hb;have hb:=hh_;clear hh_)|((with_reducible refine gate_ (.store 52 _ _) rfl ?_);refine Cw.put_event (g:=gh) (ys:=[.int .i64 8,.int .i64 8,.int .i64 8,.int .i64 8,.int .i64 32,.int .i64 64,.int .i64 32,.int .i64 32]) rfl rfl rfl (by apply IE_st8;exact rfl;exact rfl;exact rfl;exact (show _=some (Obj.cells #[.int .i64 0,.int .i64 0,.int .i64 0,.int .i64 0,.int .i64 0,.int .i64 0,.int .i64 0,.int .i64 0] 52 (0,0)) from (zbB (Aside0.out (by assumption)) (by repeat (first|exact Below.refl _ _|with_reducible apply zlN|with_reducible apply zlA|refine below_step ?_ (Aside0.out (by assumption))))))) ?_;rintro w2 hw2;have hb2:Aside0 (Below wc.heap.size wc w2):=⟨by rw [hw2];exact Cw.setL_below (Aside0.out (by assumption)) _ _ _ (by repeat (first|exact Below.refl _ _|with_reducible apply zlN|with_reducible apply zlA|refine below_step ?_ (Aside0.out (by assumption))))⟩;have hh8:Aside0 (w2.heap[gh]?=some (.cells #[.int .i64 8,.int .i64 8,.int .i64 8,.int .i64 8,.int .i64 32,.int .i64 64,.int .i64 32,.int .i64 32] 52 (0,0))):=⟨by rw [hw2];exact Cw.setL_full [.int .i64 8,.int .i64 8,.int .i64 8,.int .i64 8,.int .i64 32,.int .i64 64,.int .i64 32,.int .i64 32] (show _=some (Obj.cells #[.int .i64 0,.int .i64 0,.int .i64 0,.int .i64 0,.int .i64 0,.int .i64 0,.int .i64 0,.int .i64 0] 52 (0,0)) from (zbB (Aside0.out (by assumption)) (by repeat (first|exact Below.refl _ _|with_reducible apply zlN|with_reducible apply zlA|refine below_step ?_ (Aside0.out (by assumption)))))) rfl⟩;have hr3:Aside0 (w2.heap[gr]?=some (.cells #[.int .i64 0,.int .i64 0,.int .i64 0] 54 (0,0))):=⟨by rw [hw2,Cw.setL_far hne.out];exact (zbB (Aside0.out (by assumption)) (by repeat (first|exact Below.refl _ _|with_reducible apply zlN|with_reducible apply zlA|refine below_step ?_ (Aside0.out (by assumption)))))⟩;clear hw2)|((with_reducible refine gate_ (.store 54 _ _) rfl ?_);refine Cw.put_event (g:=gr) (ys:=[.int .i64 24,.int .i64 16,.int .i64 32]) rfl rfl rfl (by apply IE_st3;exact rfl;exact rfl;exact rfl;exact hr3.out) ?_;rintro w3 hw3;have hb3:Aside0 (Below wc.heap.size wc w3):=⟨by rw [hw3];exact Cw.setL_below (Aside0.out (by assumption)) _ _ _ hb2.out⟩;have hr3':Aside0 (w3.heap[gr]?=some (.cells #[.int .i64 24,.int .i64 16,.int .i64 32] 54 (0,0))):=⟨by rw [hw3];exact Cw.setL_full [.int .i64 24,.int .i64 16,.int .i64 32] hr3.out rfl⟩;have hh8':Aside0 (w3.heap[gh]?=some (.cells #[.int .i64 8,.int .i64 8,.int .i64 8,.int .i64 8,.int .i64 32,.int .i64 64,.int .i64 32,.int .i64 32] 52 (0,0))):=⟨by rw [hw3,Cw.setL_far (fun e=>hne.out e.symm)];exact hh8.out⟩;clear hw3 hr3 hh8 hb2))
  (refine (seal_Width.calls k _ 8 [8,8,8,8,32,64,32,32] 24 0 _ (Cw.C_ints (zbB (Aside0.out (by assumption)) (by repeat (first|exact Below.refl _ _|with_reducible apply zlN|with_reducible apply zlA|refine below_step ?_ (Aside0.out (by assumption))))) rfl (by simp)) (by simp) F1.out).mono ?_;rintro e w1 ⟨rfl,hd⟩;have hb:=Drawn0.below hd;clear hd;have hh_:=zm hb;clear hb;have hb:=hh_;clear hh_)
  go_wp2_with fail
  (refine (seal_Width.calls k _ 3 [24,16,32] 9 0 _ (Cw.C_ints (zbB (Aside0.out (by assumption)) (by repeat (first|exact Below.refl _ _|with_reducible apply zlN|with_reducible apply zlA|refine below_step ?_ (Aside0.out (by assumption))))) rfl (by simp)) (by simp) F2.out).mono ?_;rintro e w1 ⟨rfl,hd⟩;have hb:=Drawn0.below hd;clear hd;have hh_:=zm hb;clear hb;have hb:=hh_;clear hh_)
  go_wp2_with fail
  refine Cw.dstart (by as_aux_lemma=>kernel_rfl) rfl (fun wd hb=>?_)
  have hh_:=zm hb;clear hb;have hb:=hh_;clear hh_
  refine Cw.dpu (i:=0) (v:=?_) (a':=?_) (by simp only [List.getElem?_toArray,List.getElem?_cons_succ,List.getElem?_cons_zero];rfl) rfl (by as_aux_lemma=>kernel_rfl) (by rfl) (by exact fun _ _ _ h=>h) ?_ ?_ ?_
  rotate_left
  ·intro w'
   go_simp
   with_reducible rfl
  rotate_left
  ·simp only [Act.put,List.setIfInBounds_toArray,List.set_cons_zero,List.set_cons_succ,i64_w,i32_w]
   rfl
  refine Cw.dpu (i:=1) (v:=?_) (a':=?_) (by simp only [List.getElem?_toArray,List.getElem?_cons_succ,List.getElem?_cons_zero];rfl) rfl (by as_aux_lemma=>kernel_rfl) (by rfl) (by exact fun _ _ _ h=>h) ?_ ?_ ?_
  rotate_left
  ·intro w'
   go_simp
   with_reducible rfl
  rotate_left
  ·simp only [Act.put,List.setIfInBounds_toArray,List.set_cons_zero,List.set_cons_succ,i64_w,i32_w]
   rfl
  refine Cw.dpu (i:=2) (v:=?_) (a':=?_) (by simp only [List.getElem?_toArray,List.getElem?_cons_succ,List.getElem?_cons_zero];rfl) rfl (by as_aux_lemma=>kernel_rfl) (by rfl) (by exact fun _ _ _ h=>h) ?_ ?_ ?_
  rotate_left
  ·intro w'
   go_simp
   with_reducible rfl
  rotate_left
  ·simp only [Act.put,List.setIfInBounds_toArray,List.set_cons_zero,List.set_cons_succ,i64_w,i32_w]
   rfl
  refine Cw.dpu (i:=3) (v:=?_) (a':=?_) (by simp only [List.getElem?_toArray,List.getElem?_cons_succ,List.getElem?_cons_zero];rfl) rfl (by as_aux_lemma=>kernel_rfl) (by rfl) (by exact fun _ _ _ h=>h) ?_ ?_ ?_
  rotate_left
  ·intro w'
   go_simp
   with_reducible rfl
  rotate_left
  ·simp only [Act.put,List.setIfInBounds_toArray,List.set_cons_zero,List.set_cons_succ,i64_w,i32_w]
   rfl
  refine Cw.done1 (i:=4) (N:=some 39) (by simp only [List.getElem?_toArray,List.getElem?_cons_succ,List.getElem?_cons_zero];rfl) rfl (by as_aux_lemma=>kernel_rfl) (fun K hK=>?_)
  refine goes_ Try.func32 (by as_aux_lemma=>kernel_rfl) rfl _ (by rfl) rfl rfl (by go_simp;rfl) ?_
  refine (ID_unpack k _ 8 8 [8,8,8,8,32,64,32,32] _ c0 24 (l0.take 24) l1 0 _ rfl (by rw [List.length_take];have:=hl.out;omega) (Cw.C_ints (zbB (Aside0.out (by assumption)) (by repeat (first|exact Below.refl _ _|with_reducible apply zlN|with_reducible apply zlA|refine below_step ?_ (Aside0.out (by assumption))))) rfl (by simp)) (by simp) (Kd.C_take (m:=24) (Kd.C_below (Aside0.out (by assumption)) (by repeat (first|exact Below.refl _ _|with_reducible apply zlN|with_reducible apply zlA|refine below_step ?_ (Aside0.out (by assumption))))) (by have:=hl.out;omega)) (by rw [List.length_take];have:=hl.out;omega) F3.out).mono ?_
  rintro e w1 ⟨A1,c1,rfl,hc1,hr1,hb⟩
  obtain ⟨ad1,rfl,_⟩:=hr1.2.2 (by rw [hl8.out];omega)
  rw [hl8.out] at hr1 hc1 ⊢
  have hh_:=zm hc1;clear hc1;have hc1:=hh_;clear hh_;have hh_:=zm hr1;clear hr1;have hr1:=hh_;clear hh_;have hh_:=zm hb;clear hb;have hb:=hh_;clear hh_
  refine ⟨_,rfl,?_⟩
  refine hK.out _ _ (by repeat (first|exact Below.refl _ _|with_reducible apply zlN|with_reducible apply zlA|refine below_step ?_ (Aside0.out (by assumption)))) (fun _=>?_)
  clear hK K
  refine znm (some 39) ?_
  refine Cw.dpu (i:=5) (v:=?_) (a':=?_) (by simp only [List.getElem?_toArray,List.getElem?_cons_succ,List.getElem?_cons_zero];rfl) rfl (by as_aux_lemma=>kernel_rfl) (by rfl) (by exact fun _ _ _ h=>h) ?_ ?_ ?_
  rotate_left
  ·intro w'
   go_simp
   with_reducible rfl
  rotate_left
  ·simp only [Act.put,List.setIfInBounds_toArray,List.set_cons_zero,List.set_cons_succ,i64_w,i32_w]
   rfl
  refine Cw.dpu (i:=6) (v:=?_) (a':=?_) (by simp only [List.getElem?_toArray,List.getElem?_cons_succ,List.getElem?_cons_zero];rfl) rfl (by as_aux_lemma=>kernel_rfl) (by rfl) (by exact fun _ _ _ h=>h) ?_ ?_ ?_
  rotate_left
  ·intro w'
   go_simp
   with_reducible rfl
  rotate_left
  ·simp only [Act.put,List.setIfInBounds_toArray,List.set_cons_zero,List.set_cons_succ,i64_w,i32_w]
   rfl
  refine Cw.dpu (i:=7) (v:=?_) (a':=?_) (by simp only [List.getElem?_toArray,List.getElem?_cons_succ,List.getElem?_cons_zero];rfl) rfl (by as_aux_lemma=>kernel_rfl) (by rfl) (by exact fun _ _ _ h=>h) ?_ ?_ ?_
  rotate_left
  ·intro w'
   go_simp
   with_reducible rfl
  rotate_left
  ·simp only [Act.put,List.setIfInBounds_toArray,List.set_cons_zero,List.set_cons_succ,i64_w,i32_w]
   rfl
  refine Cw.dpu (i:=8) (v:=?_) (a':=?_) (by simp only [List.getElem?_toArray,List.getElem?_cons_succ,List.getElem?_cons_zero];rfl) rfl (by as_aux_lemma=>kernel_rfl) (by rfl) (by exact fun _ _ _ h=>h) ?_ ?_ ?_
  rotate_left
  ·intro w'
   go_simp
   with_reducible rfl
  rotate_left
  ·simp only [Act.put,List.setIfInBounds_toArray,List.set_cons_zero,List.set_cons_succ,i64_w,i32_w]
   rfl
  refine Cw.dpu (i:=9) (v:=?_) (a':=?_) (by simp only [List.getElem?_toArray,List.getElem?_cons_succ,List.getElem?_cons_zero];rfl) rfl (by as_aux_lemma=>kernel_rfl) (by rfl) (by exact fun _ _ _ h=>h) ?_ ?_ ?_
  rotate_left
  ·intro w'
   go_simp
   with_reducible rfl
  rotate_left
  ·simp only [Act.put,List.setIfInBounds_toArray,List.set_cons_zero,List.set_cons_succ,i64_w,i32_w]
   rfl
  refine zdo ?_
  have H:=H.out
  by_cases hq:rd l1 2 > 4
  ·rw [if_pos hq] at H
   simp only [Option.some.injEq,Prod.mk.injEq] at H
   obtain ⟨rfl,rfl,rfl,rfl,rfl,rfl,rfl,rfl⟩:=H
   have hq4:decide (4 < rd l1 2)=true:=decide_eq_true hq
   clear hq
   go_wp2_with (first|((with_reducible refine gate_ (.load 58 _) rfl ?_);refine Kd.event_run rfl (by apply ID_u64;exact rfl;exact rfl;exact (Kd.C_below (Aside0.out (by assumption)) (by repeat (first|exact Below.refl _ _|with_reducible apply zlN|with_reducible apply zlA|refine below_step ?_ (Aside0.out (by assumption)))));omega;omega) ?_)|((with_reducible refine Cw.guarded rfl ?gw ?_);(case gw=>first|rfl|(go_simp;done));dsimp only)|((with_reducible refine gate_ (.store 24 (.tmp 2) _) rfl ?_);refine Cw.put_event (g:=g2) (ys:=[.int .i64 0,.int .i64 0,.int .i64 0,.int .i64 0,.int .i64 0,.int .i64 0,.slice none 0 0]) rfl rfl rfl (by apply ID_st7;exact rfl;exact rfl;exact rfl;exact (zbB (Aside0.out (by assumption)) (by repeat (first|exact Below.refl _ _|with_reducible apply zlN|with_reducible apply zlA|refine below_step ?_ (Aside0.out (by assumption)))))) ?_;rintro w2 hw2;have hb2:Aside0 (Below w.heap.size w w2):=⟨by rw [hw2];exact Cw.setL_below hg2.out _ _ _ (by repeat (first|exact Below.refl _ _|with_reducible apply zlN|with_reducible apply zlA|refine below_step ?_ (Aside0.out (by assumption))))⟩;have hzz:Aside0 (w2.heap[g2]?=some (.cells #[.int .i64 0,.int .i64 0,.int .i64 0,.int .i64 0,.int .i64 0,.int .i64 0,.slice none 0 0] 24 (0,0))):=⟨by rw [hw2];exact Cw.setL_full [.int .i64 0,.int .i64 0,.int .i64 0,.int .i64 0,.int .i64 0,.int .i64 0,.slice none 0 0] (zbB (Aside0.out (by assumption)) (by repeat (first|exact Below.refl _ _|with_reducible apply zlN|with_reducible apply zlA|refine below_step ?_ (Aside0.out (by assumption))))) rfl⟩;clear hw2))
   refine bodyPost_ret (results_ct rfl _ _ g2 24 #[.int .i64 0,.int .i64 0,.int .i64 0,.int .i64 0,.int .i64 0,.int .i64 0,.slice none 0 0] (0,0) _ rfl hzz.out Try.underlying24 rfl (by kernel_rfl)) rfl ?_
   exact ⟨_,rfl,Kd.R_nil _ _ _ _ _,hb2.out⟩
  ·rw [if_neg hq] at H
   have hq4:decide (4 < rd l1 2)=false:=decide_eq_false hq
   have hqm:rd l1 2≤4:=by omega
   clear hq
   by_cases hr:rd l1 5 > 16777216
   ·rw [if_pos hr] at H
    simp only [Option.some.injEq,Prod.mk.injEq] at H
    obtain ⟨rfl,rfl,rfl,rfl,rfl,rfl,rfl,rfl⟩:=H
    have hr4:decide (16777216 < rd l1 5)=true:=decide_eq_true hr
    clear hr
    go_wp2_with (first|((with_reducible refine gate_ (.load 58 _) rfl ?_);refine Kd.event_run rfl (by apply ID_u64;exact rfl;exact rfl;exact (Kd.C_below (Aside0.out (by assumption)) (by repeat (first|exact Below.refl _ _|with_reducible apply zlN|with_reducible apply zlA|refine below_step ?_ (Aside0.out (by assumption)))));omega;omega) ?_)|((with_reducible refine Cw.guarded rfl ?gw ?_);(case gw=>first|rfl|(go_simp;done));dsimp only)|((with_reducible refine gate_ (.store 24 (.tmp 2) _) rfl ?_);refine Cw.put_event (g:=g2) (ys:=[.int .i64 0,.int .i64 0,.int .i64 0,.int .i64 0,.int .i64 0,.int .i64 0,.slice none 0 0]) rfl rfl rfl (by apply ID_st7;exact rfl;exact rfl;exact rfl;exact (zbB (Aside0.out (by assumption)) (by repeat (first|exact Below.refl _ _|with_reducible apply zlN|with_reducible apply zlA|refine below_step ?_ (Aside0.out (by assumption)))))) ?_;rintro w2 hw2;have hb2:Aside0 (Below w.heap.size w w2):=⟨by rw [hw2];exact Cw.setL_below hg2.out _ _ _ (by repeat (first|exact Below.refl _ _|with_reducible apply zlN|with_reducible apply zlA|refine below_step ?_ (Aside0.out (by assumption))))⟩;have hzz:Aside0 (w2.heap[g2]?=some (.cells #[.int .i64 0,.int .i64 0,.int .i64 0,.int .i64 0,.int .i64 0,.int .i64 0,.slice none 0 0] 24 (0,0))):=⟨by rw [hw2];exact Cw.setL_full [.int .i64 0,.int .i64 0,.int .i64 0,.int .i64 0,.int .i64 0,.int .i64 0,.slice none 0 0] (zbB (Aside0.out (by assumption)) (by repeat (first|exact Below.refl _ _|with_reducible apply zlN|with_reducible apply zlA|refine below_step ?_ (Aside0.out (by assumption))))) rfl⟩;clear hw2))
    refine bodyPost_ret (results_ct rfl _ _ g2 24 #[.int .i64 0,.int .i64 0,.int .i64 0,.int .i64 0,.int .i64 0,.int .i64 0,.slice none 0 0] (0,0) _ rfl hzz.out Try.underlying24 rfl (by kernel_rfl)) rfl ?_
    exact ⟨_,rfl,Kd.R_nil _ _ _ _ _,hb2.out⟩
   ·rw [if_neg hr] at H
    have hr4:decide (16777216 < rd l1 5)=false:=decide_eq_false hr
    clear hr
    have hg_:=Cw.gt_ H;clear H;obtain ⟨hm0,H⟩:=hg_;have hg_:=Option.bind_eq_some_iff.mp H;clear H;obtain ⟨root,F4,H⟩:=hg_;have hh_:=zm F4;clear F4;have F4:=hh_;clear hh_;(try dsimp only at H);have hg_:=Option.bind_eq_some_iff.mp H;clear H;obtain ⟨⟨pb,pe⟩,F5,H⟩:=hg_;have hh_:=zm F5;clear F5;have F5:=hh_;clear hh_;(try dsimp only at H)
    have HO:=zm H;clear H;have hh_:=zm hqm;clear hqm;have hqm:=hh_;clear hh_;have hh_:=zm hm0;clear hm0;have hm0:=hh_;clear hh_
    go_wp2_with (first|((with_reducible refine gate_ (.load 58 _) rfl ?_);refine Kd.event_run rfl (by apply ID_u64;exact rfl;exact rfl;exact (Kd.C_below (Aside0.out (by assumption)) (by repeat (first|exact Below.refl _ _|with_reducible apply zlN|with_reducible apply zlA|refine below_step ?_ (Aside0.out (by assumption)))));omega;omega) ?_)|((with_reducible refine Cw.guarded rfl ?gw ?_);(case gw=>first|rfl|(go_simp;done));dsimp only))
    refine Cw.dstart (by as_aux_lemma=>kernel_rfl) rfl (fun wd hb=>?_)
    have hh_:=zm hb;clear hb;have hb:=hh_;clear hh_
    refine Cw.dpu (i:=0) (v:=?_) (a':=?_) (by simp only [List.getElem?_toArray,List.getElem?_cons_succ,List.getElem?_cons_zero];rfl) rfl (by as_aux_lemma=>kernel_rfl) (by rfl) (by exact fun _ _ _ h=>h) ?_ ?_ ?_
    rotate_left
    ·intro w'
     go_simp
     with_reducible rfl
    rotate_left
    ·simp only [Act.put,List.setIfInBounds_toArray,List.set_cons_zero,List.set_cons_succ,i64_w,i32_w]
     rfl
    refine Cw.dpu (i:=1) (v:=?_) (a':=?_) (by simp only [List.getElem?_toArray,List.getElem?_cons_succ,List.getElem?_cons_zero];rfl) rfl (by as_aux_lemma=>kernel_rfl) (by rfl) (by exact fun _ _ _ h=>h) ?_ ?_ ?_
    rotate_left
    ·intro w'
     go_simp
     with_reducible rfl
    rotate_left
    ·simp only [Act.put,List.setIfInBounds_toArray,List.set_cons_zero,List.set_cons_succ,i64_w,i32_w]
     rfl
    refine Cw.dtk (i:=2) (v:=?_) (a':=?_) (by simp only [List.getElem?_toArray,List.getElem?_cons_succ,List.getElem?_cons_zero];rfl) rfl (by as_aux_lemma=>kernel_rfl) (by rfl) (by exact fun _ _ _ h=>h) ?_ (by repeat (first|exact Below.refl _ _|with_reducible apply zlN|with_reducible apply zlA|refine below_step ?_ (Aside0.out (by assumption)))) ?_ ?_
    rotate_left
    ·intro w' hs_
     have hs:=zm hs_
     clear hs_
     apply Eq.trans
     ·apply ID_u64z
      ·rfl
      ·rfl
      ·exact (Kd.C_below (Aside0.out (by assumption)) (by repeat (first|exact Below.refl _ _|with_reducible apply zlN|with_reducible apply zlA|refine below_step ?_ (Aside0.out (by assumption)))))
      ·omega
     ·rfl
    rotate_left
    ·simp only [Act.put,List.setIfInBounds_toArray,List.set_cons_zero,List.set_cons_succ,i64_w,i32_w]
     rfl
    refine Cw.dpu (i:=3) (v:=?_) (a':=?_) (by simp only [List.getElem?_toArray,List.getElem?_cons_succ,List.getElem?_cons_zero];rfl) rfl (by as_aux_lemma=>kernel_rfl) (by rfl) (by exact fun _ _ _ h=>h) ?_ ?_ ?_
    rotate_left
    ·intro w'
     go_simp
     with_reducible rfl
    rotate_left
    ·simp only [Act.put,List.setIfInBounds_toArray,List.set_cons_zero,List.set_cons_succ,i64_w,i32_w]
     rfl
    refine Cw.dpu (i:=4) (v:=?_) (a':=?_) (by simp only [List.getElem?_toArray,List.getElem?_cons_succ,List.getElem?_cons_zero];rfl) rfl (by as_aux_lemma=>kernel_rfl) (by rfl) (by exact fun _ _ _ h=>h) ?_ ?_ ?_
    rotate_left
    ·intro w'
     go_simp
     with_reducible rfl
    rotate_left
    ·simp only [Act.put,List.setIfInBounds_toArray,List.set_cons_zero,List.set_cons_succ,i64_w,i32_w]
     rfl
    refine Cw.dpu (i:=5) (v:=?_) (a':=?_) (by simp only [List.getElem?_toArray,List.getElem?_cons_succ,List.getElem?_cons_zero];rfl) rfl (by as_aux_lemma=>kernel_rfl) (by rfl) (by exact fun _ _ _ h=>h) ?_ ?_ ?_
    rotate_left
    ·intro w'
     go_simp
     with_reducible rfl
    rotate_left
    ·simp only [Act.put,List.setIfInBounds_toArray,List.set_cons_zero,List.set_cons_succ,i64_w,i32_w]
     rfl
    refine Cw.dtk (i:=6) (v:=?_) (a':=?_) (by simp only [List.getElem?_toArray,List.getElem?_cons_succ,List.getElem?_cons_zero];rfl) rfl (by as_aux_lemma=>kernel_rfl) (by rfl) (by exact fun _ _ _ h=>h) ?_ (by repeat (first|exact Below.refl _ _|with_reducible apply zlN|with_reducible apply zlA|refine below_step ?_ (Aside0.out (by assumption)))) ?_ ?_
    rotate_left
    ·intro w' hs_
     have hs:=zm hs_
     clear hs_
     apply Eq.trans
     ·apply ID_u64
      ·rfl
      ·rfl
      ·exact (Kd.C_below (Aside0.out (by assumption)) (by repeat (first|exact Below.refl _ _|with_reducible apply zlN|with_reducible apply zlA|refine below_step ?_ (Aside0.out (by assumption)))))
      ·omega
      ·omega
     ·rfl
    rotate_left
    ·simp only [Act.put,List.setIfInBounds_toArray,List.set_cons_zero,List.set_cons_succ,i64_w,i32_w]
     rfl
    refine Cw.dpu (i:=7) (v:=?_) (a':=?_) (by simp only [List.getElem?_toArray,List.getElem?_cons_succ,List.getElem?_cons_zero];rfl) rfl (by as_aux_lemma=>kernel_rfl) (by rfl) (by exact fun _ _ _ h=>h) ?_ ?_ ?_
    rotate_left
    ·intro w'
     go_simp
     with_reducible rfl
    rotate_left
    ·simp only [Act.put,List.setIfInBounds_toArray,List.set_cons_zero,List.set_cons_succ,i64_w,i32_w]
     rfl
    refine Cw.dpu (i:=8) (v:=?_) (a':=?_) (by simp only [List.getElem?_toArray,List.getElem?_cons_succ,List.getElem?_cons_zero];rfl) rfl (by as_aux_lemma=>kernel_rfl) (by rfl) (by exact fun _ _ _ h=>h) ?_ ?_ ?_
    rotate_left
    ·intro w'
     go_simp
     with_reducible rfl
    rotate_left
    ·simp only [Act.put,List.setIfInBounds_toArray,List.set_cons_zero,List.set_cons_succ,i64_w,i32_w]
     rfl
    refine Cw.dpu (i:=9) (v:=?_) (a':=?_) (by simp only [List.getElem?_toArray,List.getElem?_cons_succ,List.getElem?_cons_zero];rfl) rfl (by as_aux_lemma=>kernel_rfl) (by rfl) (by exact fun _ _ _ h=>h) ?_ ?_ ?_
    rotate_left
    ·intro w'
     go_simp
     with_reducible rfl
    rotate_left
    ·simp only [Act.put,List.setIfInBounds_toArray,List.set_cons_zero,List.set_cons_succ,i64_w,i32_w]
     rfl
    refine Cw.dtk (i:=10) (v:=?_) (a':=?_) (by simp only [List.getElem?_toArray,List.getElem?_cons_succ,List.getElem?_cons_zero];rfl) rfl (by as_aux_lemma=>kernel_rfl) (by rfl) (by exact fun _ _ _ h=>h) ?_ (by repeat (first|exact Below.refl _ _|with_reducible apply zlN|with_reducible apply zlA|refine below_step ?_ (Aside0.out (by assumption)))) ?_ ?_
    rotate_left
    ·intro w' hs_
     have hs:=zm hs_
     clear hs_
     apply Eq.trans
     ·apply ID_u64
      ·rfl
      ·rfl
      ·exact (Kd.C_below (Aside0.out (by assumption)) (by repeat (first|exact Below.refl _ _|with_reducible apply zlN|with_reducible apply zlA|refine below_step ?_ (Aside0.out (by assumption)))))
      ·omega
      ·omega
     ·rfl
    rotate_left
    ·simp only [Act.put,List.setIfInBounds_toArray,List.set_cons_zero,List.set_cons_succ,i64_w,i32_w]
     rfl
    refine Cw.dpu (i:=11) (v:=?_) (a':=?_) (by simp only [List.getElem?_toArray,List.getElem?_cons_succ,List.getElem?_cons_zero];rfl) rfl (by as_aux_lemma=>kernel_rfl) (by rfl) (by exact fun _ _ _ h=>h) ?_ ?_ ?_
    rotate_left
    ·intro w'
     go_simp
     with_reducible rfl
    rotate_left
    ·simp only [Act.put,List.setIfInBounds_toArray,List.set_cons_zero,List.set_cons_succ,i64_w,i32_w]
     rfl
    refine Cw.dpu (i:=12) (v:=?_) (a':=?_) (by simp only [List.getElem?_toArray,List.getElem?_cons_succ,List.getElem?_cons_zero];rfl) rfl (by as_aux_lemma=>kernel_rfl) (by rfl) (by exact fun _ _ _ h=>h) ?_ ?_ ?_
    rotate_left
    ·intro w'
     go_simp
     with_reducible rfl
    rotate_left
    ·simp only [Act.put,List.setIfInBounds_toArray,List.set_cons_zero,List.set_cons_succ,i64_w,i32_w]
     rfl
    refine Cw.dpu (i:=13) (v:=?_) (a':=?_) (by simp only [List.getElem?_toArray,List.getElem?_cons_succ,List.getElem?_cons_zero];rfl) rfl (by as_aux_lemma=>kernel_rfl) (by rfl) (by exact fun _ _ _ h=>h) ?_ ?_ ?_
    rotate_left
    ·intro w'
     go_simp
     with_reducible rfl
    rotate_left
    ·simp only [Act.put,List.setIfInBounds_toArray,List.set_cons_zero,List.set_cons_succ,i64_w,i32_w]
     rfl
    refine Cw.dtk (i:=14) (v:=?_) (a':=?_) (by simp only [List.getElem?_toArray,List.getElem?_cons_succ,List.getElem?_cons_zero];rfl) rfl (by as_aux_lemma=>kernel_rfl) (by rfl) (by exact fun _ _ _ h=>h) ?_ (by repeat (first|exact Below.refl _ _|with_reducible apply zlN|with_reducible apply zlA|refine below_step ?_ (Aside0.out (by assumption)))) ?_ ?_
    rotate_left
    ·intro w' hs_
     have hs:=zm hs_
     clear hs_
     apply Eq.trans
     ·apply ID_u64
      ·rfl
      ·rfl
      ·exact (Kd.C_below (Aside0.out (by assumption)) (by repeat (first|exact Below.refl _ _|with_reducible apply zlN|with_reducible apply zlA|refine below_step ?_ (Aside0.out (by assumption)))))
      ·omega
      ·omega
     ·rfl
    rotate_left
    ·simp only [Act.put,List.setIfInBounds_toArray,List.set_cons_zero,List.set_cons_succ,i64_w,i32_w]
     rfl
    refine Cw.dpu (i:=15) (v:=?_) (a':=?_) (by simp only [List.getElem?_toArray,List.getElem?_cons_succ,List.getElem?_cons_zero];rfl) rfl (by as_aux_lemma=>kernel_rfl) (by rfl) (by exact fun _ _ _ h=>h) ?_ ?_ ?_
    rotate_left
    ·intro w'
     go_simp
     with_reducible rfl
    rotate_left
    ·simp only [Act.put,List.setIfInBounds_toArray,List.set_cons_zero,List.set_cons_succ,i64_w,i32_w]
     rfl
    refine Cw.dpu (i:=16) (v:=?_) (a':=?_) (by simp only [List.getElem?_toArray,List.getElem?_cons_succ,List.getElem?_cons_zero];rfl) rfl (by as_aux_lemma=>kernel_rfl) (by rfl) (by exact fun _ _ _ h=>h) ?_ ?_ ?_
    rotate_left
    ·intro w'
     go_simp
     with_reducible rfl
    rotate_left
    ·simp only [Act.put,List.setIfInBounds_toArray,List.set_cons_zero,List.set_cons_succ,i64_w,i32_w]
     rfl
    refine Cw.dpu (i:=17) (v:=?_) (a':=?_) (by simp only [List.getElem?_toArray,List.getElem?_cons_succ,List.getElem?_cons_zero];rfl) rfl (by as_aux_lemma=>kernel_rfl) (by rfl) (by exact fun _ _ _ h=>h) ?_ ?_ ?_
    rotate_left
    ·intro w'
     go_simp
     with_reducible rfl
    rotate_left
    ·simp only [Act.put,List.setIfInBounds_toArray,List.set_cons_zero,List.set_cons_succ,i64_w,i32_w]
     rfl
    refine Cw.dtk (i:=18) (v:=?_) (a':=?_) (by simp only [List.getElem?_toArray,List.getElem?_cons_succ,List.getElem?_cons_zero];rfl) rfl (by as_aux_lemma=>kernel_rfl) (by rfl) (by exact fun _ _ _ h=>h) ?_ (by repeat (first|exact Below.refl _ _|with_reducible apply zlN|with_reducible apply zlA|refine below_step ?_ (Aside0.out (by assumption)))) ?_ ?_
    rotate_left
    ·intro w' hs_
     have hs:=zm hs_
     clear hs_
     apply Eq.trans
     ·apply ID_u64
      ·rfl
      ·rfl
      ·exact (Kd.C_below (Aside0.out (by assumption)) (by repeat (first|exact Below.refl _ _|with_reducible apply zlN|with_reducible apply zlA|refine below_step ?_ (Aside0.out (by assumption)))))
      ·omega
      ·omega
     ·rfl
    rotate_left
    ·simp only [Act.put,List.setIfInBounds_toArray,List.set_cons_zero,List.set_cons_succ,i64_w,i32_w]
     rfl
    refine Cw.dpu (i:=19) (v:=?_) (a':=?_) (by simp only [List.getElem?_toArray,List.getElem?_cons_succ,List.getElem?_cons_zero];rfl) rfl (by as_aux_lemma=>kernel_rfl) (by rfl) (by exact fun _ _ _ h=>h) ?_ ?_ ?_
    rotate_left
    ·intro w'
     go_simp
     with_reducible rfl
    rotate_left
    ·simp only [Act.put,List.setIfInBounds_toArray,List.set_cons_zero,List.set_cons_succ,i64_w,i32_w]
     rfl
    refine Cw.dpu (i:=20) (v:=?_) (a':=?_) (by simp only [List.getElem?_toArray,List.getElem?_cons_succ,List.getElem?_cons_zero];rfl) rfl (by as_aux_lemma=>kernel_rfl) (by rfl) (by exact fun _ _ _ h=>h) ?_ ?_ ?_
    rotate_left
    ·intro w'
     go_simp
     with_reducible rfl
    rotate_left
    ·simp only [Act.put,List.setIfInBounds_toArray,List.set_cons_zero,List.set_cons_succ,i64_w,i32_w]
     rfl
    refine Cw.dpu (i:=21) (v:=?_) (a':=?_) (by simp only [List.getElem?_toArray,List.getElem?_cons_succ,List.getElem?_cons_zero];rfl) rfl (by as_aux_lemma=>kernel_rfl) (by rfl) (by exact fun _ _ _ h=>h) ?_ ?_ ?_
    rotate_left
    ·intro w'
     go_simp
     with_reducible rfl
    rotate_left
    ·simp only [Act.put,List.setIfInBounds_toArray,List.set_cons_zero,List.set_cons_succ,i64_w,i32_w]
     rfl
    refine Cw.dtk (i:=22) (v:=?_) (a':=?_) (by simp only [List.getElem?_toArray,List.getElem?_cons_succ,List.getElem?_cons_zero];rfl) rfl (by as_aux_lemma=>kernel_rfl) (by rfl) (by exact fun _ _ _ h=>h) ?_ (by repeat (first|exact Below.refl _ _|with_reducible apply zlN|with_reducible apply zlA|refine below_step ?_ (Aside0.out (by assumption)))) ?_ ?_
    rotate_left
    ·intro w' hs_
     have hs:=zm hs_
     clear hs_
     apply Eq.trans
     ·apply ID_u64
      ·rfl
      ·rfl
      ·exact (Kd.C_below (Aside0.out (by assumption)) (by repeat (first|exact Below.refl _ _|with_reducible apply zlN|with_reducible apply zlA|refine below_step ?_ (Aside0.out (by assumption)))))
      ·omega
      ·omega
     ·rfl
    rotate_left
    ·simp only [Act.put,List.setIfInBounds_toArray,List.set_cons_zero,List.set_cons_succ,i64_w,i32_w]
     rfl
    refine Cw.dpu (i:=23) (v:=?_) (a':=?_) (by simp only [List.getElem?_toArray,List.getElem?_cons_succ,List.getElem?_cons_zero];rfl) rfl (by as_aux_lemma=>kernel_rfl) (by rfl) (by exact fun _ _ _ h=>h) ?_ ?_ ?_
    rotate_left
    ·intro w'
     go_simp
     with_reducible rfl
    rotate_left
    ·simp only [Act.put,List.setIfInBounds_toArray,List.set_cons_zero,List.set_cons_succ,i64_w,i32_w]
     rfl
    refine Cw.dpu (i:=24) (v:=?_) (a':=?_) (by simp only [List.getElem?_toArray,List.getElem?_cons_succ,List.getElem?_cons_zero];rfl) rfl (by as_aux_lemma=>kernel_rfl) (by rfl) (by exact fun _ _ _ h=>h) ?_ ?_ ?_
    rotate_left
    ·intro w'
     go_simp
     with_reducible rfl
    rotate_left
    ·simp only [Act.put,List.setIfInBounds_toArray,List.set_cons_zero,List.set_cons_succ,i64_w,i32_w]
     rfl
    refine Cw.done1 (i:=25) (N:=some 12) (by simp only [List.getElem?_toArray,List.getElem?_cons_succ,List.getElem?_cons_zero];rfl) rfl (by as_aux_lemma=>kernel_rfl) (fun K hK=>?_)
    refine Cw.dnew (fun g=>.pointer (some ⟨g,0,none⟩)) (by rfl) rfl (by apply ID_new24;rfl) ?_
    rintro gx hg w1 hbk hb
    have hge:Aside0 (wd.heap.size≤gx):=⟨Nat.le_trans (below_size (by repeat (first|exact Below.refl _ _|with_reducible apply zlN|with_reducible apply zlA|refine below_step ?_ (Aside0.out (by assumption))))) (Nat.le_of_eq hg.symm)⟩
    clear hg
    have hh_:=zm hbk;clear hbk;have hbk:=hh_;clear hh_;have hh_:=zm hb;clear hb;have hb:=hh_;clear hh_
    refine hK.out _ _ (by repeat (first|exact Below.refl _ _|with_reducible apply zlN|with_reducible apply zlA|refine below_step ?_ (Aside0.out (by assumption)))) (fun _=>?_)
    clear hK K
    refine znm (some 12) ?_
    refine Cw.done1 (i:=26) (N:=none) (by simp only [List.getElem?_toArray,List.getElem?_cons_succ,List.getElem?_cons_zero];rfl) rfl (by as_aux_lemma=>kernel_rfl) (fun K hK=>?_)
    refine Cw.dput (g:=gx) (ys:=[.int .i64 (wrap64 (rd l1 0)),.int .i64 (wrap64 (rd l1 4)),.int .i64 (wrap64 (rd l1 5)),.int .i64 (wrap64 (rd l1 6)),.int .i64 (wrap64 (rd l1 7)),.int .i64 (wrap64 (rd l1 1)),.slice none 0 0]) (by rfl) rfl ?_ ?_
    ·apply ID_st7
     ·rfl
     ·rfl
     ·rfl
     ·exact (zbB (Aside0.out (by assumption)) (by repeat (first|exact Below.refl _ _|with_reducible apply zlN|with_reducible apply zlA|refine below_step ?_ (Aside0.out (by assumption)))))
    rintro wx hwx
    have hb2:Aside0 (Below wd.heap.size wd wx):=⟨by rw [hwx];exact Cw.setL_below hge.out _ _ _ (by repeat (first|exact Below.refl _ _|with_reducible apply zlN|with_reducible apply zlA|refine below_step ?_ (Aside0.out (by assumption))))⟩
    have hbx:Aside0 (wx.heap[gx]?=some (.cells #[.int .i64 (wrap64 (rd l1 0)),.int .i64 (wrap64 (rd l1 4)),.int .i64 (wrap64 (rd l1 5)),.int .i64 (wrap64 (rd l1 6)),.int .i64 (wrap64 (rd l1 7)),.int .i64 (wrap64 (rd l1 1)),.slice none 0 0] 24 (0,0))):=⟨by rw [hwx];exact Cw.setL_full [.int .i64 (wrap64 (rd l1 0)),.int .i64 (wrap64 (rd l1 4)),.int .i64 (wrap64 (rd l1 5)),.int .i64 (wrap64 (rd l1 6)),.int .i64 (wrap64 (rd l1 7)),.int .i64 (wrap64 (rd l1 1)),.slice none 0 0] (show _=some (Obj.cells #[.int .i64 0,.int .i64 0,.int .i64 0,.int .i64 0,.int .i64 0,.int .i64 0,.slice none 0 0] 24 (0,0)) from (zbB (Aside0.out (by assumption)) (by repeat (first|exact Below.refl _ _|with_reducible apply zlN|with_reducible apply zlA|refine below_step ?_ (Aside0.out (by assumption)))))) rfl⟩
    clear hwx
    refine hK.out _ _ hb2.out (fun _=>?_)
    clear hK K
    refine zdo ?_
    have hqm:=hqm.out
    have hm0:=hm0.out
    go_wp2_with (first|((with_reducible refine gate_ (.load 58 _) rfl ?_);refine Kd.event_run rfl (by apply ID_u64;exact rfl;exact rfl;exact (Kd.C_below (Aside0.out (by assumption)) (by repeat (first|exact Below.refl _ _|with_reducible apply zlN|with_reducible apply zlA|refine below_step ?_ (Aside0.out (by assumption)))));omega;omega) ?_))
    go_loopw [86] (fun i wr=>∃ (j:Nat) (rt:List S51) (v:Value),i=.int .i64 (j:Int)∧Aside0 ((j:Int)≤rd l1 2)∧Aside0 (rt.length=j)∧Aside0 (inode_Decode.go k l0 ((rd l1 2).toNat - j) j rt=some root)∧Aside0 (wr.heap[gx]?=some (.cells #[.int .i64 (wrap64 (rd l1 0)),.int .i64 (wrap64 (rd l1 4)),.int .i64 (wrap64 (rd l1 5)),.int .i64 (wrap64 (rd l1 6)),.int .i64 (wrap64 (rd l1 7)),.int .i64 (wrap64 (rd l1 1)),v] 24 (0,0)))∧Aside0 (Kd.R k51 51 wr wd.heap.size (fun _=>True) v rt)∧Aside0 (Below wd.heap.size wd wr)) (fun i _=>(rd l1 2).toNat - (intOf i).toNat)
    case atStart=>exact ⟨0,[],_,by simp,⟨by omega⟩,⟨rfl⟩,⟨F4.out⟩,hbx,⟨Kd.R_nil _ _ _ _ _⟩,⟨(by repeat (first|exact Below.refl _ _|with_reducible apply zlN|with_reducible apply zlA|refine below_step ?_ (Aside0.out (by assumption))))⟩⟩
    case round =>
     obtain ⟨j,rt,v,rfl,hj,HL,HA,hbr,hR,hbw⟩:=hrel
     clear hbx
     by_cases hlt:(j:Int) < rd l1 2
     ·have hlen:=HL
      have H:=HA.out
      clear HA
      obtain ⟨d,hd⟩:∃ d,(rd l1 2).toNat - j=d + 1:=⟨(rd l1 2).toNat - j - 1,by omega⟩
      have hd':(rd l1 2).toNat - (j + 1)=d:=by omega
      rw [hd] at H
      simp only [inode_Decode.go] at H
      have hg_:=Option.bind_eq_some_iff.mp H;clear H;obtain ⟨⟨p,e⟩,G1,H⟩:=hg_;have hh_:=zm G1;clear G1;have G1:=hh_;clear hh_;(try dsimp only at H);have hg_:=Cw.gt_ H;clear H;obtain ⟨rfl,H⟩:=hg_;have hg_:=Cw.gt_ H;clear H;obtain ⟨hp3,H⟩:=hg_
      rw [← hd'] at H
      clear hd hd'
      have hh_:=zm H;clear H;have H:=hh_;clear hh_;have hh_:=zm hp3;clear hp3;have hp3:=hh_;clear hh_
      have hj3:(j:Int)≤3:=by omega
      go_wp2
      refine Cw.dstart (by as_aux_lemma=>kernel_rfl) rfl (fun we hb=>?_)
      have hh_:=zm hb;clear hb;have hb:=hh_;clear hh_
      refine Cw.dpu (i:=0) (v:=?_) (a':=?_) (by simp only [List.getElem?_toArray,List.getElem?_cons_succ,List.getElem?_cons_zero];rfl) rfl (by as_aux_lemma=>kernel_rfl) (by rfl) (by exact fun _ _ _ h=>h) ?_ ?_ ?_
      rotate_left
      ·intro w'
       go_simp
       with_reducible rfl
      rotate_left
      ·simp only [Act.put,List.setIfInBounds_toArray,List.set_cons_zero,List.set_cons_succ,i64_w,i32_w]
       rfl
      refine Cw.dpu (i:=1) (v:=?_) (a':=?_) (by simp only [List.getElem?_toArray,List.getElem?_cons_succ,List.getElem?_cons_zero];rfl) rfl (by as_aux_lemma=>kernel_rfl) (by rfl) (by exact fun _ _ _ h=>h) ?_ ?_ ?_
      rotate_left
      ·intro w'
       go_simp
       with_reducible rfl
      rotate_left
      ·simp only [Act.put,List.setIfInBounds_toArray,List.set_cons_zero,List.set_cons_succ,i64_w,i32_w]
       rfl
      refine Cw.dpu (i:=2) (v:=?_) (a':=?_) (by simp only [List.getElem?_toArray,List.getElem?_cons_succ,List.getElem?_cons_zero];rfl) rfl (by as_aux_lemma=>kernel_rfl) (by rfl) (by exact fun _ _ _ h=>h) ?_ ?_ ?_
      rotate_left
      ·intro w'
       go_simp
       with_reducible rfl
      rotate_left
      ·simp only [Act.put,List.setIfInBounds_toArray,List.set_cons_zero,List.set_cons_succ,i64_w,i32_w]
       rfl
      refine Cw.dpu (i:=3) (v:=?_) (a':=?_) (by simp only [List.getElem?_toArray,List.getElem?_cons_succ,List.getElem?_cons_zero];rfl) rfl (by as_aux_lemma=>kernel_rfl) (by rfl) (by exact fun _ _ _ h=>h) ?_ ?_ ?_
      rotate_left
      ·intro w'
       go_simp
       with_reducible rfl
      rotate_left
      ·simp only [Act.put,List.setIfInBounds_toArray,List.set_cons_zero,List.set_cons_succ,i64_w,i32_w]
       rfl
      refine Cw.dpu (i:=4) (v:=?_) (a':=?_) (by simp only [List.getElem?_toArray,List.getElem?_cons_succ,List.getElem?_cons_zero];rfl) rfl (by as_aux_lemma=>kernel_rfl) (by rfl) (by exact fun _ _ _ h=>h) ?_ ?_ ?_
      rotate_left
      ·intro w'
       go_simp
       with_reducible rfl
      rotate_left
      ·simp only [Act.put,List.setIfInBounds_toArray,List.set_cons_zero,List.set_cons_succ,i64_w,i32_w]
       rfl
      refine Cw.dpu (i:=5) (v:=?_) (a':=?_) (by simp only [List.getElem?_toArray,List.getElem?_cons_succ,List.getElem?_cons_zero];rfl) rfl (by as_aux_lemma=>kernel_rfl) (by rfl) (by exact fun _ _ _ h=>h) ?_ ?_ ?_
      rotate_left
      ·intro w'
       go_simp
       with_reducible rfl
      rotate_left
      ·simp only [Act.put,List.setIfInBounds_toArray,List.set_cons_zero,List.set_cons_succ,i64_w,i32_w]
       rfl
      refine Cw.dpu (i:=6) (v:=?_) (a':=?_) (by simp only [List.getElem?_toArray,List.getElem?_cons_succ,List.getElem?_cons_zero];rfl) rfl (by as_aux_lemma=>kernel_rfl) (by rfl) (by exact fun _ _ _ h=>h) ?_ ?_ ?_
      rotate_left
      ·intro w'
       go_simp
       with_reducible rfl
      rotate_left
      ·simp only [Act.put,List.setIfInBounds_toArray,List.set_cons_zero,List.set_cons_succ,i64_w,i32_w]
       rfl
      refine Cw.dpu (i:=7) (v:=?_) (a':=?_) (by simp only [List.getElem?_toArray,List.getElem?_cons_succ,List.getElem?_cons_zero];rfl) rfl (by as_aux_lemma=>kernel_rfl) (by rfl) (by exact fun _ _ _ h=>h) ?_ ?_ ?_
      rotate_left
      ·intro w'
       go_simp
       with_reducible rfl
      rotate_left
      ·simp only [Act.put,List.setIfInBounds_toArray,List.set_cons_zero,List.set_cons_succ,i64_w,i32_w]
       rfl
      refine Cw.dpu (i:=8) (v:=?_) (a':=?_) (by simp only [List.getElem?_toArray,List.getElem?_cons_succ,List.getElem?_cons_zero];rfl) rfl (by as_aux_lemma=>kernel_rfl) (by rfl) (by exact fun _ _ _ h=>h) ?_ ?_ ?_
      rotate_left
      ·intro w'
       go_simp
       with_reducible rfl
      rotate_left
      ·simp only [Act.put,List.setIfInBounds_toArray,List.set_cons_zero,List.set_cons_succ,i64_w,i32_w]
       rfl
      refine Cw.dpu (i:=9) (v:=?_) (a':=?_) (by simp only [List.getElem?_toArray,List.getElem?_cons_succ,List.getElem?_cons_zero];rfl) rfl (by as_aux_lemma=>kernel_rfl) (by rfl) (by exact fun _ _ _ h=>h) ?_ ?_ ?_
      rotate_left
      ·intro w'
       go_simp
       with_reducible rfl
      rotate_left
      ·simp only [Act.put,List.setIfInBounds_toArray,List.set_cons_zero,List.set_cons_succ,i64_w,i32_w]
       rfl
      refine Cw.dpu (i:=10) (v:=?_) (a':=?_) (by simp only [List.getElem?_toArray,List.getElem?_cons_succ,List.getElem?_cons_zero];rfl) rfl (by as_aux_lemma=>kernel_rfl) (by rfl) (by exact fun _ _ _ h=>h) ?_ ?_ ?_
      rotate_left
      ·intro w'
       go_simp
       with_reducible rfl
      rotate_left
      ·simp only [Act.put,List.setIfInBounds_toArray,List.set_cons_zero,List.set_cons_succ,i64_w,i32_w]
       rfl
      refine Cw.dpu (i:=11) (v:=?_) (a':=?_) (by simp only [List.getElem?_toArray,List.getElem?_cons_succ,List.getElem?_cons_zero];rfl) rfl (by as_aux_lemma=>kernel_rfl) (by rfl) (by exact fun _ _ _ h=>h) ?_ ?_ ?_
      rotate_left
      ·intro w'
       go_simp
       with_reducible rfl
      rotate_left
      ·simp only [Act.put,List.setIfInBounds_toArray,List.set_cons_zero,List.set_cons_succ,i64_w,i32_w]
       rfl
      refine Cw.dpu (i:=12) (v:=?_) (a':=?_) (by simp only [List.getElem?_toArray,List.getElem?_cons_succ,List.getElem?_cons_zero];rfl) rfl (by as_aux_lemma=>kernel_rfl) (by rfl) (by exact fun _ _ _ h=>h) ?_ ?_ ?_
      rotate_left
      ·intro w'
       go_simp
       with_reducible rfl
      rotate_left
      ·simp only [Act.put,List.setIfInBounds_toArray,List.set_cons_zero,List.set_cons_succ,i64_w,i32_w]
       rfl
      have hcap:(64:Int)≤(c0:Int):=by have:=hl.out;have:=hc0.out;omega
      refine Cw.dpu (i:=13) (v:=?_) (a':=?_) (by simp only [List.getElem?_toArray,List.getElem?_cons_succ,List.getElem?_cons_zero];rfl) rfl (by as_aux_lemma=>kernel_rfl) (by rfl) (by exact fun _ _ _ h=>h) ?_ ?_ ?_
      rotate_left
      ·intro w'
       apply Eq.trans
       ·apply ID_cut
        ·rfl
        ·rfl
        ·rfl
        ·rfl
        ·rw [ID_lo hj3];omega
        ·rw [ID_lo hj3,ID_hi hj3];omega
        ·rw [ID_hi hj3];omega
       ·rfl
      rotate_left
      ·simp only [Act.put,List.setIfInBounds_toArray,List.set_cons_zero,List.set_cons_succ,i64_w,i32_w]
       rfl
      refine Cw.done1 (i:=14) (N:=some 104) (by simp only [List.getElem?_toArray,List.getElem?_cons_succ,List.getElem?_cons_zero];rfl) rfl (by as_aux_lemma=>kernel_rfl) (fun K hK=>?_)
      refine goes_ Try.func32 (by as_aux_lemma=>kernel_rfl) rfl _ (by rfl) rfl rfl (by go_simp;rfl) ?_
      rw [ID_lo hj3,ID_hi hj3]
      simp only [Int.toNat_natCast]
      refine (ID_unpack k _ 3 3 [24,16,32] _ _ _ ((l0.take (24 + (j + 1) * 9)).drop (24 + j * 9)) p 0 _ rfl (by rw [List.length_drop,List.length_take];have:=hl.out;omega) (Cw.C_ints (zbB (Aside0.out (by assumption)) (by repeat (first|exact Below.refl _ _|with_reducible apply zlN|with_reducible apply zlA|refine below_step ?_ (Aside0.out (by assumption))))) rfl (by simp)) (by simp) (ID_mid rfl (Kd.C_below (Aside0.out (by assumption)) (by repeat (first|exact Below.refl _ _|with_reducible apply zlN|with_reducible apply zlA|refine below_step ?_ (Aside0.out (by assumption))))) (by omega) (by have:=hl.out;omega) hc0.out) (by rw [List.length_drop,List.length_take];have:=hl.out;omega) G1.out).mono ?_
      rintro e w1 ⟨A2,c2,rfl,hc2,hr2,hb⟩
      obtain ⟨ad2,rfl,_⟩:=hr2.2.2 (by rw [hp3.out];omega)
      rw [hp3.out] at hr2 hc2 ⊢
      have hh_:=zm hc2;clear hc2;have hc2:=hh_;clear hh_;have hh_:=zm hr2;clear hr2;have hr2:=hh_;clear hh_;have hh_:=zm hb;clear hb;have hb:=hh_;clear hh_
      refine ⟨_,rfl,?_⟩
      refine hK.out _ _ (by repeat (first|exact Below.refl _ _|with_reducible apply zlN|with_reducible apply zlA|refine below_step ?_ (Aside0.out (by assumption)))) (fun _=>?_)
      clear hK K
      refine znm (some 104) ?_
      refine Cw.dpu (i:=15) (v:=?_) (a':=?_) (by simp only [List.getElem?_toArray,List.getElem?_cons_succ,List.getElem?_cons_zero];rfl) rfl (by as_aux_lemma=>kernel_rfl) (by rfl) (by exact fun _ _ _ h=>h) ?_ ?_ ?_
      rotate_left
      ·intro w'
       go_simp
       with_reducible rfl
      rotate_left
      ·simp only [Act.put,List.setIfInBounds_toArray,List.set_cons_zero,List.set_cons_succ,i64_w,i32_w]
       rfl
      refine Cw.dpu (i:=16) (v:=?_) (a':=?_) (by simp only [List.getElem?_toArray,List.getElem?_cons_succ,List.getElem?_cons_zero];rfl) rfl (by as_aux_lemma=>kernel_rfl) (by rfl) (by exact fun _ _ _ h=>h) ?_ ?_ ?_
      rotate_left
      ·intro w'
       go_simp
       with_reducible rfl
      rotate_left
      ·simp only [Act.put,List.setIfInBounds_toArray,List.set_cons_zero,List.set_cons_succ,i64_w,i32_w]
       rfl
      refine Cw.dpu (i:=17) (v:=?_) (a':=?_) (by simp only [List.getElem?_toArray,List.getElem?_cons_succ,List.getElem?_cons_zero];rfl) rfl (by as_aux_lemma=>kernel_rfl) (by rfl) (by exact fun _ _ _ h=>h) ?_ ?_ ?_
      rotate_left
      ·intro w'
       go_simp
       with_reducible rfl
      rotate_left
      ·simp only [Act.put,List.setIfInBounds_toArray,List.set_cons_zero,List.set_cons_succ,i64_w,i32_w]
       rfl
      refine Cw.dpu (i:=18) (v:=?_) (a':=?_) (by simp only [List.getElem?_toArray,List.getElem?_cons_succ,List.getElem?_cons_zero];rfl) rfl (by as_aux_lemma=>kernel_rfl) (by rfl) (by exact fun _ _ _ h=>h) ?_ ?_ ?_
      rotate_left
      ·intro w'
       go_simp
       with_reducible rfl
      rotate_left
      ·simp only [Act.put,List.setIfInBounds_toArray,List.set_cons_zero,List.set_cons_succ,i64_w,i32_w]
       rfl
      refine Cw.dpu (i:=19) (v:=?_) (a':=?_) (by simp only [List.getElem?_toArray,List.getElem?_cons_succ,List.getElem?_cons_zero];rfl) rfl (by as_aux_lemma=>kernel_rfl) (by rfl) (by exact fun _ _ _ h=>h) ?_ ?_ ?_
      rotate_left
      ·intro w'
       go_simp
       with_reducible rfl
      rotate_left
      ·simp only [Act.put,List.setIfInBounds_toArray,List.set_cons_zero,List.set_cons_succ,i64_w,i32_w]
       rfl
      refine zdo ?_
      go_wp2
      refine Cw.dstartD [16,18] (by as_aux_lemma=>kernel_rfl) rfl (fun we hb=>?_)
      have hh_:=zm hb;clear hb;have hb:=hh_;clear hh_
      refine Cw.dpu (i:=0) (v:=?_) (a':=?_) (by simp only [List.getElem?_toArray,List.getElem?_cons_succ,List.getElem?_cons_zero];rfl) rfl (by as_aux_lemma=>kernel_rfl) (by rfl) (by exact fun _ _ _ h=>h) ?_ ?_ ?_
      rotate_left
      ·intro w'
       go_simp
       with_reducible rfl
      rotate_left
      ·simp only [Act.put,List.setIfInBounds_toArray,List.set_cons_zero,List.set_cons_succ,i64_w,i32_w]
       rfl
      refine Cw.dtkD (i:=1) (v:=?_) (a':=?_) (by simp only [List.getElem?_toArray,List.getElem?_cons_succ,List.getElem?_cons_zero];rfl) rfl (by as_aux_lemma=>kernel_rfl) (by rfl) (by exact fun _ _ _ h=>h) ?_ (by repeat (first|exact Below.refl _ _|with_reducible apply zlN|with_reducible apply zlA|refine below_step ?_ (Aside0.out (by assumption)))) ?_ ?_
      rotate_left
      ·intro w' hs_
       have hs:=zm hs_
       clear hs_
       apply Eq.trans
       ·apply IE_c22
        ·rfl
        ·rfl
        ·exact (zbB (Aside0.out (by assumption)) (by repeat (first|exact Below.refl _ _|with_reducible apply zlN|with_reducible apply zlA|refine below_step ?_ (Aside0.out (by assumption)))))
        ·rfl
       ·rfl
      rotate_left
      ·simp only [Act.put,List.setIfInBounds_toArray,List.set_cons_zero,List.set_cons_succ,i64_w,i32_w]
       rfl
      refine Cw.dpu (i:=2) (v:=?_) (a':=?_) (by simp only [List.getElem?_toArray,List.getElem?_cons_succ,List.getElem?_cons_zero];rfl) rfl (by as_aux_lemma=>kernel_rfl) (by rfl) (by exact fun _ _ _ h=>h) ?_ ?_ ?_
      rotate_left
      ·intro w'
       go_simp
       with_reducible rfl
      rotate_left
      ·simp only [Act.put,List.setIfInBounds_toArray,List.set_cons_zero,List.set_cons_succ,i64_w,i32_w]
       rfl
      refine Cw.dpu (i:=3) (v:=?_) (a':=?_) (by simp only [List.getElem?_toArray,List.getElem?_cons_succ,List.getElem?_cons_zero];rfl) rfl (by as_aux_lemma=>kernel_rfl) (by rfl) (by exact fun _ _ _ h=>h) ?_ ?_ ?_
      rotate_left
      ·intro w'
       go_simp
       with_reducible rfl
      rotate_left
      ·simp only [Act.put,List.setIfInBounds_toArray,List.set_cons_zero,List.set_cons_succ,i64_w,i32_w]
       rfl
      refine Cw.dtkD (i:=4) (v:=?_) (a':=?_) (by simp only [List.getElem?_toArray,List.getElem?_cons_succ,List.getElem?_cons_zero];rfl) rfl (by as_aux_lemma=>kernel_rfl) (by rfl) (by exact fun _ _ _ h=>h) ?_ (by repeat (first|exact Below.refl _ _|with_reducible apply zlN|with_reducible apply zlA|refine below_step ?_ (Aside0.out (by assumption)))) ?_ ?_
      rotate_left
      ·intro w' hs_
       have hs:=zm hs_
       clear hs_
       apply Eq.trans
       ·apply ID_u64z
        ·rfl
        ·rfl
        ·exact (Kd.C_below (Aside0.out (by assumption)) (by repeat (first|exact Below.refl _ _|with_reducible apply zlN|with_reducible apply zlA|refine below_step ?_ (Aside0.out (by assumption)))))
        ·omega
       ·rfl
      rotate_left
      ·simp only [Act.put,List.setIfInBounds_toArray,List.set_cons_zero,List.set_cons_succ,i64_w,i32_w]
       rfl
      refine Cw.dpu (i:=5) (v:=?_) (a':=?_) (by simp only [List.getElem?_toArray,List.getElem?_cons_succ,List.getElem?_cons_zero];rfl) rfl (by as_aux_lemma=>kernel_rfl) (by rfl) (by exact fun _ _ _ h=>h) ?_ ?_ ?_
      rotate_left
      ·intro w'
       go_simp
       with_reducible rfl
      rotate_left
      ·simp only [Act.put,List.setIfInBounds_toArray,List.set_cons_zero,List.set_cons_succ,i64_w,i32_w]
       rfl
      refine Cw.dpu (i:=6) (v:=?_) (a':=?_) (by simp only [List.getElem?_toArray,List.getElem?_cons_succ,List.getElem?_cons_zero];rfl) rfl (by as_aux_lemma=>kernel_rfl) (by rfl) (by exact fun _ _ _ h=>h) ?_ ?_ ?_
      rotate_left
      ·intro w'
       go_simp
       with_reducible rfl
      rotate_left
      ·simp only [Act.put,List.setIfInBounds_toArray,List.set_cons_zero,List.set_cons_succ,i64_w,i32_w]
       rfl
      refine Cw.dpu (i:=7) (v:=?_) (a':=?_) (by simp only [List.getElem?_toArray,List.getElem?_cons_succ,List.getElem?_cons_zero];rfl) rfl (by as_aux_lemma=>kernel_rfl) (by rfl) (by exact fun _ _ _ h=>h) ?_ ?_ ?_
      rotate_left
      ·intro w'
       go_simp
       with_reducible rfl
      rotate_left
      ·simp only [Act.put,List.setIfInBounds_toArray,List.set_cons_zero,List.set_cons_succ,i64_w,i32_w]
       rfl
      refine Cw.dtkD (i:=8) (v:=?_) (a':=?_) (by simp only [List.getElem?_toArray,List.getElem?_cons_succ,List.getElem?_cons_zero];rfl) rfl (by as_aux_lemma=>kernel_rfl) (by rfl) (by exact fun _ _ _ h=>h) ?_ (by repeat (first|exact Below.refl _ _|with_reducible apply zlN|with_reducible apply zlA|refine below_step ?_ (Aside0.out (by assumption)))) ?_ ?_
      rotate_left
      ·intro w' hs_
       have hs:=zm hs_
       clear hs_
       apply Eq.trans
       ·apply ID_u64
        ·rfl
        ·rfl
        ·exact (Kd.C_below (Aside0.out (by assumption)) (by repeat (first|exact Below.refl _ _|with_reducible apply zlN|with_reducible apply zlA|refine below_step ?_ (Aside0.out (by assumption)))))
        ·omega
        ·omega
       ·rfl
      rotate_left
      ·simp only [Act.put,List.setIfInBounds_toArray,List.set_cons_zero,List.set_cons_succ,i64_w,i32_w]
       rfl
      refine Cw.dpu (i:=9) (v:=?_) (a':=?_) (by simp only [List.getElem?_toArray,List.getElem?_cons_succ,List.getElem?_cons_zero];rfl) rfl (by as_aux_lemma=>kernel_rfl) (by rfl) (by exact fun _ _ _ h=>h) ?_ ?_ ?_
      rotate_left
      ·intro w'
       go_simp
       with_reducible rfl
      rotate_left
      ·simp only [Act.put,List.setIfInBounds_toArray,List.set_cons_zero,List.set_cons_succ,i64_w,i32_w]
       rfl
      refine Cw.dpu (i:=10) (v:=?_) (a':=?_) (by simp only [List.getElem?_toArray,List.getElem?_cons_succ,List.getElem?_cons_zero];rfl) rfl (by as_aux_lemma=>kernel_rfl) (by rfl) (by exact fun _ _ _ h=>h) ?_ ?_ ?_
      rotate_left
      ·intro w'
       go_simp
       with_reducible rfl
      rotate_left
      ·simp only [Act.put,List.setIfInBounds_toArray,List.set_cons_zero,List.set_cons_succ,i64_w,i32_w]
       rfl
      refine Cw.dpu (i:=11) (v:=?_) (a':=?_) (by simp only [List.getElem?_toArray,List.getElem?_cons_succ,List.getElem?_cons_zero];rfl) rfl (by as_aux_lemma=>kernel_rfl) (by rfl) (by exact fun _ _ _ h=>h) ?_ ?_ ?_
      rotate_left
      ·intro w'
       go_simp
       with_reducible rfl
      rotate_left
      ·simp only [Act.put,List.setIfInBounds_toArray,List.set_cons_zero,List.set_cons_succ,i64_w,i32_w]
       rfl
      refine Cw.dtkD (i:=12) (v:=?_) (a':=?_) (by simp only [List.getElem?_toArray,List.getElem?_cons_succ,List.getElem?_cons_zero];rfl) rfl (by as_aux_lemma=>kernel_rfl) (by rfl) (by exact fun _ _ _ h=>h) ?_ (by repeat (first|exact Below.refl _ _|with_reducible apply zlN|with_reducible apply zlA|refine below_step ?_ (Aside0.out (by assumption)))) ?_ ?_
      rotate_left
      ·intro w' hs_
       have hs:=zm hs_
       clear hs_
       apply Eq.trans
       ·apply ID_u64
        ·rfl
        ·rfl
        ·exact (Kd.C_below (Aside0.out (by assumption)) (by repeat (first|exact Below.refl _ _|with_reducible apply zlN|with_reducible apply zlA|refine below_step ?_ (Aside0.out (by assumption)))))
        ·omega
        ·omega
       ·rfl
      rotate_left
      ·simp only [Act.put,List.setIfInBounds_toArray,List.set_cons_zero,List.set_cons_succ,i64_w,i32_w]
       rfl
      refine Cw.dpu (i:=13) (v:=?_) (a':=?_) (by simp only [List.getElem?_toArray,List.getElem?_cons_succ,List.getElem?_cons_zero];rfl) rfl (by as_aux_lemma=>kernel_rfl) (by rfl) (by exact fun _ _ _ h=>h) ?_ ?_ ?_
      rotate_left
      ·intro w'
       go_simp
       with_reducible rfl
      rotate_left
      ·simp only [Act.put,List.setIfInBounds_toArray,List.set_cons_zero,List.set_cons_succ,i64_w,i32_w]
       rfl
      refine Cw.dpu (i:=14) (v:=?_) (a':=?_) (by simp only [List.getElem?_toArray,List.getElem?_cons_succ,List.getElem?_cons_zero];rfl) rfl (by as_aux_lemma=>kernel_rfl) (by rfl) (by exact fun _ _ _ h=>h) ?_ ?_ ?_
      rotate_left
      ·intro w'
       go_simp
       with_reducible rfl
      rotate_left
      ·simp only [Act.put,List.setIfInBounds_toArray,List.set_cons_zero,List.set_cons_succ,i64_w,i32_w]
       rfl
      refine Cw.done1D (i:=15) (N:=some 125) (by simp only [List.getElem?_toArray,List.getElem?_cons_succ,List.getElem?_cons_zero];rfl) rfl (by as_aux_lemma=>kernel_rfl) (by decide) (fun K hK=>?_)
      refine Cw.dnew (fun g=>.slice (some ⟨g,0,none⟩) 1 1) (by rfl) rfl (by apply ID_lit1;exact rfl;exact rfl) ?_
      rintro gl hg w1 hbk hb
      clear hg
      have hh_:=zm hbk;clear hbk;have hbk:=hh_;clear hh_;have hh_:=zm hb;clear hb;have hb:=hh_;clear hh_
      refine hK.out _ _ (by repeat (first|exact Below.refl _ _|with_reducible apply zlN|with_reducible apply zlA|refine below_step ?_ (Aside0.out (by assumption)))) (fun _=>?_)
      clear hK K
      refine znm (some 125) ?_
      refine Cw.lastD (i:=16) (N:=some 126) (by simp only [List.getElem?_toArray,List.getElem?_cons_succ,List.getElem?_cons_zero];rfl) rfl (by as_aux_lemma=>kernel_rfl) (by decide) (fun K hK=>?_)
      refine Kd.R_append_rows_step k51 (Rr:=k51.K wd) (w0:=wd) wd.heap.size (by rfl) (.tmp 111) (.tmp 125) 22 51 (.agg #[(.int .i64 0),(.int .i64 0),(.int .i64 0)]) 24 rfl Try.underlying22 info51 rfl (by decide) (by omega) v rt [(⟨wrap64 (rd p 0),wrap64 (rd p 1),wrap64 (rd p 2)⟩:S51)] _ _ _ (fun _=>True) (fun _=>False) rfl rfl (Kd.R_below hR.out (by repeat (first|exact Below.refl _ _|with_reducible apply zlN|with_reducible apply zlA|refine below_step ?_ (Aside0.out (by assumption))))) (ID_R1 (zbB (Aside0.out (by assumption)) (by repeat (first|exact Below.refl _ _|with_reducible apply zlN|with_reducible apply zlA|refine below_step ?_ (Aside0.out (by assumption)))))) (fun x cs h=>by rw [k51_open h];exact k51_mkM _ _ _ x) (fun _ hk=>hk.elim) (fun _ _=>trivial) (by repeat (first|exact Below.refl _ _|with_reducible apply zlN|with_reducible apply zlA|refine below_step ?_ (Aside0.out (by assumption)))) (below_size (by repeat (first|exact Below.refl _ _|with_reducible apply zlN|with_reducible apply zlA|refine below_step ?_ (Aside0.out (by assumption))))) ?_ ?_
      ·have:=HL.out
       omega
      intro v1 wA ho hb hg _
      have hbx:Aside0 (wA.heap[gx]?=some (.cells #[.int .i64 (wrap64 (rd l1 0)),.int .i64 (wrap64 (rd l1 4)),.int .i64 (wrap64 (rd l1 5)),.int .i64 (wrap64 (rd l1 6)),.int .i64 (wrap64 (rd l1 7)),.int .i64 (wrap64 (rd l1 1)),v] 24 (0,0))):=⟨blk_grown (show _=some (Obj.cells #[.int .i64 (wrap64 (rd l1 0)),.int .i64 (wrap64 (rd l1 4)),.int .i64 (wrap64 (rd l1 5)),.int .i64 (wrap64 (rd l1 6)),.int .i64 (wrap64 (rd l1 7)),.int .i64 (wrap64 (rd l1 1)),v] 24 (0,0)) from (zbB (Aside0.out (by assumption)) (by repeat (first|exact Below.refl _ _|with_reducible apply zlN|with_reducible apply zlA|refine below_step ?_ (Aside0.out (by assumption)))))) hg (Kd.R_ne hR.out hbr.out (by decide))⟩
      clear hg
      obtain ⟨A3,c3,rfl⟩:=Kd.R_slice ho
      have hh_:=zm ho;clear ho;have ho:=hh_;clear hh_;have hh_:=zm hb;clear hb;have hb:=hh_;clear hh_
      refine hK.out _ _ ?_
      clear hK K
      refine znm (some 126) ?_
      refine Cw.dpu (i:=17) (v:=?_) (a':=?_) (by simp only [List.getElem?_toArray,List.getElem?_cons_succ,List.getElem?_cons_zero];rfl) rfl (by as_aux_lemma=>kernel_rfl) (by rfl) (by exact fun _ _ _ h=>h) ?_ ?_ ?_
      rotate_left
      ·intro w'
       go_simp
       with_reducible rfl
      rotate_left
      ·simp only [Act.put,List.setIfInBounds_toArray,List.set_cons_zero,List.set_cons_succ,i64_w,i32_w]
       rfl
      refine Cw.lastD (i:=18) (N:=none) (by simp only [List.getElem?_toArray,List.getElem?_cons_succ,List.getElem?_cons_zero];rfl) rfl (by as_aux_lemma=>kernel_rfl) (by decide) (fun K hK=>?_)
      refine skip_ (w1:=wA.setCell ⟨gx,6,none⟩ (.slice A3 (rt ++ [(⟨wrap64 (rd p 0),wrap64 (rd p 1),wrap64 (rd p 2)⟩:S51)]).length c3)) (by rfl) rfl ?_ ?_
      ·apply ID_st1
       ·rfl
       ·rfl
       ·rfl
       ·exact hbx.out
      have hbx2:Aside0 ((wA.setCell ⟨gx,6,none⟩ (.slice A3 (rt ++ [(⟨wrap64 (rd p 0),wrap64 (rd p 1),wrap64 (rd p 2)⟩:S51)]).length c3)).heap[gx]?=some (.cells #[.int .i64 (wrap64 (rd l1 0)),.int .i64 (wrap64 (rd l1 4)),.int .i64 (wrap64 (rd l1 5)),.int .i64 (wrap64 (rd l1 6)),.int .i64 (wrap64 (rd l1 7)),.int .i64 (wrap64 (rd l1 1)),.slice A3 (rt ++ [(⟨wrap64 (rd p 0),wrap64 (rd p 1),wrap64 (rd p 2)⟩:S51)]).length c3] 24 (0,0))):=⟨blk_set hbx.out 6 _⟩
      have ho2:=zm (Kd.R_set ho.out hbx.out (by intro q hq;simp [k51,Kd.iso,Kd.pair,Kd.int,Kd.scalar] at hq;omega) 6 (.slice A3 (rt ++ [(⟨wrap64 (rd p 0),wrap64 (rd p 1),wrap64 (rd p 2)⟩:S51)]).length c3))
      have hb2:Aside0 (Below wd.heap.size wd (wA.setCell ⟨gx,6,none⟩ (.slice A3 (rt ++ [(⟨wrap64 (rd p 0),wrap64 (rd p 1),wrap64 (rd p 2)⟩:S51)]).length c3))):=⟨zlS hb.out hge.out⟩
      generalize wA.setCell ⟨gx,6,none⟩ (.slice A3 (rt ++ [(⟨wrap64 (rd p 0),wrap64 (rd p 1),wrap64 (rd p 2)⟩:S51)]).length c3)=wB at hbx2 ho2 hb2 ⊢
      refine hK.out _ _ ?_
      clear hK K
      refine zdo ?_
      go_wp2
      go_roundw
      case rel=>exact ⟨j + 1,rt ++ [(⟨wrap64 (rd p 0),wrap64 (rd p 1),wrap64 (rd p 2)⟩:S51)],_,rfl,⟨by omega⟩,⟨by rw [List.length_append,HL.out];rfl⟩,⟨H.out⟩,hbx2,ho2,hb2⟩
      case measure=>exact ID_meas hlt
     ·have hjm:(rd l1 2).toNat - j=0:=by have:=hj.out;omega
      have H:=HA.out
      clear HA
      rw [hjm] at H
      simp only [inode_Decode.go] at H
      obtain rfl:=Option.some.inj H
      clear H hjm
      obtain ⟨A3,c3,rfl⟩:=Kd.R_slice hR.out
      have hc3:=zm (Kd.R_reads' hR.out).2.1
      have hr3:=zm (Kd.R_reads' hR.out).2.2
      have H:=HO.out
      clear HO
      by_cases hpe:pe=0
      ·rw [if_pos hpe] at H
       have hg_:=Option.bind_eq_some_iff.mp H;clear H;obtain ⟨t,F6,H⟩:=hg_;have hh_:=zm F6;clear F6;have F6:=hh_;clear hh_;(try dsimp only at H)
       have hpe':(pe != 0)=false:=by rw [hpe];rfl
       clear hpe
       by_cases ht:t=true
       ·subst ht
        rw [if_pos rfl] at H
        simp only [Option.some.injEq,Prod.mk.injEq] at H
        obtain ⟨rfl,rfl,rfl,rfl,rfl,rfl,rfl,rfl⟩:=H
        go_wp2_with (first|((with_reducible refine gate_ (.load 24 _) rfl ?_);refine IE_ld rfl rfl rfl (zbB (Aside0.out (by assumption)) (by repeat (first|exact Below.refl _ _|with_reducible apply zlN|with_reducible apply zlA|refine below_step ?_ (Aside0.out (by assumption))))) ?_)|(go_at_call 8;refine (inode_Encode.calls k _ _ _ _ _ _ _ _ _ _ _ _ (Kd.C_below (Aside0.out (by assumption)) (by repeat (first|exact Below.refl _ _|with_reducible apply zlN|with_reducible apply zlA|refine below_step ?_ (Aside0.out (by assumption))))) (Aside0.out (by assumption)) F5.out).mono ?_;rintro e wE ⟨vE,rfl,hoE,hb⟩;obtain ⟨AE,cE,rfl⟩:=Kd.R_slice hoE;have hcE:=zm (Kd.R_reads' hoE).2.1;have hrE:=zm (Kd.R_reads' hoE).2.2;clear hoE;have hh_:=zm hb;clear hb;have hb:=hh_;clear hh_)|((with_reducible refine Cw.guarded rfl ?gw ?_);(case gw=>first|rfl|(go_simp;done));dsimp only)|(go_at_call 33;refine (slices_Equal_byte_byte.calls k _ _ _ _ _ _ _ _ (Kd.C_below (Aside0.out (by assumption)) (by repeat (first|exact Below.refl _ _|with_reducible apply zlN|with_reducible apply zlA|refine below_step ?_ (Aside0.out (by assumption))))) (Aside0.out (by assumption)) (Kd.C_below (Aside0.out (by assumption)) (by repeat (first|exact Below.refl _ _|with_reducible apply zlN|with_reducible apply zlA|refine below_step ?_ (Aside0.out (by assumption))))) (Aside0.out (by assumption)) F6.out).mono ?_;rintro e w1 ⟨rfl,hd⟩;have hb:=Drawn0.below hd;clear hd;have hh_:=zm hb;clear hb;have hb:=hh_;clear hh_)|((with_reducible refine gate_ (.store 24 (.tmp 2) _) rfl ?_);refine Cw.put_event (g:=g2) (ys:=[.int .i64 (wrap64 (rd l1 0)),.int .i64 (wrap64 (rd l1 4)),.int .i64 (wrap64 (rd l1 5)),.int .i64 (wrap64 (rd l1 6)),.int .i64 (wrap64 (rd l1 7)),.int .i64 (wrap64 (rd l1 1)),.slice A3 rt.length c3]) rfl rfl rfl (by apply ID_st7;exact rfl;exact rfl;exact rfl;exact (zbB (Aside0.out (by assumption)) (by repeat (first|exact Below.refl _ _|with_reducible apply zlN|with_reducible apply zlA|refine below_step ?_ (Aside0.out (by assumption)))))) ?_;rintro w2 hw2;have hb2:Aside0 (Below w.heap.size w w2):=⟨by rw [hw2];exact Cw.setL_below hg2.out _ _ _ (by repeat (first|exact Below.refl _ _|with_reducible apply zlN|with_reducible apply zlA|refine below_step ?_ (Aside0.out (by assumption))))⟩;have hzz:Aside0 (w2.heap[g2]?=some (.cells #[.int .i64 (wrap64 (rd l1 0)),.int .i64 (wrap64 (rd l1 4)),.int .i64 (wrap64 (rd l1 5)),.int .i64 (wrap64 (rd l1 6)),.int .i64 (wrap64 (rd l1 7)),.int .i64 (wrap64 (rd l1 1)),.slice A3 rt.length c3] 24 (0,0))):=⟨by rw [hw2];exact Cw.setL_full [.int .i64 (wrap64 (rd l1 0)),.int .i64 (wrap64 (rd l1 4)),.int .i64 (wrap64 (rd l1 5)),.int .i64 (wrap64 (rd l1 6)),.int .i64 (wrap64 (rd l1 7)),.int .i64 (wrap64 (rd l1 1)),.slice A3 rt.length c3] (show _=some (Obj.cells #[.int .i64 0,.int .i64 0,.int .i64 0,.int .i64 0,.int .i64 0,.int .i64 0,.slice none 0 0] 24 (0,0)) from (zbB (Aside0.out (by assumption)) (by repeat (first|exact Below.refl _ _|with_reducible apply zlN|with_reducible apply zlA|refine below_step ?_ (Aside0.out (by assumption)))))) rfl⟩;have hR2:Aside0 (Kd.R k51 51 w2 w.heap.size (fun _=>True) (.slice A3 rt.length c3) rt):=⟨by rw [hw2];exact Cw.setL_R (Kd.R_lower (Kd.R_below hR.out (by repeat (first|exact Below.refl _ _|with_reducible apply zlN|with_reducible apply zlA|refine below_step ?_ (Aside0.out (by assumption))))) (below_size (by repeat (first|exact Below.refl _ _|with_reducible apply zlN|with_reducible apply zlA|refine below_step ?_ (Aside0.out (by assumption)))))) (show _=some (Obj.cells #[.int .i64 0,.int .i64 0,.int .i64 0,.int .i64 0,.int .i64 0,.int .i64 0,.slice none 0 0] 24 (0,0)) from (zbB (Aside0.out (by assumption)) (by repeat (first|exact Below.refl _ _|with_reducible apply zlN|with_reducible apply zlA|refine below_step ?_ (Aside0.out (by assumption)))))) (by intro q hq;simp [k51,Kd.iso,Kd.pair,Kd.int,Kd.scalar] at hq;omega) 0 _⟩;clear hw2))
        refine bodyPost_ret (results_ct rfl _ _ g2 24 #[.int .i64 (wrap64 (rd l1 0)),.int .i64 (wrap64 (rd l1 4)),.int .i64 (wrap64 (rd l1 5)),.int .i64 (wrap64 (rd l1 6)),.int .i64 (wrap64 (rd l1 7)),.int .i64 (wrap64 (rd l1 1)),.slice A3 rt.length c3] (0,0) _ rfl hzz.out Try.underlying24 rfl (by kernel_rfl)) rfl ?_
        exact ⟨_,rfl,hR2.out,hb2.out⟩
       ·rw [if_neg ht] at H
        simp only [Option.some.injEq,Prod.mk.injEq] at H
        obtain ⟨rfl,rfl,rfl,rfl,rfl,rfl,rfl,rfl⟩:=H
        have ht:=Bool.eq_false_iff.mpr ht
        subst ht
        go_wp2_with (first|((with_reducible refine gate_ (.load 24 _) rfl ?_);refine IE_ld rfl rfl rfl (zbB (Aside0.out (by assumption)) (by repeat (first|exact Below.refl _ _|with_reducible apply zlN|with_reducible apply zlA|refine below_step ?_ (Aside0.out (by assumption))))) ?_)|(go_at_call 8;refine (inode_Encode.calls k _ _ _ _ _ _ _ _ _ _ _ _ (Kd.C_below (Aside0.out (by assumption)) (by repeat (first|exact Below.refl _ _|with_reducible apply zlN|with_reducible apply zlA|refine below_step ?_ (Aside0.out (by assumption))))) (Aside0.out (by assumption)) F5.out).mono ?_;rintro e wE ⟨vE,rfl,hoE,hb⟩;obtain ⟨AE,cE,rfl⟩:=Kd.R_slice hoE;have hcE:=zm (Kd.R_reads' hoE).2.1;have hrE:=zm (Kd.R_reads' hoE).2.2;clear hoE;have hh_:=zm hb;clear hb;have hb:=hh_;clear hh_)|((with_reducible refine Cw.guarded rfl ?gw ?_);(case gw=>first|rfl|(go_simp;done));dsimp only)|(go_at_call 33;refine (slices_Equal_byte_byte.calls k _ _ _ _ _ _ _ _ (Kd.C_below (Aside0.out (by assumption)) (by repeat (first|exact Below.refl _ _|with_reducible apply zlN|with_reducible apply zlA|refine below_step ?_ (Aside0.out (by assumption))))) (Aside0.out (by assumption)) (Kd.C_below (Aside0.out (by assumption)) (by repeat (first|exact Below.refl _ _|with_reducible apply zlN|with_reducible apply zlA|refine below_step ?_ (Aside0.out (by assumption))))) (Aside0.out (by assumption)) F6.out).mono ?_;rintro e w1 ⟨rfl,hd⟩;have hb:=Drawn0.below hd;clear hd;have hh_:=zm hb;clear hb;have hb:=hh_;clear hh_)|((with_reducible refine gate_ (.store 24 (.tmp 2) _) rfl ?_);refine Cw.put_event (g:=g2) (ys:=[.int .i64 0,.int .i64 0,.int .i64 0,.int .i64 0,.int .i64 0,.int .i64 0,.slice none 0 0]) rfl rfl rfl (by apply ID_st7;exact rfl;exact rfl;exact rfl;exact (zbB (Aside0.out (by assumption)) (by repeat (first|exact Below.refl _ _|with_reducible apply zlN|with_reducible apply zlA|refine below_step ?_ (Aside0.out (by assumption)))))) ?_;rintro w2 hw2;have hb2:Aside0 (Below w.heap.size w w2):=⟨by rw [hw2];exact Cw.setL_below hg2.out _ _ _ (by repeat (first|exact Below.refl _ _|with_reducible apply zlN|with_reducible apply zlA|refine below_step ?_ (Aside0.out (by assumption))))⟩;have hzz:Aside0 (w2.heap[g2]?=some (.cells #[.int .i64 0,.int .i64 0,.int .i64 0,.int .i64 0,.int .i64 0,.int .i64 0,.slice none 0 0] 24 (0,0))):=⟨by rw [hw2];exact Cw.setL_full [.int .i64 0,.int .i64 0,.int .i64 0,.int .i64 0,.int .i64 0,.int .i64 0,.slice none 0 0] (zbB (Aside0.out (by assumption)) (by repeat (first|exact Below.refl _ _|with_reducible apply zlN|with_reducible apply zlA|refine below_step ?_ (Aside0.out (by assumption))))) rfl⟩;clear hw2))
        refine bodyPost_ret (results_ct rfl _ _ g2 24 #[.int .i64 0,.int .i64 0,.int .i64 0,.int .i64 0,.int .i64 0,.int .i64 0,.slice none 0 0] (0,0) _ rfl hzz.out Try.underlying24 rfl (by kernel_rfl)) rfl ?_
        exact ⟨_,rfl,Kd.R_nil _ _ _ _ _,hb2.out⟩
      ·rw [if_neg hpe] at H
       simp only [Option.some.injEq,Prod.mk.injEq] at H
       obtain ⟨rfl,rfl,rfl,rfl,rfl,rfl,rfl,rfl⟩:=H
       have hpe':(pe != 0)=true:=bne_iff_ne.mpr hpe
       clear hpe
       go_wp2_with (first|((with_reducible refine gate_ (.load 24 _) rfl ?_);refine IE_ld rfl rfl rfl (zbB (Aside0.out (by assumption)) (by repeat (first|exact Below.refl _ _|with_reducible apply zlN|with_reducible apply zlA|refine below_step ?_ (Aside0.out (by assumption))))) ?_)|(go_at_call 8;refine (inode_Encode.calls k _ _ _ _ _ _ _ _ _ _ _ _ (Kd.C_below (Aside0.out (by assumption)) (by repeat (first|exact Below.refl _ _|with_reducible apply zlN|with_reducible apply zlA|refine below_step ?_ (Aside0.out (by assumption))))) (Aside0.out (by assumption)) F5.out).mono ?_;rintro e wE ⟨vE,rfl,hoE,hb⟩;obtain ⟨AE,cE,rfl⟩:=Kd.R_slice hoE;have hcE:=zm (Kd.R_reads' hoE).2.1;have hrE:=zm (Kd.R_reads' hoE).2.2;clear hoE;have hh_:=zm hb;clear hb;have hb:=hh_;clear hh_)|((with_reducible refine Cw.guarded rfl ?gw ?_);(case gw=>first|rfl|(go_simp;done));dsimp only)|((with_reducible refine gate_ (.store 24 (.tmp 2) _) rfl ?_);refine Cw.put_event (g:=g2) (ys:=[.int .i64 0,.int .i64 0,.int .i64 0,.int .i64 0,.int .i64 0,.int .i64 0,.slice none 0 0]) rfl rfl rfl (by apply ID_st7;exact rfl;exact rfl;exact rfl;exact (zbB (Aside0.out (by assumption)) (by repeat (first|exact Below.refl _ _|with_reducible apply zlN|with_reducible apply zlA|refine below_step ?_ (Aside0.out (by assumption)))))) ?_;rintro w2 hw2;have hb2:Aside0 (Below w.heap.size w w2):=⟨by rw [hw2];exact Cw.setL_below hg2.out _ _ _ (by repeat (first|exact Below.refl _ _|with_reducible apply zlN|with_reducible apply zlA|refine below_step ?_ (Aside0.out (by assumption))))⟩;have hzz:Aside0 (w2.heap[g2]?=some (.cells #[.int .i64 0,.int .i64 0,.int .i64 0,.int .i64 0,.int .i64 0,.int .i64 0,.slice none 0 0] 24 (0,0))):=⟨by rw [hw2];exact Cw.setL_full [.int .i64 0,.int .i64 0,.int .i64 0,.int .i64 0,.int .i64 0,.int .i64 0,.slice none 0 0] (zbB (Aside0.out (by assumption)) (by repeat (first|exact Below.refl _ _|with_reducible apply zlN|with_reducible apply zlA|refine below_step ?_ (Aside0.out (by assumption))))) rfl⟩;clear hw2))
       refine bodyPost_ret (results_ct rfl _ _ g2 24 #[.int .i64 0,.int .i64 0,.int .i64 0,.int .i64 0,.int .i64 0,.int .i64 0,.slice none 0 0] (0,0) _ rfl hzz.out Try.underlying24 rfl (by kernel_rfl)) rfl ?_
       exact ⟨_,rfl,Kd.R_nil _ _ _ _ _,hb2.out⟩
 ·rw [if_neg hl] at H
  simp only [Option.some.injEq,Prod.mk.injEq] at H
  obtain ⟨rfl,rfl,rfl,rfl,rfl,rfl,rfl,rfl⟩:=H
  have h64:((l0.length:Int) != 64)=true:=by simp;omega
  have hh_:=zm hr0;clear hr0;have hr0:=hh_;clear hh_;have hh_:=zm hc0;clear hc0;have hc0:=hh_;clear hh_;have hh_:=zm hl;clear hl;have hl:=hh_;clear hh_
  go_enter Try.func9,Try.ntmps9
  go_wp2_with (first|((with_reducible refine gate_dst (N:=2) rfl ?_);refine box_event rfl (N:=2) rfl (by first|(go_simp;done)|(go_simp;rfl)) ?_;rintro g2 hg wc hbk hb;have hg2:Aside0 (w.heap.size≤g2):=⟨Nat.le_of_eq hg.symm⟩;clear hg;have hh_:=zm hbk;clear hbk;have hbk:=hh_;clear hh_;have hh_:=zm hb;clear hb;have hb:=hh_;clear hh_)|((with_reducible refine gate_ (.store 24 (.tmp 2) _) rfl ?_);refine Cw.put_event (g:=g2) (ys:=[.int .i64 0,.int .i64 0,.int .i64 0,.int .i64 0,.int .i64 0,.int .i64 0,.slice none 0 0]) rfl rfl rfl (by apply ID_st7;exact rfl;exact rfl;exact rfl;exact (zbB (Aside0.out (by assumption)) (by repeat (first|exact Below.refl _ _|with_reducible apply zlN|with_reducible apply zlA|refine below_step ?_ (Aside0.out (by assumption)))))) ?_;rintro w2 hw2;have hb2:Aside0 (Below w.heap.size w w2):=⟨by rw [hw2];exact Cw.setL_below hg2.out _ _ _ (by repeat (first|exact Below.refl _ _|with_reducible apply zlN|with_reducible apply zlA|refine below_step ?_ (Aside0.out (by assumption))))⟩;have hzz:Aside0 (w2.heap[g2]?=some (.cells #[.int .i64 0,.int .i64 0,.int .i64 0,.int .i64 0,.int .i64 0,.int .i64 0,.slice none 0 0] 24 (0,0))):=⟨by rw [hw2];exact Cw.setL_full [.int .i64 0,.int .i64 0,.int .i64 0,.int .i64 0,.int .i64 0,.int .i64 0,.slice none 0 0] (zbB (Aside0.out (by assumption)) (by repeat (first|exact Below.refl _ _|with_reducible apply zlN|with_reducible apply zlA|refine below_step ?_ (Aside0.out (by assumption))))) rfl⟩;clear hw2))
  refine bodyPost_ret (results_ct rfl _ _ g2 24 #[.int .i64 0,.int .i64 0,.int .i64 0,.int .i64 0,.int .i64 0,.int .i64 0,.slice none 0 0] (0,0) _ rfl hzz.out Try.underlying24 rfl (by kernel_rfl)) rfl ?_
  exact ⟨_,rfl,Kd.R_nil _ _ _ _ _,hb2.out⟩
end Go.Proofs.Ytjoojmodghpimaa.Print
end
section
namespace Go.Proofs.Ytjoojmodghpimaa.Print
open Go.RowKit Go.Proofs.YtjoojmodghpimaaW.PrintWords Go.Proofs.YtjoojmodghpimaaW.PrintLast Go.Proofs.YtjoojmodghpimaaW.PrintMore
attribute [local go_sem] max2_int min2_int max_two min_two max_three min_three max_four min_four   -- for this text's walks alone
attribute [local go_sem ↓] Go.Proofs.Ytjoojmodghpimaa.Sem.isSome_setCell
attribute [local go_sem] Go.Instr.field Go.asAgg
set_option linter.unusedVariables false
set_option linter.unusedSimpArgs false
theorem eqA51 (d:Nat) (w:World) (x0 y0:Int) (x1 y1:Int) (x2 y2:Int) :
  (Op.equalIn (d + 2) 51 (.agg #[.int .i64 x0,.int .i64 x1,.int .i64 x2]) (.agg #[.int .i64 y0,.int .i64 y1,.int .i64 y2])).run Try.prog w=.ok (x0 == y0 && (x1 == y1 && (x2 == y2))) w:=by
 refine eqA_of Try.underlying51 (by kernel_rfl) ?_
 refine eqf_cons (by rfl) (by go_simp;rfl) (by go_simp;rfl) (by go_simp) ?_
 refine eqf_cons (by rfl) (by go_simp;rfl) (by go_simp;rfl) (by go_simp) ?_
 exact eqf_last (by rfl) (by go_simp;rfl) (by go_simp;rfl) (by go_simp)
end Go.Proofs.Ytjoojmodghpimaa.Print
end
section
namespace Go.Proofs.Ytjoojmodghpimaa.Print
open Go.RowKit Go.Proofs.YtjoojmodghpimaaW.PrintWords Go.Proofs.YtjoojmodghpimaaW.PrintLast Go.Proofs.YtjoojmodghpimaaW.PrintMore
attribute [local go_sem] max2_int min2_int max_two min_two max_three min_three max_four min_four   -- for this text's walks alone
attribute [local go_sem ↓] Go.Proofs.Ytjoojmodghpimaa.Sem.isSome_setCell
attribute [local go_sem] Go.Instr.field Go.asAgg
set_option linter.unusedVariables false
set_option linter.unusedSimpArgs false
attribute [local go_sem high] eqA51
def slipwayref13_Same.l0:Nat → List (S51) → List (S51) → Int → Option (Bool)
 | 0,_,_,_=>none
 | k + 1,x0,x1,x5=>if x5 < (x0.length:Int) then (if 0≤x5 then (if x5 < (x1.length:Int) then (if (!(((rd_T51 x0 x5).f0) == ((rd_T51 x1 x5).f0)) || (!(((rd_T51 x0 x5).f1) == ((rd_T51 x1 x5).f1)) || (!(((rd_T51 x0 x5).f2) == ((rd_T51 x1 x5).f2)))))=true then (some false) else (slipwayref13_Same.l0 k x0 x1 (wrap64 (x5 + 1)))) else (none)) else (none)) else (some true)
def slipwayref13_Same.f (k:Nat) (l0:List (S51)) (l1:List (S51)):Option (Bool):=if (l0.length:Int)=(l1.length:Int) then (slipwayref13_Same.l0 k l0 l1 0) else (some false)
set_option maxHeartbeats 8000000 in
set_option maxRecDepth 100000 in
theorem slipwayref13_Same.calls (k:Nat) (A0:Option Addr) (c0:Nat) (l0:List (S51)) (A1:Option Addr) (c1:Nat) (l1:List (S51)) (r:Bool) (w:World) (hr0:Kd.C k51 w A0 l0.length l0) (hc0:l0.length≤c0) (hr1:Kd.C k51 w A1 l1.length l1) (hc1:l1.length≤c1) (h:slipwayref13_Same.f k l0 l1=some r) :
  Calls Try.prog 34 #[.slice A0 l0.length c0,.slice A1 l1.length c1] w fun e w'=>e=.returned (.bool r)∧Drawn0 w w':=by
 have hu51:=Try.underlying51
 have HR0:=zm hr0
 have HC0:=zm hc0
 clear hr0 hc0
 have HR1:=zm hr1
 have HC1:=zm hc1
 clear hr1 hc1
 have H:(if (l0.length:Int)=(l1.length:Int) then (slipwayref13_Same.l0 k l0 l1 0) else (some false))=some r:=h
 clear h
 by_cases c3:(l0.length:Int)=(l1.length:Int)
 ·rw [if_pos c3] at H
  have c3b0:((l0.length:Int) == (l1.length:Int))=true:=beq_iff_eq.mpr c3
  have c3b1:((l0.length:Int) != (l1.length:Int))=false:=bne_eq_false_iff_eq.mpr c3
  have c3b2:(l0.length == l1.length)=true:=by first|simpa using c3|(simp at c3 ⊢;omega)
  clear c3
  have H':=zm H
  clear H
  go_enter Try.func34,Try.ntmps34
  go_wp2
  repeat (go_quiet (fail);try go_wp2)
  go_loopg [5] k (fun kq v5 w'=>∃ (x5_1:Int),v5=.int .i64 x5_1∧Aside0 (slipwayref13_Same.l0 kq l0 l1 x5_1=some r)∧Aside0 (kq≤k)∧Drawn0 w w')
  case atStart=>exact ⟨(0),zs_,H',⟨Nat.le_refl _⟩,by repeat (first|exact Drawn0.refl _|apply Drawn0.step)⟩
  case round =>
   clear H'
   try clear c1
   try clear p2
   try clear c3
   try clear c3b0
   try clear c3b1
   try clear c3b2
   obtain ⟨x5_1,rfl,HA,HK1,⟨m1,rfl⟩⟩:=hrel
   cases gk with
   | zero=>exact absurd HA.out (by simp [slipwayref13_Same.l0])
   | succ k1 =>
    have H:=HA.out
    clear HA
    simp only [slipwayref13_Same.l0] at H
    by_cases c4:x5_1 < (l0.length:Int)
    ·rw [if_pos c4] at H
     have c4b0:decide (x5_1 < (l0.length:Int))=true:=decide_eq_true c4
     clear c4
     by_cases c5:0≤x5_1
     ·rw [if_pos c5] at H
      have c5b0:decide (0≤x5_1)=true:=decide_eq_true c5
      clear c5
      by_cases c6:x5_1 < (l1.length:Int)
      ·rw [if_pos c6] at H
       have c6b0:decide (x5_1 < (l1.length:Int))=true:=decide_eq_true c6
       clear c6
       by_cases c7:(!(((rd_T51 l0 x5_1).f0) == ((rd_T51 l1 x5_1).f0)) || (!(((rd_T51 l0 x5_1).f1) == ((rd_T51 l1 x5_1).f1)) || (!(((rd_T51 l0 x5_1).f2) == ((rd_T51 l1 x5_1).f2)))))=true
       ·rw [if_pos c7] at H
        have c7b0:(!(((rd_T51 l0 x5_1).f0) == ((rd_T51 l1 x5_1).f0)) || (!(((rd_T51 l0 x5_1).f1) == ((rd_T51 l1 x5_1).f1)) || (!(((rd_T51 l0 x5_1).f2) == ((rd_T51 l1 x5_1).f2)))))=true:=c7
        clear c7
        obtain rfl:=Option.some.inj H
        have p159:0≤(x5_1:Int):=za_
        have q159:x5_1 < (l0.length:Int):=za_
        obtain ⟨ad159,e159,hx159_0,hx159_1,hx159_2⟩:=at_T51 HR0.out x5_1 p159 q159
        cases e159
        replace p159:=eq_true p159
        replace q159:=eq_true q159
        have p160:0≤(x5_1:Int):=za_
        have q160:x5_1 < (l1.length:Int):=za_
        obtain ⟨ad160,e160,hx160_0,hx160_1,hx160_2⟩:=at_T51 HR1.out x5_1 p160 q160
        cases e160
        replace p160:=eq_true p160
        replace q160:=eq_true q160
        go_wp2
        repeat (go_quiet (fail);try go_wp2)
        go_ret
        exact ⟨by first|rfl|(simp;done)|(simp [*];done),by repeat (first|exact Drawn0.refl _|apply Drawn0.step)⟩
       ·rw [if_neg c7] at H
        have c7b0:(!(((rd_T51 l0 x5_1).f0) == ((rd_T51 l1 x5_1).f0)) || (!(((rd_T51 l0 x5_1).f1) == ((rd_T51 l1 x5_1).f1)) || (!(((rd_T51 l0 x5_1).f2) == ((rd_T51 l1 x5_1).f2)))))=false:=by simpa using c7
        clear c7
        have H':=zm H
        clear H
        have p159:0≤(x5_1:Int):=za_
        have q159:x5_1 < (l0.length:Int):=za_
        obtain ⟨ad159,e159,hx159_0,hx159_1,hx159_2⟩:=at_T51 HR0.out x5_1 p159 q159
        cases e159
        replace p159:=eq_true p159
        replace q159:=eq_true q159
        have p160:0≤(x5_1:Int):=za_
        have q160:x5_1 < (l1.length:Int):=za_
        obtain ⟨ad160,e160,hx160_0,hx160_1,hx160_2⟩:=at_T51 HR1.out x5_1 p160 q160
        cases e160
        replace p160:=eq_true p160
        replace q160:=eq_true q160
        go_wp2
        repeat (go_quiet (fail);try go_wp2)
        go_roundg k1
        case measure=>have:=HK1.out;omega
        case rel=>exact ⟨(wrap64 (x5_1 + 1)),zs_,H',⟨by have:=HK1.out;omega⟩,by repeat (first|exact Drawn0.refl _|apply Drawn0.step)⟩
      ·rw [if_neg c6] at H
       exact absurd H (by simp)
     ·rw [if_neg c5] at H
      exact absurd H (by simp)
    ·rw [if_neg c4] at H
     have c4b0:decide (x5_1 < (l0.length:Int))=false:=decide_eq_false c4
     clear c4
     obtain rfl:=Option.some.inj H
     go_wp2
     repeat (go_quiet (fail);try go_wp2)
     go_ret
     exact ⟨by first|rfl|(simp;done)|(simp [*];done),by repeat (first|exact Drawn0.refl _|apply Drawn0.step)⟩
 ·rw [if_neg c3] at H
  have c3b0:((l0.length:Int) == (l1.length:Int))=false:=beq_eq_false_iff_ne.mpr c3
  have c3b1:((l0.length:Int) != (l1.length:Int))=true:=bne_iff_ne.mpr c3
  have c3b2:(l0.length == l1.length)=false:=by first|simpa using c3|(simp at c3 ⊢;omega)
  obtain rfl:=Option.some.inj H
  go_enter Try.func34,Try.ntmps34
  go_wp2
  repeat (go_quiet (fail);try go_wp2)
  go_ret
  exact ⟨by first|rfl|(simp;done)|(simp [*];done),by repeat (first|exact Drawn0.refl _|apply Drawn0.step)⟩
def slipwayref14_Same.f (k:Nat) (a0_0:Int) (a0_1:Int) (a0_2:Int) (a0_3:Int) (a0_4:Int) (a0_5:Int) (l0_6:List (S51)) (a1_0:Int) (a1_1:Int) (a1_2:Int) (a1_3:Int) (a1_4:Int) (a1_5:Int) (l1_6:List (S51)):Option (Bool):=if a0_0=a1_0 then (if a0_1=a1_1 then (if a0_2=a1_2 then (if a0_3=a1_3 then (if a0_4=a1_4 then (if a0_5=a1_5 then ((slipwayref13_Same.f k l0_6 l1_6).bind fun t163=>(some t163)) else (some false)) else (some false)) else (some false)) else (some false)) else (some false)) else (some false)
set_option maxHeartbeats 8000000 in
set_option maxRecDepth 100000 in
theorem slipwayref14_Same.calls (k:Nat) (a0_0:Int) (a0_1:Int) (a0_2:Int) (a0_3:Int) (a0_4:Int) (a0_5:Int) (A0_6:Option Addr) (c0_6:Nat) (l0_6:List (S51)) (a1_0:Int) (a1_1:Int) (a1_2:Int) (a1_3:Int) (a1_4:Int) (a1_5:Int) (A1_6:Option Addr) (c1_6:Nat) (l1_6:List (S51)) (r:Bool) (w:World) (hr0_6:Kd.C k51 w A0_6 l0_6.length l0_6) (hc0_6:l0_6.length≤c0_6) (hr1_6:Kd.C k51 w A1_6 l1_6.length l1_6) (hc1_6:l1_6.length≤c1_6) (h:slipwayref14_Same.f k a0_0 a0_1 a0_2 a0_3 a0_4 a0_5 l0_6 a1_0 a1_1 a1_2 a1_3 a1_4 a1_5 l1_6=some r) :
  Calls Try.prog 10 #[.agg #[.int .i64 a0_0,.int .i64 a0_1,.int .i64 a0_2,.int .i64 a0_3,.int .i64 a0_4,.int .i64 a0_5,.slice A0_6 l0_6.length c0_6],.agg #[.int .i64 a1_0,.int .i64 a1_1,.int .i64 a1_2,.int .i64 a1_3,.int .i64 a1_4,.int .i64 a1_5,.slice A1_6 l1_6.length c1_6]] w fun e w'=>e=.returned (.bool r)∧Below w.heap.size w w':=by
 have hu24:=Try.underlying24
 have HR0_6:=zm hr0_6
 have HC0_6:=zm hc0_6
 clear hr0_6 hc0_6
 have HR1_6:=zm hr1_6
 have HC1_6:=zm hc1_6
 clear hr1_6 hc1_6
 have HB:=zm (Below.refl w.heap.size w)
 have H:(if a0_0=a1_0 then (if a0_1=a1_1 then (if a0_2=a1_2 then (if a0_3=a1_3 then (if a0_4=a1_4 then (if a0_5=a1_5 then ((slipwayref13_Same.f k l0_6 l1_6).bind fun t163=>(some t163)) else (some false)) else (some false)) else (some false)) else (some false)) else (some false)) else (some false))=some r:=h
 clear h
 by_cases c3:a0_0=a1_0
 ·rw [if_pos c3] at H
  have c3b0:(a0_0 == a1_0)=true:=beq_iff_eq.mpr c3
  have c3b1:(a0_0 != a1_0)=false:=bne_eq_false_iff_eq.mpr c3
  clear c3
  by_cases c4:a0_1=a1_1
  ·rw [if_pos c4] at H
   have c4b0:(a0_1 == a1_1)=true:=beq_iff_eq.mpr c4
   have c4b1:(a0_1 != a1_1)=false:=bne_eq_false_iff_eq.mpr c4
   clear c4
   by_cases c5:a0_2=a1_2
   ·rw [if_pos c5] at H
    have c5b0:(a0_2 == a1_2)=true:=beq_iff_eq.mpr c5
    have c5b1:(a0_2 != a1_2)=false:=bne_eq_false_iff_eq.mpr c5
    clear c5
    by_cases c6:a0_3=a1_3
    ·rw [if_pos c6] at H
     have c6b0:(a0_3 == a1_3)=true:=beq_iff_eq.mpr c6
     have c6b1:(a0_3 != a1_3)=false:=bne_eq_false_iff_eq.mpr c6
     clear c6
     by_cases c7:a0_4=a1_4
     ·rw [if_pos c7] at H
      have c7b0:(a0_4 == a1_4)=true:=beq_iff_eq.mpr c7
      have c7b1:(a0_4 != a1_4)=false:=bne_eq_false_iff_eq.mpr c7
      clear c7
      by_cases c8:a0_5=a1_5
      ·rw [if_pos c8] at H
       have c8b0:(a0_5 == a1_5)=true:=beq_iff_eq.mpr c8
       have c8b1:(a0_5 != a1_5)=false:=bne_eq_false_iff_eq.mpr c8
       clear c8
       replace H:=Option.bind_eq_some_iff.mp H
       obtain ⟨t163,A90,H⟩:=H
       replace H:(some t163)=some r:=H
       have A9:=zm A90
       clear A90
       obtain rfl:=Option.some.inj H
       go_enter Try.func10,Try.ntmps10
       go_wp2_with (first|((with_reducible refine gate_dst (N:=2) rfl ?_);refine zbx 2 #[.int .i64 a0_0,.int .i64 a0_1,.int .i64 a0_2,.int .i64 a0_3,.int .i64 a0_4,.int .i64 a0_5,.slice A0_6 l0_6.length c0_6] 24 ?_;intro gb161 hg w10 hbox hb;have n0_:=zkH HB hb;have n1_:=zm (hbox);have n2_:=zkG HB hg;have n3_:=zkG HB hg;clear HB;have HB:=n0_;have BK161:=n1_;have GW161:=n2_;have GE161:=n3_;clear n0_ n1_ n2_ n3_;clear hb hbox hg)|((with_reducible refine gate_dst (N:=3) rfl ?_);refine zbx 3 #[.int .i64 a1_0,.int .i64 a1_1,.int .i64 a1_2,.int .i64 a1_3,.int .i64 a1_4,.int .i64 a1_5,.slice A1_6 l1_6.length c1_6] 24 ?_;intro gb162 hg w11 hbox hb;have n0_:=zkB BK161 hb;have n1_:=zkH HB hb;have n2_:=zm (hbox);have n3_:=zkG HB hg;have n4_:=zkG HB hg;have n5_:=zkN BK161 hg;have n6_:=zkM BK161 hg;clear BK161 HB;have BK161:=n0_;have HB:=n1_;have BK162:=n2_;have GW162:=n3_;have GE162:=n4_;have NB161_162:=n5_;have NB162_161:=n6_;clear n0_ n1_ n2_ n3_ n4_ n5_ n6_;clear hb hbox hg;have hnb12:=NB161_162.out;have hnc12:=NB162_161.out;obtain ⟨hcz13_0,hcz13_1,hcz13_2,hcz13_3,hcz13_4,hcz13_5,hcz13_6,hfz13_0,hfz13_1,hfz13_2,hfz13_3,hfz13_4,hfz13_5,hfz13_6⟩:=zc7 BK161.out;obtain ⟨hcz14_0,hcz14_1,hcz14_2,hcz14_3,hcz14_4,hcz14_5,hcz14_6,hfz14_0,hfz14_1,hfz14_2,hfz14_3,hfz14_4,hfz14_5,hfz14_6⟩:=zc7 BK162.out)|(go_at_call 34;(with_reducible refine (slipwayref13_Same.calls k _ _ l0_6 _ _ l1_6 t163 _ ?side1 ?side2 ?side3 ?side4 A9.out).mono ?_);(case side1=>exact zC HR0_6);(case side2=>exact HC0_6.out);(case side3=>exact zC HR1_6);(case side4=>exact HC1_6.out);rintro e w' ⟨rfl,⟨nd,rfl⟩⟩))
       go_ret
       exact ⟨ze_,zb_⟩
      ·rw [if_neg c8] at H
       have c8b0:(a0_5 == a1_5)=false:=beq_eq_false_iff_ne.mpr c8
       have c8b1:(a0_5 != a1_5)=true:=bne_iff_ne.mpr c8
       obtain rfl:=Option.some.inj H
       go_enter Try.func10,Try.ntmps10
       go_wp2_with (first|((with_reducible refine gate_dst (N:=2) rfl ?_);refine zbx 2 #[.int .i64 a0_0,.int .i64 a0_1,.int .i64 a0_2,.int .i64 a0_3,.int .i64 a0_4,.int .i64 a0_5,.slice A0_6 l0_6.length c0_6] 24 ?_;intro gb161 hg w15 hbox hb;have n0_:=zkH HB hb;have n1_:=zm (hbox);have n2_:=zkG HB hg;have n3_:=zkG HB hg;clear HB;have HB:=n0_;have BK161:=n1_;have GW161:=n2_;have GE161:=n3_;clear n0_ n1_ n2_ n3_;clear hb hbox hg)|((with_reducible refine gate_dst (N:=3) rfl ?_);refine zbx 3 #[.int .i64 a1_0,.int .i64 a1_1,.int .i64 a1_2,.int .i64 a1_3,.int .i64 a1_4,.int .i64 a1_5,.slice A1_6 l1_6.length c1_6] 24 ?_;intro gb162 hg w16 hbox hb;have n0_:=zkB BK161 hb;have n1_:=zkH HB hb;have n2_:=zm (hbox);have n3_:=zkG HB hg;have n4_:=zkG HB hg;have n5_:=zkN BK161 hg;have n6_:=zkM BK161 hg;clear BK161 HB;have BK161:=n0_;have HB:=n1_;have BK162:=n2_;have GW162:=n3_;have GE162:=n4_;have NB161_162:=n5_;have NB162_161:=n6_;clear n0_ n1_ n2_ n3_ n4_ n5_ n6_;clear hb hbox hg;have hnb17:=NB161_162.out;have hnc17:=NB162_161.out;obtain ⟨hcz18_0,hcz18_1,hcz18_2,hcz18_3,hcz18_4,hcz18_5,hcz18_6,hfz18_0,hfz18_1,hfz18_2,hfz18_3,hfz18_4,hfz18_5,hfz18_6⟩:=zc7 BK161.out;obtain ⟨hcz19_0,hcz19_1,hcz19_2,hcz19_3,hcz19_4,hcz19_5,hcz19_6,hfz19_0,hfz19_1,hfz19_2,hfz19_3,hfz19_4,hfz19_5,hfz19_6⟩:=zc7 BK162.out))
       go_ret
       exact ⟨ze_,zb_⟩
     ·rw [if_neg c7] at H
      have c7b0:(a0_4 == a1_4)=false:=beq_eq_false_iff_ne.mpr c7
      have c7b1:(a0_4 != a1_4)=true:=bne_iff_ne.mpr c7
      obtain rfl:=Option.some.inj H
      go_enter Try.func10,Try.ntmps10
      go_wp2_with (first|((with_reducible refine gate_dst (N:=2) rfl ?_);refine zbx 2 #[.int .i64 a0_0,.int .i64 a0_1,.int .i64 a0_2,.int .i64 a0_3,.int .i64 a0_4,.int .i64 a0_5,.slice A0_6 l0_6.length c0_6] 24 ?_;intro gb161 hg w20 hbox hb;have n0_:=zkH HB hb;have n1_:=zm (hbox);have n2_:=zkG HB hg;have n3_:=zkG HB hg;clear HB;have HB:=n0_;have BK161:=n1_;have GW161:=n2_;have GE161:=n3_;clear n0_ n1_ n2_ n3_;clear hb hbox hg)|((with_reducible refine gate_dst (N:=3) rfl ?_);refine zbx 3 #[.int .i64 a1_0,.int .i64 a1_1,.int .i64 a1_2,.int .i64 a1_3,.int .i64 a1_4,.int .i64 a1_5,.slice A1_6 l1_6.length c1_6] 24 ?_;intro gb162 hg w21 hbox hb;have n0_:=zkB BK161 hb;have n1_:=zkH HB hb;have n2_:=zm (hbox);have n3_:=zkG HB hg;have n4_:=zkG HB hg;have n5_:=zkN BK161 hg;have n6_:=zkM BK161 hg;clear BK161 HB;have BK161:=n0_;have HB:=n1_;have BK162:=n2_;have GW162:=n3_;have GE162:=n4_;have NB161_162:=n5_;have NB162_161:=n6_;clear n0_ n1_ n2_ n3_ n4_ n5_ n6_;clear hb hbox hg;have hnb22:=NB161_162.out;have hnc22:=NB162_161.out;obtain ⟨hcz23_0,hcz23_1,hcz23_2,hcz23_3,hcz23_4,hcz23_5,hcz23_6,hfz23_0,hfz23_1,hfz23_2,hfz23_3,hfz23_4,hfz23_5,hfz23_6⟩:=zc7 BK161.out;obtain ⟨hcz24_0,hcz24_1,hcz24_2,hcz24_3,hcz24_4,hcz24_5,hcz24_6,hfz24_0,hfz24_1,hfz24_2,hfz24_3,hfz24_4,hfz24_5,hfz24_6⟩:=zc7 BK162.out))
      go_ret
      exact ⟨ze_,zb_⟩
    ·rw [if_neg c6] at H
     have c6b0:(a0_3 == a1_3)=false:=beq_eq_false_iff_ne.mpr c6
     have c6b1:(a0_3 != a1_3)=true:=bne_iff_ne.mpr c6
     obtain rfl:=Option.some.inj H
     go_enter Try.func10,Try.ntmps10
     go_wp2_with (first|((with_reducible refine gate_dst (N:=2) rfl ?_);refine zbx 2 #[.int .i64 a0_0,.int .i64 a0_1,.int .i64 a0_2,.int .i64 a0_3,.int .i64 a0_4,.int .i64 a0_5,.slice A0_6 l0_6.length c0_6] 24 ?_;intro gb161 hg w25 hbox hb;have n0_:=zkH HB hb;have n1_:=zm (hbox);have n2_:=zkG HB hg;have n3_:=zkG HB hg;clear HB;have HB:=n0_;have BK161:=n1_;have GW161:=n2_;have GE161:=n3_;clear n0_ n1_ n2_ n3_;clear hb hbox hg)|((with_reducible refine gate_dst (N:=3) rfl ?_);refine zbx 3 #[.int .i64 a1_0,.int .i64 a1_1,.int .i64 a1_2,.int .i64 a1_3,.int .i64 a1_4,.int .i64 a1_5,.slice A1_6 l1_6.length c1_6] 24 ?_;intro gb162 hg w26 hbox hb;have n0_:=zkB BK161 hb;have n1_:=zkH HB hb;have n2_:=zm (hbox);have n3_:=zkG HB hg;have n4_:=zkG HB hg;have n5_:=zkN BK161 hg;have n6_:=zkM BK161 hg;clear BK161 HB;have BK161:=n0_;have HB:=n1_;have BK162:=n2_;have GW162:=n3_;have GE162:=n4_;have NB161_162:=n5_;have NB162_161:=n6_;clear n0_ n1_ n2_ n3_ n4_ n5_ n6_;clear hb hbox hg;have hnb27:=NB161_162.out;have hnc27:=NB162_161.out;obtain ⟨hcz28_0,hcz28_1,hcz28_2,hcz28_3,hcz28_4,hcz28_5,hcz28_6,hfz28_0,hfz28_1,hfz28_2,hfz28_3,hfz28_4,hfz28_5,hfz28_6⟩:=zc7 BK161.out;obtain ⟨hcz29_0,hcz29_1,hcz29_2,hcz29_3,hcz29_4,hcz29_5,hcz29_6,hfz29_0,hfz29_1,hfz29_2,hfz29_3,hfz29_4,hfz29_5,hfz29_6⟩:=zc7 BK162.out))
     go_ret
     exact ⟨ze_,zb_⟩
   ·rw [if_neg c5] at H
    have c5b0:(a0_2 == a1_2)=false:=beq_eq_false_iff_ne.mpr c5
    have c5b1:(a0_2 != a1_2)=true:=bne_iff_ne.mpr c5
    obtain rfl:=Option.some.inj H
    go_enter Try.func10,Try.ntmps10
    go_wp2_with (first|((with_reducible refine gate_dst (N:=2) rfl ?_);refine zbx 2 #[.int .i64 a0_0,.int .i64 a0_1,.int .i64 a0_2,.int .i64 a0_3,.int .i64 a0_4,.int .i64 a0_5,.slice A0_6 l0_6.length c0_6] 24 ?_;intro gb161 hg w30 hbox hb;have n0_:=zkH HB hb;have n1_:=zm (hbox);have n2_:=zkG HB hg;have n3_:=zkG HB hg;clear HB;have HB:=n0_;have BK161:=n1_;have GW161:=n2_;have GE161:=n3_;clear n0_ n1_ n2_ n3_;clear hb hbox hg)|((with_reducible refine gate_dst (N:=3) rfl ?_);refine zbx 3 #[.int .i64 a1_0,.int .i64 a1_1,.int .i64 a1_2,.int .i64 a1_3,.int .i64 a1_4,.int .i64 a1_5,.slice A1_6 l1_6.length c1_6] 24 ?_;intro gb162 hg w31 hbox hb;have n0_:=zkB BK161 hb;have n1_:=zkH HB hb;have n2_:=zm (hbox);have n3_:=zkG HB hg;have n4_:=zkG HB hg;have n5_:=zkN BK161 hg;have n6_:=zkM BK161 hg;clear BK161 HB;have BK161:=n0_;have HB:=n1_;have BK162:=n2_;have GW162:=n3_;have GE162:=n4_;have NB161_162:=n5_;have NB162_161:=n6_;clear n0_ n1_ n2_ n3_ n4_ n5_ n6_;clear hb hbox hg;have hnb32:=NB161_162.out;have hnc32:=NB162_161.out;obtain ⟨hcz33_0,hcz33_1,hcz33_2,hcz33_3,hcz33_4,hcz33_5,hcz33_6,hfz33_0,hfz33_1,hfz33_2,hfz33_3,hfz33_4,hfz33_5,hfz33_6⟩:=zc7 BK161.out;obtain ⟨hcz34_0,hcz34_1,hcz34_2,hcz34_3,hcz34_4,hcz34_5,hcz34_6,hfz34_0,hfz34_1,hfz34_2,hfz34_3,hfz34_4,hfz34_5,hfz34_6⟩:=zc7 BK162.out))
    go_ret
    exact ⟨ze_,zb_⟩
  ·rw [if_neg c4] at H
   have c4b0:(a0_1 == a1_1)=false:=beq_eq_false_iff_ne.mpr c4
   have c4b1:(a0_1 != a1_1)=true:=bne_iff_ne.mpr c4
   obtain rfl:=Option.some.inj H
   go_enter Try.func10,Try.ntmps10
   go_wp2_with (first|((with_reducible refine gate_dst (N:=2) rfl ?_);refine zbx 2 #[.int .i64 a0_0,.int .i64 a0_1,.int .i64 a0_2,.int .i64 a0_3,.int .i64 a0_4,.int .i64 a0_5,.slice A0_6 l0_6.length c0_6] 24 ?_;intro gb161 hg w35 hbox hb;have n0_:=zkH HB hb;have n1_:=zm (hbox);have n2_:=zkG HB hg;have n3_:=zkG HB hg;clear HB;have HB:=n0_;have BK161:=n1_;have GW161:=n2_;have GE161:=n3_;clear n0_ n1_ n2_ n3_;clear hb hbox hg)|((with_reducible refine gate_dst (N:=3) rfl ?_);refine zbx 3 #[.int .i64 a1_0,.int .i64 a1_1,.int .i64 a1_2,.int .i64 a1_3,.int .i64 a1_4,.int .i64 a1_5,.slice A1_6 l1_6.length c1_6] 24 ?_;intro gb162 hg w36 hbox hb;have n0_:=zkB BK161 hb;have n1_:=zkH HB hb;have n2_:=zm (hbox);have n3_:=zkG HB hg;have n4_:=zkG HB hg;have n5_:=zkN BK161 hg;have n6_:=zkM BK161 hg;clear BK161 HB;have BK161:=n0_;have HB:=n1_;have BK162:=n2_;have GW162:=n3_;have GE162:=n4_;have NB161_162:=n5_;have NB162_161:=n6_;clear n0_ n1_ n2_ n3_ n4_ n5_ n6_;clear hb hbox hg;have hnb37:=NB161_162.out;have hnc37:=NB162_161.out;obtain ⟨hcz38_0,hcz38_1,hcz38_2,hcz38_3,hcz38_4,hcz38_5,hcz38_6,hfz38_0,hfz38_1,hfz38_2,hfz38_3,hfz38_4,hfz38_5,hfz38_6⟩:=zc7 BK161.out;obtain ⟨hcz39_0,hcz39_1,hcz39_2,hcz39_3,hcz39_4,hcz39_5,hcz39_6,hfz39_0,hfz39_1,hfz39_2,hfz39_3,hfz39_4,hfz39_5,hfz39_6⟩:=zc7 BK162.out))
   go_ret
   exact ⟨ze_,zb_⟩
 ·rw [if_neg c3] at H
  have c3b0:(a0_0 == a1_0)=false:=beq_eq_false_iff_ne.mpr c3
  have c3b1:(a0_0 != a1_0)=true:=bne_iff_ne.mpr c3
  obtain rfl:=Option.some.inj H
  go_enter Try.func10,Try.ntmps10
  go_wp2_with (first|((with_reducible refine gate_dst (N:=2) rfl ?_);refine zbx 2 #[.int .i64 a0_0,.int .i64 a0_1,.int .i64 a0_2,.int .i64 a0_3,.int .i64 a0_4,.int .i64 a0_5,.slice A0_6 l0_6.length c0_6] 24 ?_;intro gb161 hg w40 hbox hb;have n0_:=zkH HB hb;have n1_:=zm (hbox);have n2_:=zkG HB hg;have n3_:=zkG HB hg;clear HB;have HB:=n0_;have BK161:=n1_;have GW161:=n2_;have GE161:=n3_;clear n0_ n1_ n2_ n3_;clear hb hbox hg)|((with_reducible refine gate_dst (N:=3) rfl ?_);refine zbx 3 #[.int .i64 a1_0,.int .i64 a1_1,.int .i64 a1_2,.int .i64 a1_3,.int .i64 a1_4,.int .i64 a1_5,.slice A1_6 l1_6.length c1_6] 24 ?_;intro gb162 hg w41 hbox hb;have n0_:=zkB BK161 hb;have n1_:=zkH HB hb;have n2_:=zm (hbox);have n3_:=zkG HB hg;have n4_:=zkG HB hg;have n5_:=zkN BK161 hg;have n6_:=zkM BK161 hg;clear BK161 HB;have BK161:=n0_;have HB:=n1_;have BK162:=n2_;have GW162:=n3_;have GE162:=n4_;have NB161_162:=n5_;have NB162_161:=n6_;clear n0_ n1_ n2_ n3_ n4_ n5_ n6_;clear hb hbox hg;have hnb42:=NB161_162.out;have hnc42:=NB162_161.out;obtain ⟨hcz43_0,hcz43_1,hcz43_2,hcz43_3,hcz43_4,hcz43_5,hcz43_6,hfz43_0,hfz43_1,hfz43_2,hfz43_3,hfz43_4,hfz43_5,hfz43_6⟩:=zc7 BK161.out;obtain ⟨hcz44_0,hcz44_1,hcz44_2,hcz44_3,hcz44_4,hcz44_5,hcz44_6,hfz44_0,hfz44_1,hfz44_2,hfz44_3,hfz44_4,hfz44_5,hfz44_6⟩:=zc7 BK162.out))
  go_ret
  exact ⟨ze_,zb_⟩
end Go.Proofs.Ytjoojmodghpimaa.Print
end
section
namespace Go.Proofs.Ytjoojmodghpimaa.Print
open Go.RowKit Go.Proofs.YtjoojmodghpimaaW.PrintWords Go.Proofs.YtjoojmodghpimaaW.PrintLast Go.Proofs.YtjoojmodghpimaaW.PrintMore
attribute [local go_sem] max2_int min2_int max_two min_two max_three min_three max_four min_four   -- for this text's walks alone
attribute [local go_sem ↓] Go.Proofs.Ytjoojmodghpimaa.Sem.isSome_setCell
attribute [local go_sem] Go.Instr.field Go.asAgg
set_option linter.unusedVariables false
set_option linter.unusedSimpArgs false
def slipwayref13_One.f (a0_0:Int) (a0_1:Int) (a0_2:Int):Option (Int):=if a0_0 < 0 then (some 130) else (if a0_0 ≥ 65536 then (some 130) else (if a0_1 < 1 then (some 130) else (if a0_1 > 4096 then (some 130) else (if a0_2 < 1 then (some 130) else (if a0_2 ≥ 8192 then (some 130) else (if (wrap64 (a0_0 + a0_1)) > 65536 then (some 130) else (if (wrap64 (a0_2 + a0_1)) > 8192 then (some 130) else (some 0))))))))
set_option maxHeartbeats 8000000 in
set_option maxRecDepth 100000 in
theorem slipwayref13_One.calls (a0_0:Int) (a0_1:Int) (a0_2:Int) (r:Int) (w:World) (h:slipwayref13_One.f a0_0 a0_1 a0_2=some r) :
  Calls Try.prog 57 #[.agg #[.int .i64 a0_0,.int .i64 a0_1,.int .i64 a0_2]] w fun e w'=>e=.returned (.int .i64 r)∧Below w.heap.size w w':=by
 have hu51:=Try.underlying51
 have HB:=zm (Below.refl w.heap.size w)
 have H:(if a0_0 < 0 then (some 130) else (if a0_0 ≥ 65536 then (some 130) else (if a0_1 < 1 then (some 130) else (if a0_1 > 4096 then (some 130) else (if a0_2 < 1 then (some 130) else (if a0_2 ≥ 8192 then (some 130) else (if (wrap64 (a0_0 + a0_1)) > 65536 then (some 130) else (if (wrap64 (a0_2 + a0_1)) > 8192 then (some 130) else (some 0)))))))))=some r:=h
 clear h
 by_cases c2:a0_0 < 0
 ·rw [if_pos c2] at H
  have c2b0:decide (a0_0 < 0)=true:=decide_eq_true c2
  clear c2
  obtain rfl:=Option.some.inj H
  go_enter Try.func57,Try.ntmps57
  go_wp2_with (first|((with_reducible refine gate_dst (N:=1) rfl ?_);refine zbx 1 #[.int .i64 a0_0,.int .i64 a0_1,.int .i64 a0_2] 51 ?_;intro gb228 hg w3 hbox hb;have n0_:=zkH HB hb;have n1_:=zm (hbox);have n2_:=zkG HB hg;have n3_:=zkG HB hg;clear HB;have HB:=n0_;have BK228:=n1_;have GW228:=n2_;have GE228:=n3_;clear n0_ n1_ n2_ n3_;clear hb hbox hg;obtain ⟨hcz4_0,hcz4_1,hcz4_2,hfz4_0,hfz4_1,hfz4_2⟩:=zc3 BK228.out))
  go_ret
  exact ⟨ze_,zb_⟩
 ·rw [if_neg c2] at H
  have c2b0:decide (a0_0 < 0)=false:=decide_eq_false c2
  clear c2
  by_cases c5:a0_0 ≥ 65536
  ·rw [if_pos c5] at H
   have c5b0:decide (65536≤a0_0)=true:=decide_eq_true c5
   clear c5
   obtain rfl:=Option.some.inj H
   go_enter Try.func57,Try.ntmps57
   go_wp2_with (first|((with_reducible refine gate_dst (N:=1) rfl ?_);refine zbx 1 #[.int .i64 a0_0,.int .i64 a0_1,.int .i64 a0_2] 51 ?_;intro gb228 hg w6 hbox hb;have n0_:=zkH HB hb;have n1_:=zm (hbox);have n2_:=zkG HB hg;have n3_:=zkG HB hg;clear HB;have HB:=n0_;have BK228:=n1_;have GW228:=n2_;have GE228:=n3_;clear n0_ n1_ n2_ n3_;clear hb hbox hg;obtain ⟨hcz7_0,hcz7_1,hcz7_2,hfz7_0,hfz7_1,hfz7_2⟩:=zc3 BK228.out))
   go_ret
   exact ⟨ze_,zb_⟩
  ·rw [if_neg c5] at H
   have c5b0:decide (65536≤a0_0)=false:=decide_eq_false c5
   clear c5
   by_cases c8:a0_1 < 1
   ·rw [if_pos c8] at H
    have c8b0:decide (a0_1 < 1)=true:=decide_eq_true c8
    clear c8
    obtain rfl:=Option.some.inj H
    go_enter Try.func57,Try.ntmps57
    go_wp2_with (first|((with_reducible refine gate_dst (N:=1) rfl ?_);refine zbx 1 #[.int .i64 a0_0,.int .i64 a0_1,.int .i64 a0_2] 51 ?_;intro gb228 hg w9 hbox hb;have n0_:=zkH HB hb;have n1_:=zm (hbox);have n2_:=zkG HB hg;have n3_:=zkG HB hg;clear HB;have HB:=n0_;have BK228:=n1_;have GW228:=n2_;have GE228:=n3_;clear n0_ n1_ n2_ n3_;clear hb hbox hg;obtain ⟨hcz10_0,hcz10_1,hcz10_2,hfz10_0,hfz10_1,hfz10_2⟩:=zc3 BK228.out))
    go_ret
    exact ⟨ze_,zb_⟩
   ·rw [if_neg c8] at H
    have c8b0:decide (a0_1 < 1)=false:=decide_eq_false c8
    clear c8
    by_cases c11:a0_1 > 4096
    ·rw [if_pos c11] at H
     have c11b0:decide (4096 < a0_1)=true:=decide_eq_true c11
     clear c11
     obtain rfl:=Option.some.inj H
     go_enter Try.func57,Try.ntmps57
     go_wp2_with (first|((with_reducible refine gate_dst (N:=1) rfl ?_);refine zbx 1 #[.int .i64 a0_0,.int .i64 a0_1,.int .i64 a0_2] 51 ?_;intro gb228 hg w12 hbox hb;have n0_:=zkH HB hb;have n1_:=zm (hbox);have n2_:=zkG HB hg;have n3_:=zkG HB hg;clear HB;have HB:=n0_;have BK228:=n1_;have GW228:=n2_;have GE228:=n3_;clear n0_ n1_ n2_ n3_;clear hb hbox hg;obtain ⟨hcz13_0,hcz13_1,hcz13_2,hfz13_0,hfz13_1,hfz13_2⟩:=zc3 BK228.out))
     go_ret
     exact ⟨ze_,zb_⟩
    ·rw [if_neg c11] at H
     have c11b0:decide (4096 < a0_1)=false:=decide_eq_false c11
     clear c11
     by_cases c14:a0_2 < 1
     ·rw [if_pos c14] at H
      have c14b0:decide (a0_2 < 1)=true:=decide_eq_true c14
      clear c14
      obtain rfl:=Option.some.inj H
      go_enter Try.func57,Try.ntmps57
      go_wp2_with (first|((with_reducible refine gate_dst (N:=1) rfl ?_);refine zbx 1 #[.int .i64 a0_0,.int .i64 a0_1,.int .i64 a0_2] 51 ?_;intro gb228 hg w15 hbox hb;have n0_:=zkH HB hb;have n1_:=zm (hbox);have n2_:=zkG HB hg;have n3_:=zkG HB hg;clear HB;have HB:=n0_;have BK228:=n1_;have GW228:=n2_;have GE228:=n3_;clear n0_ n1_ n2_ n3_;clear hb hbox hg;obtain ⟨hcz16_0,hcz16_1,hcz16_2,hfz16_0,hfz16_1,hfz16_2⟩:=zc3 BK228.out))
      go_ret
      exact ⟨ze_,zb_⟩
     ·rw [if_neg c14] at H
      have c14b0:decide (a0_2 < 1)=false:=decide_eq_false c14
      clear c14
      by_cases c17:a0_2 ≥ 8192
      ·rw [if_pos c17] at H
       have c17b0:decide (8192≤a0_2)=true:=decide_eq_true c17
       clear c17
       obtain rfl:=Option.some.inj H
       go_enter Try.func57,Try.ntmps57
       go_wp2_with (first|((with_reducible refine gate_dst (N:=1) rfl ?_);refine zbx 1 #[.int .i64 a0_0,.int .i64 a0_1,.int .i64 a0_2] 51 ?_;intro gb228 hg w18 hbox hb;have n0_:=zkH HB hb;have n1_:=zm (hbox);have n2_:=zkG HB hg;have n3_:=zkG HB hg;clear HB;have HB:=n0_;have BK228:=n1_;have GW228:=n2_;have GE228:=n3_;clear n0_ n1_ n2_ n3_;clear hb hbox hg;obtain ⟨hcz19_0,hcz19_1,hcz19_2,hfz19_0,hfz19_1,hfz19_2⟩:=zc3 BK228.out))
       go_ret
       exact ⟨ze_,zb_⟩
      ·rw [if_neg c17] at H
       have c17b0:decide (8192≤a0_2)=false:=decide_eq_false c17
       clear c17
       by_cases c20:(wrap64 (a0_0 + a0_1)) > 65536
       ·rw [if_pos c20] at H
        have c20b0:decide (65536 < (wrap64 (a0_0 + a0_1)))=true:=decide_eq_true c20
        clear c20
        obtain rfl:=Option.some.inj H
        go_enter Try.func57,Try.ntmps57
        go_wp2_with (first|((with_reducible refine gate_dst (N:=1) rfl ?_);refine zbx 1 #[.int .i64 a0_0,.int .i64 a0_1,.int .i64 a0_2] 51 ?_;intro gb228 hg w21 hbox hb;have n0_:=zkH HB hb;have n1_:=zm (hbox);have n2_:=zkG HB hg;have n3_:=zkG HB hg;clear HB;have HB:=n0_;have BK228:=n1_;have GW228:=n2_;have GE228:=n3_;clear n0_ n1_ n2_ n3_;clear hb hbox hg;obtain ⟨hcz22_0,hcz22_1,hcz22_2,hfz22_0,hfz22_1,hfz22_2⟩:=zc3 BK228.out))
        go_ret
        exact ⟨ze_,zb_⟩
       ·rw [if_neg c20] at H
        have c20b0:decide (65536 < (wrap64 (a0_0 + a0_1)))=false:=decide_eq_false c20
        clear c20
        by_cases c23:(wrap64 (a0_2 + a0_1)) > 8192
        ·rw [if_pos c23] at H
         have c23b0:decide (8192 < (wrap64 (a0_2 + a0_1)))=true:=decide_eq_true c23
         clear c23
         obtain rfl:=Option.some.inj H
         go_enter Try.func57,Try.ntmps57
         go_wp2_with (first|((with_reducible refine gate_dst (N:=1) rfl ?_);refine zbx 1 #[.int .i64 a0_0,.int .i64 a0_1,.int .i64 a0_2] 51 ?_;intro gb228 hg w24 hbox hb;have n0_:=zkH HB hb;have n1_:=zm (hbox);have n2_:=zkG HB hg;have n3_:=zkG HB hg;clear HB;have HB:=n0_;have BK228:=n1_;have GW228:=n2_;have GE228:=n3_;clear n0_ n1_ n2_ n3_;clear hb hbox hg;obtain ⟨hcz25_0,hcz25_1,hcz25_2,hfz25_0,hfz25_1,hfz25_2⟩:=zc3 BK228.out))
         go_ret
         exact ⟨ze_,zb_⟩
        ·rw [if_neg c23] at H
         have c23b0:decide (8192 < (wrap64 (a0_2 + a0_1)))=false:=decide_eq_false c23
         clear c23
         obtain rfl:=Option.some.inj H
         go_enter Try.func57,Try.ntmps57
         go_wp2_with (first|((with_reducible refine gate_dst (N:=1) rfl ?_);refine zbx 1 #[.int .i64 a0_0,.int .i64 a0_1,.int .i64 a0_2] 51 ?_;intro gb228 hg w26 hbox hb;have n0_:=zkH HB hb;have n1_:=zm (hbox);have n2_:=zkG HB hg;have n3_:=zkG HB hg;clear HB;have HB:=n0_;have BK228:=n1_;have GW228:=n2_;have GE228:=n3_;clear n0_ n1_ n2_ n3_;clear hb hbox hg;obtain ⟨hcz27_0,hcz27_1,hcz27_2,hfz27_0,hfz27_1,hfz27_2⟩:=zc3 BK228.out))
         go_ret
         exact ⟨ze_,zb_⟩
def slipwayref13_goes.f (a0_0:Int) (a0_1:Int) (a0_2:Int) (a1_0:Int) (a1_1:Int) (a1_2:Int):Option (Bool):=if (wrap64 (a0_0 + a0_1))=a1_0 then (if (wrap64 (a0_2 + a0_1))=a1_2 then (some (decide ((wrap64 (a0_1 + a1_1))≤4096))) else (some false)) else (some false)
set_option maxHeartbeats 8000000 in
set_option maxRecDepth 100000 in
theorem slipwayref13_goes.calls (a0_0:Int) (a0_1:Int) (a0_2:Int) (a1_0:Int) (a1_1:Int) (a1_2:Int) (r:Bool) (w:World) (h:slipwayref13_goes.f a0_0 a0_1 a0_2 a1_0 a1_1 a1_2=some r) :
  Calls Try.prog 58 #[.agg #[.int .i64 a0_0,.int .i64 a0_1,.int .i64 a0_2],.agg #[.int .i64 a1_0,.int .i64 a1_1,.int .i64 a1_2]] w fun e w'=>e=.returned (.bool r)∧Below w.heap.size w w':=by
 have hu51:=Try.underlying51
 have HB:=zm (Below.refl w.heap.size w)
 have H:(if (wrap64 (a0_0 + a0_1))=a1_0 then (if (wrap64 (a0_2 + a0_1))=a1_2 then (some (decide ((wrap64 (a0_1 + a1_1))≤4096))) else (some false)) else (some false))=some r:=h
 clear h
 by_cases c3:(wrap64 (a0_0 + a0_1))=a1_0
 ·rw [if_pos c3] at H
  have c3b0:((wrap64 (a0_0 + a0_1)) == a1_0)=true:=beq_iff_eq.mpr c3
  have c3b1:((wrap64 (a0_0 + a0_1)) != a1_0)=false:=bne_eq_false_iff_eq.mpr c3
  clear c3
  by_cases c4:(wrap64 (a0_2 + a0_1))=a1_2
  ·rw [if_pos c4] at H
   have c4b0:((wrap64 (a0_2 + a0_1)) == a1_2)=true:=beq_iff_eq.mpr c4
   have c4b1:((wrap64 (a0_2 + a0_1)) != a1_2)=false:=bne_eq_false_iff_eq.mpr c4
   clear c4
   obtain rfl:=Option.some.inj H
   go_enter Try.func58,Try.ntmps58
   go_wp2_with (first|((with_reducible refine gate_dst (N:=2) rfl ?_);refine zbx 2 #[.int .i64 a0_0,.int .i64 a0_1,.int .i64 a0_2] 51 ?_;intro gb229 hg w5 hbox hb;have n0_:=zkH HB hb;have n1_:=zm (hbox);have n2_:=zkG HB hg;have n3_:=zkG HB hg;clear HB;have HB:=n0_;have BK229:=n1_;have GW229:=n2_;have GE229:=n3_;clear n0_ n1_ n2_ n3_;clear hb hbox hg)|((with_reducible refine gate_dst (N:=3) rfl ?_);refine zbx 3 #[.int .i64 a1_0,.int .i64 a1_1,.int .i64 a1_2] 51 ?_;intro gb230 hg w6 hbox hb;have n0_:=zkB BK229 hb;have n1_:=zkH HB hb;have n2_:=zm (hbox);have n3_:=zkG HB hg;have n4_:=zkG HB hg;have n5_:=zkN BK229 hg;have n6_:=zkM BK229 hg;clear BK229 HB;have BK229:=n0_;have HB:=n1_;have BK230:=n2_;have GW230:=n3_;have GE230:=n4_;have NB229_230:=n5_;have NB230_229:=n6_;clear n0_ n1_ n2_ n3_ n4_ n5_ n6_;clear hb hbox hg;have hnb7:=NB229_230.out;have hnc7:=NB230_229.out;obtain ⟨hcz8_0,hcz8_1,hcz8_2,hfz8_0,hfz8_1,hfz8_2⟩:=zc3 BK229.out;obtain ⟨hcz9_0,hcz9_1,hcz9_2,hfz9_0,hfz9_1,hfz9_2⟩:=zc3 BK230.out))
   go_ret
   exact ⟨ze_,zb_⟩
  ·rw [if_neg c4] at H
   have c4b0:((wrap64 (a0_2 + a0_1)) == a1_2)=false:=beq_eq_false_iff_ne.mpr c4
   have c4b1:((wrap64 (a0_2 + a0_1)) != a1_2)=true:=bne_iff_ne.mpr c4
   obtain rfl:=Option.some.inj H
   go_enter Try.func58,Try.ntmps58
   go_wp2_with (first|((with_reducible refine gate_dst (N:=2) rfl ?_);refine zbx 2 #[.int .i64 a0_0,.int .i64 a0_1,.int .i64 a0_2] 51 ?_;intro gb229 hg w10 hbox hb;have n0_:=zkH HB hb;have n1_:=zm (hbox);have n2_:=zkG HB hg;have n3_:=zkG HB hg;clear HB;have HB:=n0_;have BK229:=n1_;have GW229:=n2_;have GE229:=n3_;clear n0_ n1_ n2_ n3_;clear hb hbox hg)|((with_reducible refine gate_dst (N:=3) rfl ?_);refine zbx 3 #[.int .i64 a1_0,.int .i64 a1_1,.int .i64 a1_2] 51 ?_;intro gb230 hg w11 hbox hb;have n0_:=zkB BK229 hb;have n1_:=zkH HB hb;have n2_:=zm (hbox);have n3_:=zkG HB hg;have n4_:=zkG HB hg;have n5_:=zkN BK229 hg;have n6_:=zkM BK229 hg;clear BK229 HB;have BK229:=n0_;have HB:=n1_;have BK230:=n2_;have GW230:=n3_;have GE230:=n4_;have NB229_230:=n5_;have NB230_229:=n6_;clear n0_ n1_ n2_ n3_ n4_ n5_ n6_;clear hb hbox hg;have hnb12:=NB229_230.out;have hnc12:=NB230_229.out;obtain ⟨hcz13_0,hcz13_1,hcz13_2,hfz13_0,hfz13_1,hfz13_2⟩:=zc3 BK229.out;obtain ⟨hcz14_0,hcz14_1,hcz14_2,hfz14_0,hfz14_1,hfz14_2⟩:=zc3 BK230.out))
   go_ret
   exact ⟨ze_,zb_⟩
 ·rw [if_neg c3] at H
  have c3b0:((wrap64 (a0_0 + a0_1)) == a1_0)=false:=beq_eq_false_iff_ne.mpr c3
  have c3b1:((wrap64 (a0_0 + a0_1)) != a1_0)=true:=bne_iff_ne.mpr c3
  obtain rfl:=Option.some.inj H
  go_enter Try.func58,Try.ntmps58
  go_wp2_with (first|((with_reducible refine gate_dst (N:=2) rfl ?_);refine zbx 2 #[.int .i64 a0_0,.int .i64 a0_1,.int .i64 a0_2] 51 ?_;intro gb229 hg w15 hbox hb;have n0_:=zkH HB hb;have n1_:=zm (hbox);have n2_:=zkG HB hg;have n3_:=zkG HB hg;clear HB;have HB:=n0_;have BK229:=n1_;have GW229:=n2_;have GE229:=n3_;clear n0_ n1_ n2_ n3_;clear hb hbox hg)|((with_reducible refine gate_dst (N:=3) rfl ?_);refine zbx 3 #[.int .i64 a1_0,.int .i64 a1_1,.int .i64 a1_2] 51 ?_;intro gb230 hg w16 hbox hb;have n0_:=zkB BK229 hb;have n1_:=zkH HB hb;have n2_:=zm (hbox);have n3_:=zkG HB hg;have n4_:=zkG HB hg;have n5_:=zkN BK229 hg;have n6_:=zkM BK229 hg;clear BK229 HB;have BK229:=n0_;have HB:=n1_;have BK230:=n2_;have GW230:=n3_;have GE230:=n4_;have NB229_230:=n5_;have NB230_229:=n6_;clear n0_ n1_ n2_ n3_ n4_ n5_ n6_;clear hb hbox hg;have hnb17:=NB229_230.out;have hnc17:=NB230_229.out;obtain ⟨hcz18_0,hcz18_1,hcz18_2,hfz18_0,hfz18_1,hfz18_2⟩:=zc3 BK229.out;obtain ⟨hcz19_0,hcz19_1,hcz19_2,hfz19_0,hfz19_1,hfz19_2⟩:=zc3 BK230.out))
  go_ret
  exact ⟨ze_,zb_⟩
end Go.Proofs.Ytjoojmodghpimaa.Print
end
section
namespace Go.Proofs.Ytjoojmodghpimaa.Print
open Go.RowKit Go.Proofs.YtjoojmodghpimaaW.PrintWords Go.Proofs.YtjoojmodghpimaaW.PrintLast Go.Proofs.YtjoojmodghpimaaW.PrintMore
attribute [local go_sem] max2_int min2_int max_two min_two max_three min_three max_four min_four   -- for this text's walks alone
attribute [local go_sem ↓] Go.Proofs.Ytjoojmodghpimaa.Sem.isSome_setCell
attribute [local go_sem] Go.Instr.field Go.asAgg
set_option linter.unusedVariables false
set_option linter.unusedSimpArgs false
def slipwayref13_Check.l0:Nat → List (S51) → Int → Option (Int)
 | 0,_,_=>none
 | k + 1,x0,x3=>if x3 < (x0.length:Int) then (if 0≤x3 then ((slipwayref13_One.f ((rd_T51 x0 x3).f0) ((rd_T51 x0 x3).f1) ((rd_T51 x0 x3).f2)).bind fun t232=>(if t232=0 then (if x3 > 0 then (if 0≤(wrap64 (x3 - 1)) then (if (wrap64 (x3 - 1)) < (x0.length:Int) then (if ((rd_T51 x0 x3).f0) < (wrap64 (((rd_T51 x0 (wrap64 (x3 - 1))).f0) + ((rd_T51 x0 (wrap64 (x3 - 1))).f1))) then (some 130) else ((slipwayref13_goes.f ((rd_T51 x0 (wrap64 (x3 - 1))).f0) ((rd_T51 x0 (wrap64 (x3 - 1))).f1) ((rd_T51 x0 (wrap64 (x3 - 1))).f2) ((rd_T51 x0 x3).f0) ((rd_T51 x0 x3).f1) ((rd_T51 x0 x3).f2)).bind fun t238=>(if t238=true then (some 130) else (slipwayref13_Check.l0 k x0 (wrap64 (x3 + 1)))))) else (none)) else (none)) else (slipwayref13_Check.l0 k x0 (wrap64 (x3 + 1)))) else (some 130))) else (none)) else (some 0)
def slipwayref13_Check.f (k:Nat) (l0:List (S51)):Option (Int):=slipwayref13_Check.l0 k l0 0
def slipwayref13_Check.T4:Bool × List (List Nat × List Nat):=(true,[([],[]),([],[]),([0,1],[0,1]),([2],[2]),([3],[3]),([4],[4]),([5,4],[5]),([6],[6]),([7,6],[6,7]),([8,6,6],[6,8]),([9],[9]),([9],[9]),([10,11,9],[9,10,11]),([12,9],[9,12]),([13,9],[9,13]),([9],[9]),([9],[9]),([16,9],[9,16]),([15,17,9],[9,15,17]),([18,9],[9,18]),([19,9],[9,19]),([9],[9]),([9],[9]),([22,9],[9,22]),([21,23,9],[9,21,23]),([24,9],[9,24]),([25,9],[9,25]),([20,26,9],[9,20,26]),([14,27,9],[9,14,27]),([28,9,9],[9,28]),([29],[29]),([29],[29]),([31,29],[29,31]),([30,32,29],[29,30,32]),([33,29],[29,33]),([29],[29]),([29],[29]),([35,36,29],[29,35,36]),([37,29],[29,37]),([34,38,29,29],[29,34,38]),([29,39,9],[9,29,39]),([9,40,6],[6,9,40]),([6,41],[6,41])])
def slipwayref13_Check.B4:List Nat:=[0,0,3,7,15,31,63,127,255,511,1023,1023,4095,8191,16383,1023,1023,66559,230399,492543,1016831,1023,1023,4195327,14681087,31458303,65012735,134185983,268435455,536870911,1073741823,1073741823,3221225471,8589934591,17179869183,1073741823,1073741823,104152956927,241591910399,549755813887,1099511627775,2199023255551,4398046511103]
theorem slipwayref13_Check.tab4:rtab .any (opsOf Try.f55 4)=slipwayref13_Check.T4:=by kernel_rfl
theorem slipwayref13_Check.bits4:waitsOk slipwayref13_Check.T4.2 slipwayref13_Check.B4=true:=by kernel_rfl
set_option maxHeartbeats 8000000 in
set_option maxRecDepth 100000 in
theorem slipwayref13_Check.calls (k:Nat) (A0:Option Addr) (c0:Nat) (l0:List (S51)) (r:Int) (w:World) (hr0:Kd.C k51 w A0 l0.length l0) (hc0:l0.length≤c0) (h:slipwayref13_Check.f k l0=some r) :
  Calls Try.prog 55 #[.slice A0 l0.length c0] w fun e w'=>e=.returned (.int .i64 r)∧Below w.heap.size w w':=by
 have hu51:=Try.underlying51
 have HR0:=zm hr0
 have HC0:=zm hc0
 clear hr0 hc0
 have HB:=zm (Below.refl w.heap.size w)
 have H:(slipwayref13_Check.l0 k l0 0)=some r:=h
 clear h
 have H':=zm H
 clear H
 go_enter Try.func55,Try.ntmps55
 go_wp2
 go_loopg [3] k (fun kq v3 w'=>∃ (x3_1:Int),v3=.int .i64 x3_1∧Aside0 (slipwayref13_Check.l0 kq l0 x3_1=some r)∧Aside0 (kq≤k)∧Aside0 (Below w.heap.size w w'))
 case atStart=>exact ⟨(0),zs_,H',⟨Nat.le_refl _⟩,⟨zb_⟩⟩
 case round =>
  clear H'
  obtain ⟨x3_1,rfl,HA,HK1,HB⟩:=hrel
  cases gk with
  | zero=>exact absurd HA.out (by simp [slipwayref13_Check.l0])
  | succ k1 =>
   have H:=HA.out
   clear HA
   simp only [slipwayref13_Check.l0] at H
   by_cases c2:x3_1 < (l0.length:Int)
   ·rw [if_pos c2] at H
    have c2b0:decide (x3_1 < (l0.length:Int))=true:=decide_eq_true c2
    clear c2
    by_cases c3:0≤x3_1
    ·rw [if_pos c3] at H
     have c3b0:decide (0≤x3_1)=true:=decide_eq_true c3
     clear c3
     replace H:=Option.bind_eq_some_iff.mp H
     obtain ⟨t232,A40,H⟩:=H
     replace H:(if t232=0 then (if x3_1 > 0 then (if 0≤(wrap64 (x3_1 - 1)) then (if (wrap64 (x3_1 - 1)) < (l0.length:Int) then (if ((rd_T51 l0 x3_1).f0) < (wrap64 (((rd_T51 l0 (wrap64 (x3_1 - 1))).f0) + ((rd_T51 l0 (wrap64 (x3_1 - 1))).f1))) then (some 130) else ((slipwayref13_goes.f ((rd_T51 l0 (wrap64 (x3_1 - 1))).f0) ((rd_T51 l0 (wrap64 (x3_1 - 1))).f1) ((rd_T51 l0 (wrap64 (x3_1 - 1))).f2) ((rd_T51 l0 x3_1).f0) ((rd_T51 l0 x3_1).f1) ((rd_T51 l0 x3_1).f2)).bind fun t238=>(if t238=true then (some 130) else (slipwayref13_Check.l0 k1 l0 (wrap64 (x3_1 + 1)))))) else (none)) else (none)) else (slipwayref13_Check.l0 k1 l0 (wrap64 (x3_1 + 1)))) else (some 130))=some r:=H
     have A4:=zm A40
     clear A40
     by_cases c5:t232=0
     ·rw [if_pos c5] at H
      have c5b0:(t232 == 0)=true:=beq_iff_eq.mpr c5
      have c5b1:(t232 != 0)=false:=bne_eq_false_iff_eq.mpr c5
      clear c5
      by_cases c6:x3_1 > 0
      ·rw [if_pos c6] at H
       have c6b0:decide (0 < x3_1)=true:=decide_eq_true c6
       clear c6
       obtain ⟨ji7,hji7⟩:∃ j_:Int,(wrap64 (x3_1 - 1))=j_:=⟨_,rfl⟩
       replace H:(if 0≤(ji7) then (if (ji7) < (l0.length:Int) then (if ((rd_T51 l0 x3_1).f0) < (wrap64 (((rd_T51 l0 (ji7)).f0) + ((rd_T51 l0 (ji7)).f1))) then (some 130) else ((slipwayref13_goes.f ((rd_T51 l0 (ji7)).f0) ((rd_T51 l0 (ji7)).f1) ((rd_T51 l0 (ji7)).f2) ((rd_T51 l0 x3_1).f0) ((rd_T51 l0 x3_1).f1) ((rd_T51 l0 x3_1).f2)).bind fun t238=>(if t238=true then (some 130) else (slipwayref13_Check.l0 k1 l0 (wrap64 (x3_1 + 1)))))) else (none)) else (none))=some r:=by first|(rw [hji7] at H;exact H)|(simp only [hji7] at H ⊢;exact H)
       (try rw [hji7] at A4)
       have hji7w:(IntKind.i64.wrap (x3_1 - 1))=ji7:=(i64_w _).trans hji7
       by_cases c8:0≤(ji7)
       ·rw [if_pos c8] at H
        have c8b0:decide (0≤(ji7))=true:=decide_eq_true c8
        clear c8
        by_cases c9:(ji7) < (l0.length:Int)
        ·rw [if_pos c9] at H
         have c9b0:decide ((ji7) < (l0.length:Int))=true:=decide_eq_true c9
         clear c9
         by_cases c10:((rd_T51 l0 x3_1).f0) < (wrap64 (((rd_T51 l0 (ji7)).f0) + ((rd_T51 l0 (ji7)).f1)))
         ·rw [if_pos c10] at H
          have c10b0:decide (((rd_T51 l0 x3_1).f0) < (wrap64 (((rd_T51 l0 (ji7)).f0) + ((rd_T51 l0 (ji7)).f1))))=true:=decide_eq_true c10
          clear c10
          obtain rfl:=Option.some.inj H
          try go_wp2
          have n0_:=zm (zlD HB.out)
          clear HB
          have HB:=n0_
          clear n0_
          have p231:0≤(x3_1:Int):=za_
          have q231:x3_1 < (l0.length:Int):=za_
          obtain ⟨ad231,e231,hx231_0,hx231_1,hx231_2⟩:=at_T51 HR0.out x3_1 p231 q231
          have hw231_2:=hx231_2
          have hw231_1:=hx231_1
          have hw231_0:=hx231_0
          cases e231
          replace hx231_0:=zhx HB hx231_0
          replace hx231_1:=zhx HB hx231_1
          replace hx231_2:=zhx HB hx231_2
          replace p231:=eq_true p231
          replace q231:=eq_true q231
          have p233:0≤(x3_1:Int):=za_
          have q233:x3_1 < (l0.length:Int):=za_
          obtain ⟨ad233,e233,hx233_0,hx233_1,hx233_2⟩:=at_T51 HR0.out x3_1 p233 q233
          have hw233_2:=hx233_2
          have hw233_1:=hx233_1
          have hw233_0:=hx233_0
          obtain rfl:ad231=ad233:=(by injection e233)
          replace hx233_0:=zhx HB hx233_0
          replace hx233_1:=zhx HB hx233_1
          replace hx233_2:=zhx HB hx233_2
          replace p233:=eq_true p233
          replace q233:=eq_true q233
          have p234:0≤((ji7):Int):=za_
          have q234:(ji7) < (l0.length:Int):=za_
          obtain ⟨ad234,e234,hx234_0,hx234_1,hx234_2⟩:=at_T51 HR0.out (ji7) p234 q234
          have hw234_2:=hx234_2
          have hw234_1:=hx234_1
          have hw234_0:=hx234_0
          obtain rfl:ad231=ad234:=(by injection e234)
          replace hx234_0:=zhx HB hx234_0
          replace hx234_1:=zhx HB hx234_1
          replace hx234_2:=zhx HB hx234_2
          replace p234:=eq_true p234
          replace q234:=eq_true q234
          have p235:0≤((ji7):Int):=za_
          have q235:(ji7) < (l0.length:Int):=za_
          obtain ⟨ad235,e235,hx235_0,hx235_1,hx235_2⟩:=at_T51 HR0.out (ji7) p235 q235
          have hw235_2:=hx235_2
          have hw235_1:=hx235_1
          have hw235_0:=hx235_0
          obtain rfl:ad231=ad235:=(by injection e235)
          replace hx235_0:=zhx HB hx235_0
          replace hx235_1:=zhx HB hx235_1
          replace hx235_2:=zhx HB hx235_2
          replace p235:=eq_true p235
          replace q235:=eq_true q235
          refine start_ (n:=43) (S:=fun w'=>w'.cell? (ad231.add ((x3_1).toNat * 3))=some (.int .i64 ((rd_T51 l0 x3_1).f0))∧w'.cell? ⟨(ad231.add ((x3_1).toNat * 3)).block,(ad231.add ((x3_1).toNat * 3)).off + 1,none⟩=some (.int .i64 ((rd_T51 l0 x3_1).f1))∧w'.cell? ⟨(ad231.add ((x3_1).toNat * 3)).block,(ad231.add ((x3_1).toNat * 3)).off + 2,none⟩=some (.int .i64 ((rd_T51 l0 x3_1).f2))∧w'.cell? (ad231.add ((x3_1).toNat * 3))=some (.int .i64 ((rd_T51 l0 x3_1).f0))∧w'.cell? ⟨(ad231.add ((x3_1).toNat * 3)).block,(ad231.add ((x3_1).toNat * 3)).off + 1,none⟩=some (.int .i64 ((rd_T51 l0 x3_1).f1))∧w'.cell? ⟨(ad231.add ((x3_1).toNat * 3)).block,(ad231.add ((x3_1).toNat * 3)).off + 2,none⟩=some (.int .i64 ((rd_T51 l0 x3_1).f2))∧w'.cell? (ad231.add (((ji7)).toNat * 3))=some (.int .i64 ((rd_T51 l0 (ji7)).f0))∧w'.cell? ⟨(ad231.add (((ji7)).toNat * 3)).block,(ad231.add (((ji7)).toNat * 3)).off + 1,none⟩=some (.int .i64 ((rd_T51 l0 (ji7)).f1))∧w'.cell? ⟨(ad231.add (((ji7)).toNat * 3)).block,(ad231.add (((ji7)).toNat * 3)).off + 2,none⟩=some (.int .i64 ((rd_T51 l0 (ji7)).f2))∧w'.cell? (ad231.add (((ji7)).toNat * 3))=some (.int .i64 ((rd_T51 l0 (ji7)).f0))∧w'.cell? ⟨(ad231.add (((ji7)).toNat * 3)).block,(ad231.add (((ji7)).toNat * 3)).off + 1,none⟩=some (.int .i64 ((rd_T51 l0 (ji7)).f1))∧w'.cell? ⟨(ad231.add (((ji7)).toNat * 3)).block,(ad231.add (((ji7)).toNat * 3)).off + 2,none⟩=some (.int .i64 ((rd_T51 l0 (ji7)).f2))) (ds:=[]) (Array.replicate 43 false) (by kernel_rfl) rfl rfl ⟨(zhx HB hw231_0),(zhx HB hw231_1),(zhx HB hw231_2),(zhx HB hw233_0),(zhx HB hw233_1),(zhx HB hw233_2),(zhx HB hw234_0),(zhx HB hw234_1),(zhx HB hw234_2),(zhx HB hw235_0),(zhx HB hw235_1),(zhx HB hw235_2)⟩ (fun hHeld=>?_);refine with_tabW slipwayref13_Check.tab4 slipwayref13_Check.bits4 (fun HT_ HW_=>?_)
          generalize wr.drew=w11 at HB hx231_0 hx231_1 hx231_2 hx233_0 hx233_1 hx233_2 hx234_0 hx234_1 hx234_2 hx235_0 hx235_1 hx235_2 hHeld ⊢
          refine zpu 0 ?_
          refine zpu 1 ?_
          refine zpu 2 ?_
          refine zta 3 hHeld ?_
          refine zon 4 (some 14) (fun K hK=>?_)
          refine zgo Try.func57 #[.agg #[.int .i64 ((rd_T51 l0 x3_1).f0),.int .i64 ((rd_T51 l0 x3_1).f1),.int .i64 ((rd_T51 l0 x3_1).f2)]] ?_
          with_reducible refine (slipwayref13_One.calls ((rd_T51 l0 x3_1).f0) ((rd_T51 l0 x3_1).f1) ((rd_T51 l0 x3_1).f2) t232 _ A4.out).mono ?_
          rintro e w12 ⟨rfl,hb⟩
          refine ⟨_,rfl,?_⟩
          have n0_:=zkH HB hb
          clear HB
          have HB:=n0_
          clear n0_
          (try clear hb)
          (try clear hb2)
          (try clear hk)
          (try clear hi)
          refine hK.out _ _ ⟨(zhx HB hw231_0),(zhx HB hw231_1),(zhx HB hw231_2),(zhx HB hw233_0),(zhx HB hw233_1),(zhx HB hw233_2),(zhx HB hw234_0),(zhx HB hw234_1),(zhx HB hw234_2),(zhx HB hw235_0),(zhx HB hw235_1),(zhx HB hw235_2)⟩ (fun hHeld=>?_)
          clear hK K
          refine znm (some 14) ?_
          refine zpu 5 ?_
          refine zpu 6 ?_
          refine zpu 7 ?_
          refine zpu 8 ?_
          refine zpu 9 ?_
          refine zpu 10 ?_
          refine zpu 11 ?_
          refine zpu 12 ?_
          refine zpu 13 ?_
          refine zpu 15 ?_
          refine zpu 16 ?_
          refine zpu 17 ?_
          refine zpu 18 ?_
          refine zpu 19 ?_
          refine zpu 21 ?_
          refine zpu 22 ?_
          refine zpu 23 ?_
          refine zpu 24 ?_
          refine zpu 25 ?_
          refine zta 14 hHeld ?_
          refine zta 20 hHeld ?_
          refine zta 26 hHeld ?_
          refine zpu 27 ?_
          refine zpu 28 ?_
          refine zpu 29 ?_
          refine zpn 30 ?_
          refine zpn 31 ?_
          refine zpn 32 ?_
          refine zpn 33 ?_
          refine zpn 34 ?_
          refine zpn 35 ?_
          refine zpn 36 ?_
          refine zpn 37 ?_
          refine zpn 38 ?_
          refine zpn 39 ?_
          refine zpu 40 ?_
          refine zpu 41 ?_
          refine zpu 42 ?_
          refine zdo ?_
          try go_wp2
          go_ret
          exact ⟨by first|rfl|(simp [errW_none,errW_some] <;> rfl)|(simp only [← hji7];first|rfl|(simp [errW_none,errW_some] <;> rfl))|(simp [*,errW_none,errW_some] <;> rfl),zb_⟩
         ·rw [if_neg c10] at H
          have c10b0:decide (((rd_T51 l0 x3_1).f0) < (wrap64 (((rd_T51 l0 (ji7)).f0) + ((rd_T51 l0 (ji7)).f1))))=false:=decide_eq_false c10
          clear c10
          replace H:=Option.bind_eq_some_iff.mp H
          obtain ⟨t238,A130,H⟩:=H
          replace H:(if t238=true then (some 130) else (slipwayref13_Check.l0 k1 l0 (wrap64 (x3_1 + 1))))=some r:=H
          have A13:=zm A130
          clear A130
          by_cases c14:t238=true
          ·subst c14
           have H1:(some 130)=some r:=by rw [if_pos rfl] at H;exact H
           clear H
           have H:=H1
           clear H1
           obtain rfl:=Option.some.inj H
           try go_wp2
           have n0_:=zm (zlD HB.out)
           clear HB
           have HB:=n0_
           clear n0_
           have p231:0≤(x3_1:Int):=za_
           have q231:x3_1 < (l0.length:Int):=za_
           obtain ⟨ad231,e231,hx231_0,hx231_1,hx231_2⟩:=at_T51 HR0.out x3_1 p231 q231
           have hw231_2:=hx231_2
           have hw231_1:=hx231_1
           have hw231_0:=hx231_0
           cases e231
           replace hx231_0:=zhx HB hx231_0
           replace hx231_1:=zhx HB hx231_1
           replace hx231_2:=zhx HB hx231_2
           replace p231:=eq_true p231
           replace q231:=eq_true q231
           have p233:0≤(x3_1:Int):=za_
           have q233:x3_1 < (l0.length:Int):=za_
           obtain ⟨ad233,e233,hx233_0,hx233_1,hx233_2⟩:=at_T51 HR0.out x3_1 p233 q233
           have hw233_2:=hx233_2
           have hw233_1:=hx233_1
           have hw233_0:=hx233_0
           obtain rfl:ad231=ad233:=(by injection e233)
           replace hx233_0:=zhx HB hx233_0
           replace hx233_1:=zhx HB hx233_1
           replace hx233_2:=zhx HB hx233_2
           replace p233:=eq_true p233
           replace q233:=eq_true q233
           have p234:0≤((ji7):Int):=za_
           have q234:(ji7) < (l0.length:Int):=za_
           obtain ⟨ad234,e234,hx234_0,hx234_1,hx234_2⟩:=at_T51 HR0.out (ji7) p234 q234
           have hw234_2:=hx234_2
           have hw234_1:=hx234_1
           have hw234_0:=hx234_0
           obtain rfl:ad231=ad234:=(by injection e234)
           replace hx234_0:=zhx HB hx234_0
           replace hx234_1:=zhx HB hx234_1
           replace hx234_2:=zhx HB hx234_2
           replace p234:=eq_true p234
           replace q234:=eq_true q234
           have p235:0≤((ji7):Int):=za_
           have q235:(ji7) < (l0.length:Int):=za_
           obtain ⟨ad235,e235,hx235_0,hx235_1,hx235_2⟩:=at_T51 HR0.out (ji7) p235 q235
           have hw235_2:=hx235_2
           have hw235_1:=hx235_1
           have hw235_0:=hx235_0
           obtain rfl:ad231=ad235:=(by injection e235)
           replace hx235_0:=zhx HB hx235_0
           replace hx235_1:=zhx HB hx235_1
           replace hx235_2:=zhx HB hx235_2
           replace p235:=eq_true p235
           replace q235:=eq_true q235
           have p236:0≤((ji7):Int):=za_
           have q236:(ji7) < (l0.length:Int):=za_
           obtain ⟨ad236,e236,hx236_0,hx236_1,hx236_2⟩:=at_T51 HR0.out (ji7) p236 q236
           have hw236_2:=hx236_2
           have hw236_1:=hx236_1
           have hw236_0:=hx236_0
           obtain rfl:ad231=ad236:=(by injection e236)
           replace hx236_0:=zhx HB hx236_0
           replace hx236_1:=zhx HB hx236_1
           replace hx236_2:=zhx HB hx236_2
           replace p236:=eq_true p236
           replace q236:=eq_true q236
           have p237:0≤(x3_1:Int):=za_
           have q237:x3_1 < (l0.length:Int):=za_
           obtain ⟨ad237,e237,hx237_0,hx237_1,hx237_2⟩:=at_T51 HR0.out x3_1 p237 q237
           have hw237_2:=hx237_2
           have hw237_1:=hx237_1
           have hw237_0:=hx237_0
           obtain rfl:ad231=ad237:=(by injection e237)
           replace hx237_0:=zhx HB hx237_0
           replace hx237_1:=zhx HB hx237_1
           replace hx237_2:=zhx HB hx237_2
           replace p237:=eq_true p237
           replace q237:=eq_true q237
           refine start_ (n:=43) (S:=fun w'=>w'.cell? (ad231.add ((x3_1).toNat * 3))=some (.int .i64 ((rd_T51 l0 x3_1).f0))∧w'.cell? ⟨(ad231.add ((x3_1).toNat * 3)).block,(ad231.add ((x3_1).toNat * 3)).off + 1,none⟩=some (.int .i64 ((rd_T51 l0 x3_1).f1))∧w'.cell? ⟨(ad231.add ((x3_1).toNat * 3)).block,(ad231.add ((x3_1).toNat * 3)).off + 2,none⟩=some (.int .i64 ((rd_T51 l0 x3_1).f2))∧w'.cell? (ad231.add ((x3_1).toNat * 3))=some (.int .i64 ((rd_T51 l0 x3_1).f0))∧w'.cell? ⟨(ad231.add ((x3_1).toNat * 3)).block,(ad231.add ((x3_1).toNat * 3)).off + 1,none⟩=some (.int .i64 ((rd_T51 l0 x3_1).f1))∧w'.cell? ⟨(ad231.add ((x3_1).toNat * 3)).block,(ad231.add ((x3_1).toNat * 3)).off + 2,none⟩=some (.int .i64 ((rd_T51 l0 x3_1).f2))∧w'.cell? (ad231.add (((ji7)).toNat * 3))=some (.int .i64 ((rd_T51 l0 (ji7)).f0))∧w'.cell? ⟨(ad231.add (((ji7)).toNat * 3)).block,(ad231.add (((ji7)).toNat * 3)).off + 1,none⟩=some (.int .i64 ((rd_T51 l0 (ji7)).f1))∧w'.cell? ⟨(ad231.add (((ji7)).toNat * 3)).block,(ad231.add (((ji7)).toNat * 3)).off + 2,none⟩=some (.int .i64 ((rd_T51 l0 (ji7)).f2))∧w'.cell? (ad231.add (((ji7)).toNat * 3))=some (.int .i64 ((rd_T51 l0 (ji7)).f0))∧w'.cell? ⟨(ad231.add (((ji7)).toNat * 3)).block,(ad231.add (((ji7)).toNat * 3)).off + 1,none⟩=some (.int .i64 ((rd_T51 l0 (ji7)).f1))∧w'.cell? ⟨(ad231.add (((ji7)).toNat * 3)).block,(ad231.add (((ji7)).toNat * 3)).off + 2,none⟩=some (.int .i64 ((rd_T51 l0 (ji7)).f2))∧w'.cell? (ad231.add (((ji7)).toNat * 3))=some (.int .i64 ((rd_T51 l0 (ji7)).f0))∧w'.cell? ⟨(ad231.add (((ji7)).toNat * 3)).block,(ad231.add (((ji7)).toNat * 3)).off + 1,none⟩=some (.int .i64 ((rd_T51 l0 (ji7)).f1))∧w'.cell? ⟨(ad231.add (((ji7)).toNat * 3)).block,(ad231.add (((ji7)).toNat * 3)).off + 2,none⟩=some (.int .i64 ((rd_T51 l0 (ji7)).f2))∧w'.cell? (ad231.add ((x3_1).toNat * 3))=some (.int .i64 ((rd_T51 l0 x3_1).f0))∧w'.cell? ⟨(ad231.add ((x3_1).toNat * 3)).block,(ad231.add ((x3_1).toNat * 3)).off + 1,none⟩=some (.int .i64 ((rd_T51 l0 x3_1).f1))∧w'.cell? ⟨(ad231.add ((x3_1).toNat * 3)).block,(ad231.add ((x3_1).toNat * 3)).off + 2,none⟩=some (.int .i64 ((rd_T51 l0 x3_1).f2))) (ds:=[]) (Array.replicate 43 false) (by kernel_rfl) rfl rfl ⟨(zhx HB hw231_0),(zhx HB hw231_1),(zhx HB hw231_2),(zhx HB hw233_0),(zhx HB hw233_1),(zhx HB hw233_2),(zhx HB hw234_0),(zhx HB hw234_1),(zhx HB hw234_2),(zhx HB hw235_0),(zhx HB hw235_1),(zhx HB hw235_2),(zhx HB hw236_0),(zhx HB hw236_1),(zhx HB hw236_2),(zhx HB hw237_0),(zhx HB hw237_1),(zhx HB hw237_2)⟩ (fun hHeld=>?_);refine with_tabW slipwayref13_Check.tab4 slipwayref13_Check.bits4 (fun HT_ HW_=>?_)
           generalize wr.drew=w15 at HB hx231_0 hx231_1 hx231_2 hx233_0 hx233_1 hx233_2 hx234_0 hx234_1 hx234_2 hx235_0 hx235_1 hx235_2 hx236_0 hx236_1 hx236_2 hx237_0 hx237_1 hx237_2 hHeld ⊢
           refine zpu 0 ?_
           refine zpu 1 ?_
           refine zpu 2 ?_
           refine zta 3 hHeld ?_
           refine zon 4 (some 14) (fun K hK=>?_)
           refine zgo Try.func57 #[.agg #[.int .i64 ((rd_T51 l0 x3_1).f0),.int .i64 ((rd_T51 l0 x3_1).f1),.int .i64 ((rd_T51 l0 x3_1).f2)]] ?_
           with_reducible refine (slipwayref13_One.calls ((rd_T51 l0 x3_1).f0) ((rd_T51 l0 x3_1).f1) ((rd_T51 l0 x3_1).f2) t232 _ A4.out).mono ?_
           rintro e w16 ⟨rfl,hb⟩
           refine ⟨_,rfl,?_⟩
           have n0_:=zkH HB hb
           clear HB
           have HB:=n0_
           clear n0_
           (try clear hb)
           (try clear hb2)
           (try clear hk)
           (try clear hi)
           refine hK.out _ _ ⟨(zhx HB hw231_0),(zhx HB hw231_1),(zhx HB hw231_2),(zhx HB hw233_0),(zhx HB hw233_1),(zhx HB hw233_2),(zhx HB hw234_0),(zhx HB hw234_1),(zhx HB hw234_2),(zhx HB hw235_0),(zhx HB hw235_1),(zhx HB hw235_2),(zhx HB hw236_0),(zhx HB hw236_1),(zhx HB hw236_2),(zhx HB hw237_0),(zhx HB hw237_1),(zhx HB hw237_2)⟩ (fun hHeld=>?_)
           clear hK K
           refine znm (some 14) ?_
           refine zpu 5 ?_
           refine zpu 6 ?_
           refine zpu 7 ?_
           refine zpu 8 ?_
           refine zpu 9 ?_
           refine zpu 10 ?_
           refine zpu 11 ?_
           refine zpu 12 ?_
           refine zpu 13 ?_
           refine zpu 15 ?_
           refine zpu 16 ?_
           refine zpu 17 ?_
           refine zpu 18 ?_
           refine zpu 19 ?_
           refine zpu 21 ?_
           refine zpu 22 ?_
           refine zpu 23 ?_
           refine zpu 24 ?_
           refine zpu 25 ?_
           refine zta 14 hHeld ?_
           refine zta 20 hHeld ?_
           refine zta 26 hHeld ?_
           refine zpu 27 ?_
           refine zpu 28 ?_
           refine zpu 29 ?_
           refine zpu 30 ?_
           refine zpu 31 ?_
           refine zpu 32 ?_
           refine zpu 33 ?_
           refine zpu 35 ?_
           refine zpu 36 ?_
           refine zpu 37 ?_
           refine zta 34 hHeld ?_
           refine zta 38 hHeld ?_
           refine zon 39 (some 49) (fun K hK=>?_)
           refine goes_ Try.func58 (by kernel_rfl) rfl #[.agg #[.int .i64 ((rd_T51 l0 (ji7)).f0),.int .i64 ((rd_T51 l0 (ji7)).f1),.int .i64 ((rd_T51 l0 (ji7)).f2)],.agg #[.int .i64 ((rd_T51 l0 x3_1).f0),.int .i64 ((rd_T51 l0 x3_1).f1),.int .i64 ((rd_T51 l0 x3_1).f2)]] (by rfl) rfl rfl (by (try simp only [List.map_toArray,List.map_cons,List.map_nil]);first|done|(simp only [hji7];rfl)|rfl|(simp only [List.length_drop,List.length_take];rfl)) ?_
           with_reducible refine (slipwayref13_goes.calls ((rd_T51 l0 (ji7)).f0) ((rd_T51 l0 (ji7)).f1) ((rd_T51 l0 (ji7)).f2) ((rd_T51 l0 x3_1).f0) ((rd_T51 l0 x3_1).f1) ((rd_T51 l0 x3_1).f2) true _ A13.out).mono ?_
           rintro e w17 ⟨rfl,hb⟩
           refine ⟨_,rfl,?_⟩
           have n0_:=zkH HB hb
           clear HB
           have HB:=n0_
           clear n0_
           (try clear hb)
           (try clear hb2)
           (try clear hk)
           (try clear hi)
           refine hK.out _ _ ⟨(zhx HB hw231_0),(zhx HB hw231_1),(zhx HB hw231_2),(zhx HB hw233_0),(zhx HB hw233_1),(zhx HB hw233_2),(zhx HB hw234_0),(zhx HB hw234_1),(zhx HB hw234_2),(zhx HB hw235_0),(zhx HB hw235_1),(zhx HB hw235_2),(zhx HB hw236_0),(zhx HB hw236_1),(zhx HB hw236_2),(zhx HB hw237_0),(zhx HB hw237_1),(zhx HB hw237_2)⟩ (fun hHeld=>?_)
           clear hK K
           refine znm (some 49) ?_
           refine zpu 40 ?_
           refine zpu 41 ?_
           refine zpu 42 ?_
           refine zdo ?_
           try go_wp2
           go_ret
           exact ⟨by first|rfl|(simp [errW_none,errW_some] <;> rfl)|(simp only [← hji7];first|rfl|(simp [errW_none,errW_some] <;> rfl))|(simp [*,errW_none,errW_some] <;> rfl),zb_⟩
          ·replace c14:=Bool.eq_false_iff.mpr c14
           subst c14
           have H1:(slipwayref13_Check.l0 k1 l0 (wrap64 (x3_1 + 1)))=some r:=by rw [if_neg (show ¬ (false=true) by decide)] at H;exact H
           clear H
           have H:=H1
           clear H1
           have H':=zm H
           clear H
           try go_wp2
           have n0_:=zm (zlD HB.out)
           clear HB
           have HB:=n0_
           clear n0_
           have p231:0≤(x3_1:Int):=za_
           have q231:x3_1 < (l0.length:Int):=za_
           obtain ⟨ad231,e231,hx231_0,hx231_1,hx231_2⟩:=at_T51 HR0.out x3_1 p231 q231
           have hw231_2:=hx231_2
           have hw231_1:=hx231_1
           have hw231_0:=hx231_0
           cases e231
           replace hx231_0:=zhx HB hx231_0
           replace hx231_1:=zhx HB hx231_1
           replace hx231_2:=zhx HB hx231_2
           replace p231:=eq_true p231
           replace q231:=eq_true q231
           have p233:0≤(x3_1:Int):=za_
           have q233:x3_1 < (l0.length:Int):=za_
           obtain ⟨ad233,e233,hx233_0,hx233_1,hx233_2⟩:=at_T51 HR0.out x3_1 p233 q233
           have hw233_2:=hx233_2
           have hw233_1:=hx233_1
           have hw233_0:=hx233_0
           obtain rfl:ad231=ad233:=(by injection e233)
           replace hx233_0:=zhx HB hx233_0
           replace hx233_1:=zhx HB hx233_1
           replace hx233_2:=zhx HB hx233_2
           replace p233:=eq_true p233
           replace q233:=eq_true q233
           have p234:0≤((ji7):Int):=za_
           have q234:(ji7) < (l0.length:Int):=za_
           obtain ⟨ad234,e234,hx234_0,hx234_1,hx234_2⟩:=at_T51 HR0.out (ji7) p234 q234
           have hw234_2:=hx234_2
           have hw234_1:=hx234_1
           have hw234_0:=hx234_0
           obtain rfl:ad231=ad234:=(by injection e234)
           replace hx234_0:=zhx HB hx234_0
           replace hx234_1:=zhx HB hx234_1
           replace hx234_2:=zhx HB hx234_2
           replace p234:=eq_true p234
           replace q234:=eq_true q234
           have p235:0≤((ji7):Int):=za_
           have q235:(ji7) < (l0.length:Int):=za_
           obtain ⟨ad235,e235,hx235_0,hx235_1,hx235_2⟩:=at_T51 HR0.out (ji7) p235 q235
           have hw235_2:=hx235_2
           have hw235_1:=hx235_1
           have hw235_0:=hx235_0
           obtain rfl:ad231=ad235:=(by injection e235)
           replace hx235_0:=zhx HB hx235_0
           replace hx235_1:=zhx HB hx235_1
           replace hx235_2:=zhx HB hx235_2
           replace p235:=eq_true p235
           replace q235:=eq_true q235
           have p236:0≤((ji7):Int):=za_
           have q236:(ji7) < (l0.length:Int):=za_
           obtain ⟨ad236,e236,hx236_0,hx236_1,hx236_2⟩:=at_T51 HR0.out (ji7) p236 q236
           have hw236_2:=hx236_2
           have hw236_1:=hx236_1
           have hw236_0:=hx236_0
           obtain rfl:ad231=ad236:=(by injection e236)
           replace hx236_0:=zhx HB hx236_0
           replace hx236_1:=zhx HB hx236_1
           replace hx236_2:=zhx HB hx236_2
           replace p236:=eq_true p236
           replace q236:=eq_true q236
           have p237:0≤(x3_1:Int):=za_
           have q237:x3_1 < (l0.length:Int):=za_
           obtain ⟨ad237,e237,hx237_0,hx237_1,hx237_2⟩:=at_T51 HR0.out x3_1 p237 q237
           have hw237_2:=hx237_2
           have hw237_1:=hx237_1
           have hw237_0:=hx237_0
           obtain rfl:ad231=ad237:=(by injection e237)
           replace hx237_0:=zhx HB hx237_0
           replace hx237_1:=zhx HB hx237_1
           replace hx237_2:=zhx HB hx237_2
           replace p237:=eq_true p237
           replace q237:=eq_true q237
           refine start_ (n:=43) (S:=fun w'=>w'.cell? (ad231.add ((x3_1).toNat * 3))=some (.int .i64 ((rd_T51 l0 x3_1).f0))∧w'.cell? ⟨(ad231.add ((x3_1).toNat * 3)).block,(ad231.add ((x3_1).toNat * 3)).off + 1,none⟩=some (.int .i64 ((rd_T51 l0 x3_1).f1))∧w'.cell? ⟨(ad231.add ((x3_1).toNat * 3)).block,(ad231.add ((x3_1).toNat * 3)).off + 2,none⟩=some (.int .i64 ((rd_T51 l0 x3_1).f2))∧w'.cell? (ad231.add ((x3_1).toNat * 3))=some (.int .i64 ((rd_T51 l0 x3_1).f0))∧w'.cell? ⟨(ad231.add ((x3_1).toNat * 3)).block,(ad231.add ((x3_1).toNat * 3)).off + 1,none⟩=some (.int .i64 ((rd_T51 l0 x3_1).f1))∧w'.cell? ⟨(ad231.add ((x3_1).toNat * 3)).block,(ad231.add ((x3_1).toNat * 3)).off + 2,none⟩=some (.int .i64 ((rd_T51 l0 x3_1).f2))∧w'.cell? (ad231.add (((ji7)).toNat * 3))=some (.int .i64 ((rd_T51 l0 (ji7)).f0))∧w'.cell? ⟨(ad231.add (((ji7)).toNat * 3)).block,(ad231.add (((ji7)).toNat * 3)).off + 1,none⟩=some (.int .i64 ((rd_T51 l0 (ji7)).f1))∧w'.cell? ⟨(ad231.add (((ji7)).toNat * 3)).block,(ad231.add (((ji7)).toNat * 3)).off + 2,none⟩=some (.int .i64 ((rd_T51 l0 (ji7)).f2))∧w'.cell? (ad231.add (((ji7)).toNat * 3))=some (.int .i64 ((rd_T51 l0 (ji7)).f0))∧w'.cell? ⟨(ad231.add (((ji7)).toNat * 3)).block,(ad231.add (((ji7)).toNat * 3)).off + 1,none⟩=some (.int .i64 ((rd_T51 l0 (ji7)).f1))∧w'.cell? ⟨(ad231.add (((ji7)).toNat * 3)).block,(ad231.add (((ji7)).toNat * 3)).off + 2,none⟩=some (.int .i64 ((rd_T51 l0 (ji7)).f2))∧w'.cell? (ad231.add (((ji7)).toNat * 3))=some (.int .i64 ((rd_T51 l0 (ji7)).f0))∧w'.cell? ⟨(ad231.add (((ji7)).toNat * 3)).block,(ad231.add (((ji7)).toNat * 3)).off + 1,none⟩=some (.int .i64 ((rd_T51 l0 (ji7)).f1))∧w'.cell? ⟨(ad231.add (((ji7)).toNat * 3)).block,(ad231.add (((ji7)).toNat * 3)).off + 2,none⟩=some (.int .i64 ((rd_T51 l0 (ji7)).f2))∧w'.cell? (ad231.add ((x3_1).toNat * 3))=some (.int .i64 ((rd_T51 l0 x3_1).f0))∧w'.cell? ⟨(ad231.add ((x3_1).toNat * 3)).block,(ad231.add ((x3_1).toNat * 3)).off + 1,none⟩=some (.int .i64 ((rd_T51 l0 x3_1).f1))∧w'.cell? ⟨(ad231.add ((x3_1).toNat * 3)).block,(ad231.add ((x3_1).toNat * 3)).off + 2,none⟩=some (.int .i64 ((rd_T51 l0 x3_1).f2))) (ds:=[]) (Array.replicate 43 false) (by kernel_rfl) rfl rfl ⟨(zhx HB hw231_0),(zhx HB hw231_1),(zhx HB hw231_2),(zhx HB hw233_0),(zhx HB hw233_1),(zhx HB hw233_2),(zhx HB hw234_0),(zhx HB hw234_1),(zhx HB hw234_2),(zhx HB hw235_0),(zhx HB hw235_1),(zhx HB hw235_2),(zhx HB hw236_0),(zhx HB hw236_1),(zhx HB hw236_2),(zhx HB hw237_0),(zhx HB hw237_1),(zhx HB hw237_2)⟩ (fun hHeld=>?_);refine with_tabW slipwayref13_Check.tab4 slipwayref13_Check.bits4 (fun HT_ HW_=>?_)
           generalize wr.drew=w18 at HB hx231_0 hx231_1 hx231_2 hx233_0 hx233_1 hx233_2 hx234_0 hx234_1 hx234_2 hx235_0 hx235_1 hx235_2 hx236_0 hx236_1 hx236_2 hx237_0 hx237_1 hx237_2 hHeld ⊢
           refine zpu 0 ?_
           refine zpu 1 ?_
           refine zpu 2 ?_
           refine zta 3 hHeld ?_
           refine zon 4 (some 14) (fun K hK=>?_)
           refine zgo Try.func57 #[.agg #[.int .i64 ((rd_T51 l0 x3_1).f0),.int .i64 ((rd_T51 l0 x3_1).f1),.int .i64 ((rd_T51 l0 x3_1).f2)]] ?_
           with_reducible refine (slipwayref13_One.calls ((rd_T51 l0 x3_1).f0) ((rd_T51 l0 x3_1).f1) ((rd_T51 l0 x3_1).f2) t232 _ A4.out).mono ?_
           rintro e w19 ⟨rfl,hb⟩
           refine ⟨_,rfl,?_⟩
           have n0_:=zkH HB hb
           clear HB
           have HB:=n0_
           clear n0_
           (try clear hb)
           (try clear hb2)
           (try clear hk)
           (try clear hi)
           refine hK.out _ _ ⟨(zhx HB hw231_0),(zhx HB hw231_1),(zhx HB hw231_2),(zhx HB hw233_0),(zhx HB hw233_1),(zhx HB hw233_2),(zhx HB hw234_0),(zhx HB hw234_1),(zhx HB hw234_2),(zhx HB hw235_0),(zhx HB hw235_1),(zhx HB hw235_2),(zhx HB hw236_0),(zhx HB hw236_1),(zhx HB hw236_2),(zhx HB hw237_0),(zhx HB hw237_1),(zhx HB hw237_2)⟩ (fun hHeld=>?_)
           clear hK K
           refine znm (some 14) ?_
           refine zpu 5 ?_
           refine zpu 6 ?_
           refine zpu 7 ?_
           refine zpu 8 ?_
           refine zpu 9 ?_
           refine zpu 10 ?_
           refine zpu 11 ?_
           refine zpu 12 ?_
           refine zpu 13 ?_
           refine zpu 15 ?_
           refine zpu 16 ?_
           refine zpu 17 ?_
           refine zpu 18 ?_
           refine zpu 19 ?_
           refine zpu 21 ?_
           refine zpu 22 ?_
           refine zpu 23 ?_
           refine zpu 24 ?_
           refine zpu 25 ?_
           refine zta 14 hHeld ?_
           refine zta 20 hHeld ?_
           refine zta 26 hHeld ?_
           refine zpu 27 ?_
           refine zpu 28 ?_
           refine zpu 29 ?_
           refine zpu 30 ?_
           refine zpu 31 ?_
           refine zpu 32 ?_
           refine zpu 33 ?_
           refine zpu 35 ?_
           refine zpu 36 ?_
           refine zpu 37 ?_
           refine zta 34 hHeld ?_
           refine zta 38 hHeld ?_
           refine zon 39 (some 49) (fun K hK=>?_)
           refine goes_ Try.func58 (by kernel_rfl) rfl #[.agg #[.int .i64 ((rd_T51 l0 (ji7)).f0),.int .i64 ((rd_T51 l0 (ji7)).f1),.int .i64 ((rd_T51 l0 (ji7)).f2)],.agg #[.int .i64 ((rd_T51 l0 x3_1).f0),.int .i64 ((rd_T51 l0 x3_1).f1),.int .i64 ((rd_T51 l0 x3_1).f2)]] (by rfl) rfl rfl (by (try simp only [List.map_toArray,List.map_cons,List.map_nil]);first|done|(simp only [hji7];rfl)|rfl|(simp only [List.length_drop,List.length_take];rfl)) ?_
           with_reducible refine (slipwayref13_goes.calls ((rd_T51 l0 (ji7)).f0) ((rd_T51 l0 (ji7)).f1) ((rd_T51 l0 (ji7)).f2) ((rd_T51 l0 x3_1).f0) ((rd_T51 l0 x3_1).f1) ((rd_T51 l0 x3_1).f2) false _ A13.out).mono ?_
           rintro e w20 ⟨rfl,hb⟩
           refine ⟨_,rfl,?_⟩
           have n0_:=zkH HB hb
           clear HB
           have HB:=n0_
           clear n0_
           (try clear hb)
           (try clear hb2)
           (try clear hk)
           (try clear hi)
           refine hK.out _ _ ⟨(zhx HB hw231_0),(zhx HB hw231_1),(zhx HB hw231_2),(zhx HB hw233_0),(zhx HB hw233_1),(zhx HB hw233_2),(zhx HB hw234_0),(zhx HB hw234_1),(zhx HB hw234_2),(zhx HB hw235_0),(zhx HB hw235_1),(zhx HB hw235_2),(zhx HB hw236_0),(zhx HB hw236_1),(zhx HB hw236_2),(zhx HB hw237_0),(zhx HB hw237_1),(zhx HB hw237_2)⟩ (fun hHeld=>?_)
           clear hK K
           refine znm (some 49) ?_
           refine zpu 40 ?_
           refine zpu 41 ?_
           refine zpu 42 ?_
           refine zdo ?_
           try go_wp2
           go_roundg k1
           case measure=>have:=HK1.out;omega
           case rel=>exact ⟨(wrap64 (x3_1 + 1)),zs_,H',⟨by have:=HK1.out;omega⟩,⟨zb_⟩⟩
        ·rw [if_neg c9] at H
         exact absurd H (by simp)
       ·rw [if_neg c8] at H
        exact absurd H (by simp)
      ·rw [if_neg c6] at H
       have c6b0:decide (0 < x3_1)=false:=decide_eq_false c6
       clear c6
       have H':=zm H
       clear H
       try go_wp2
       have n0_:=zm (zlD HB.out)
       clear HB
       have HB:=n0_
       clear n0_
       have p231:0≤(x3_1:Int):=za_
       have q231:x3_1 < (l0.length:Int):=za_
       obtain ⟨ad231,e231,hx231_0,hx231_1,hx231_2⟩:=at_T51 HR0.out x3_1 p231 q231
       have hw231_2:=hx231_2
       have hw231_1:=hx231_1
       have hw231_0:=hx231_0
       cases e231
       replace hx231_0:=zhx HB hx231_0
       replace hx231_1:=zhx HB hx231_1
       replace hx231_2:=zhx HB hx231_2
       replace p231:=eq_true p231
       replace q231:=eq_true q231
       refine start_ (n:=43) (S:=fun w'=>w'.cell? (ad231.add ((x3_1).toNat * 3))=some (.int .i64 ((rd_T51 l0 x3_1).f0))∧w'.cell? ⟨(ad231.add ((x3_1).toNat * 3)).block,(ad231.add ((x3_1).toNat * 3)).off + 1,none⟩=some (.int .i64 ((rd_T51 l0 x3_1).f1))∧w'.cell? ⟨(ad231.add ((x3_1).toNat * 3)).block,(ad231.add ((x3_1).toNat * 3)).off + 2,none⟩=some (.int .i64 ((rd_T51 l0 x3_1).f2))) (ds:=[]) (Array.replicate 43 false) (by kernel_rfl) rfl rfl ⟨(zhx HB hw231_0),(zhx HB hw231_1),(zhx HB hw231_2)⟩ (fun hHeld=>?_);refine with_tabW slipwayref13_Check.tab4 slipwayref13_Check.bits4 (fun HT_ HW_=>?_)
       generalize wr.drew=w21 at HB hx231_0 hx231_1 hx231_2 hHeld ⊢
       refine zpu 0 ?_
       refine zpu 1 ?_
       refine zpu 2 ?_
       refine zta 3 hHeld ?_
       refine zon 4 (some 14) (fun K hK=>?_)
       refine zgo Try.func57 #[.agg #[.int .i64 ((rd_T51 l0 x3_1).f0),.int .i64 ((rd_T51 l0 x3_1).f1),.int .i64 ((rd_T51 l0 x3_1).f2)]] ?_
       with_reducible refine (slipwayref13_One.calls ((rd_T51 l0 x3_1).f0) ((rd_T51 l0 x3_1).f1) ((rd_T51 l0 x3_1).f2) t232 _ A4.out).mono ?_
       rintro e w22 ⟨rfl,hb⟩
       refine ⟨_,rfl,?_⟩
       have n0_:=zkH HB hb
       clear HB
       have HB:=n0_
       clear n0_
       (try clear hb)
       (try clear hb2)
       (try clear hk)
       (try clear hi)
       refine hK.out _ _ ⟨(zhx HB hw231_0),(zhx HB hw231_1),(zhx HB hw231_2)⟩ (fun hHeld=>?_)
       clear hK K
       refine znm (some 14) ?_
       refine zpu 5 ?_
       refine zpu 6 ?_
       refine zpu 7 ?_
       refine zpu 8 ?_
       refine zpu 9 ?_
       refine zpn 10 ?_
       refine zpn 11 ?_
       refine zpn 12 ?_
       refine zpn 13 ?_
       refine zpn 14 ?_
       refine zpn 15 ?_
       refine zpn 16 ?_
       refine zpn 17 ?_
       refine zpn 18 ?_
       refine zpn 19 ?_
       refine zpn 20 ?_
       refine zpn 21 ?_
       refine zpn 22 ?_
       refine zpn 23 ?_
       refine zpn 24 ?_
       refine zpn 25 ?_
       refine zpn 26 ?_
       refine zpn 27 ?_
       refine zpn 28 ?_
       refine zpn 29 ?_
       refine zpn 30 ?_
       refine zpn 31 ?_
       refine zpn 32 ?_
       refine zpn 33 ?_
       refine zpn 34 ?_
       refine zpn 35 ?_
       refine zpn 36 ?_
       refine zpn 37 ?_
       refine zpn 38 ?_
       refine zpn 39 ?_
       refine zpn 40 ?_
       refine zpu 41 ?_
       refine zpu 42 ?_
       refine zdo ?_
       try go_wp2
       go_roundg k1
       case measure=>have:=HK1.out;omega
       case rel=>exact ⟨(wrap64 (x3_1 + 1)),zs_,H',⟨by have:=HK1.out;omega⟩,⟨zb_⟩⟩
     ·rw [if_neg c5] at H
      have c5b0:(t232 == 0)=false:=beq_eq_false_iff_ne.mpr c5
      have c5b1:(t232 != 0)=true:=bne_iff_ne.mpr c5
      obtain rfl:=Option.some.inj H
      try go_wp2
      have n0_:=zm (zlD HB.out)
      clear HB
      have HB:=n0_
      clear n0_
      have p231:0≤(x3_1:Int):=za_
      have q231:x3_1 < (l0.length:Int):=za_
      obtain ⟨ad231,e231,hx231_0,hx231_1,hx231_2⟩:=at_T51 HR0.out x3_1 p231 q231
      have hw231_2:=hx231_2
      have hw231_1:=hx231_1
      have hw231_0:=hx231_0
      cases e231
      replace hx231_0:=zhx HB hx231_0
      replace hx231_1:=zhx HB hx231_1
      replace hx231_2:=zhx HB hx231_2
      replace p231:=eq_true p231
      replace q231:=eq_true q231
      refine start_ (n:=43) (S:=fun w'=>w'.cell? (ad231.add ((x3_1).toNat * 3))=some (.int .i64 ((rd_T51 l0 x3_1).f0))∧w'.cell? ⟨(ad231.add ((x3_1).toNat * 3)).block,(ad231.add ((x3_1).toNat * 3)).off + 1,none⟩=some (.int .i64 ((rd_T51 l0 x3_1).f1))∧w'.cell? ⟨(ad231.add ((x3_1).toNat * 3)).block,(ad231.add ((x3_1).toNat * 3)).off + 2,none⟩=some (.int .i64 ((rd_T51 l0 x3_1).f2))) (ds:=[]) (Array.replicate 43 false) (by kernel_rfl) rfl rfl ⟨(zhx HB hw231_0),(zhx HB hw231_1),(zhx HB hw231_2)⟩ (fun hHeld=>?_);refine with_tabW slipwayref13_Check.tab4 slipwayref13_Check.bits4 (fun HT_ HW_=>?_)
      generalize wr.drew=w23 at HB hx231_0 hx231_1 hx231_2 hHeld ⊢
      refine zpu 0 ?_
      refine zpu 1 ?_
      refine zpu 2 ?_
      refine zta 3 hHeld ?_
      refine zon 4 (some 14) (fun K hK=>?_)
      refine zgo Try.func57 #[.agg #[.int .i64 ((rd_T51 l0 x3_1).f0),.int .i64 ((rd_T51 l0 x3_1).f1),.int .i64 ((rd_T51 l0 x3_1).f2)]] ?_
      with_reducible refine (slipwayref13_One.calls ((rd_T51 l0 x3_1).f0) ((rd_T51 l0 x3_1).f1) ((rd_T51 l0 x3_1).f2) t232 _ A4.out).mono ?_
      rintro e w24 ⟨rfl,hb⟩
      refine ⟨_,rfl,?_⟩
      have n0_:=zkH HB hb
      clear HB
      have HB:=n0_
      clear n0_
      (try clear hb)
      (try clear hb2)
      (try clear hk)
      (try clear hi)
      refine hK.out _ _ ⟨(zhx HB hw231_0),(zhx HB hw231_1),(zhx HB hw231_2)⟩ (fun hHeld=>?_)
      clear hK K
      refine znm (some 14) ?_
      refine zpu 5 ?_
      refine zpu 6 ?_
      refine zpn 7 ?_
      refine zpn 8 ?_
      refine zpn 9 ?_
      refine zpn 10 ?_
      refine zpn 11 ?_
      refine zpn 12 ?_
      refine zpn 13 ?_
      refine zpn 14 ?_
      refine zpn 15 ?_
      refine zpn 16 ?_
      refine zpn 17 ?_
      refine zpn 18 ?_
      refine zpn 19 ?_
      refine zpn 20 ?_
      refine zpn 21 ?_
      refine zpn 22 ?_
      refine zpn 23 ?_
      refine zpn 24 ?_
      refine zpn 25 ?_
      refine zpn 26 ?_
      refine zpn 27 ?_
      refine zpn 28 ?_
      refine zpn 29 ?_
      refine zpn 30 ?_
      refine zpn 31 ?_
      refine zpn 32 ?_
      refine zpn 33 ?_
      refine zpn 34 ?_
      refine zpn 35 ?_
      refine zpn 36 ?_
      refine zpn 37 ?_
      refine zpn 38 ?_
      refine zpn 39 ?_
      refine zpn 40 ?_
      refine zpn 41 ?_
      refine zpu 42 ?_
      refine zdo ?_
      try go_wp2
      go_ret
      exact ⟨ze_,zb_⟩
    ·rw [if_neg c3] at H
     exact absurd H (by simp)
   ·rw [if_neg c2] at H
    have c2b0:decide (x3_1 < (l0.length:Int))=false:=decide_eq_false c2
    clear c2
    obtain rfl:=Option.some.inj H
    go_wp2
    go_ret
    exact ⟨ze_,zb_⟩
end Go.Proofs.Ytjoojmodghpimaa.Print
end
section
namespace Go.Proofs.Ytjoojmodghpimaa.Print
open Go.RowKit Go.Proofs.YtjoojmodghpimaaW.PrintWords Go.Proofs.YtjoojmodghpimaaW.PrintLast Go.Proofs.YtjoojmodghpimaaW.PrintMore
attribute [local go_sem] max2_int min2_int max_two min_two max_three min_three max_four min_four   -- for this text's walks alone
attribute [local go_sem ↓] Go.Proofs.Ytjoojmodghpimaa.Sem.isSome_setCell
attribute [local go_sem] Go.Instr.field Go.asAgg
set_option linter.unusedVariables false
set_option linter.unusedSimpArgs false
def slipwayref14_root.l0:Nat → Int → Int → Int → Int → Int → Int → Int → List (S51) → Option (Bool)
 | 0,_,_,_,_,_,_,_,_=>none
 | k + 1,x3,x240000,x240001,x240002,x240003,x240004,x240005,x240006=>if x3 < (x240006.length:Int) then (if 0≤x3 then (if ((rd_T51 x240006 x3).f0) < 0 then (some false) else (if ((rd_T51 x240006 x3).f0) ≥ 65536 then (some false) else (if ((rd_T51 x240006 x3).f1)=0 then (if ((rd_T51 x240006 x3).f2) < 1 then (some false) else (if ((rd_T51 x240006 x3).f2) ≥ 8192 then (some false) else (if x3 > 0 then (if 0≤(wrap64 (x3 - 1)) then (if (wrap64 (x3 - 1)) < (x240006.length:Int) then (if ((rd_T51 x240006 x3).f0)≤((rd_T51 x240006 (wrap64 (x3 - 1))).f0) then (some false) else (slipwayref14_root.l0 k (wrap64 (x3 + 1)) x240000 x240001 x240002 x240003 x240004 x240005 x240006)) else (none)) else (none)) else (slipwayref14_root.l0 k (wrap64 (x3 + 1)) x240000 x240001 x240002 x240003 x240004 x240005 x240006)))) else (some false)))) else (none)) else (some (decide ((x240006.length:Int) > 0)))
def slipwayref14_root.f (k:Nat) (a0_0:Int) (a0_1:Int) (a0_2:Int) (a0_3:Int) (a0_4:Int) (a0_5:Int) (l0_6:List (S51)):Option (Bool):=if (l0_6.length:Int) > 4 then (some false) else (if a0_5=0 then ((slipwayref13_Check.f k l0_6).bind fun t240=>(some (t240 == 0))) else (slipwayref14_root.l0 k 0 a0_0 a0_1 a0_2 a0_3 a0_4 a0_5 l0_6))
set_option maxHeartbeats 8000000 in
set_option maxRecDepth 100000 in
theorem slipwayref14_root.calls (k:Nat) (a0_0:Int) (a0_1:Int) (a0_2:Int) (a0_3:Int) (a0_4:Int) (a0_5:Int) (A0_6:Option Addr) (c0_6:Nat) (l0_6:List (S51)) (r:Bool) (w:World) (hr0_6:Kd.C k51 w A0_6 l0_6.length l0_6) (hc0_6:l0_6.length≤c0_6) (h:slipwayref14_root.f k a0_0 a0_1 a0_2 a0_3 a0_4 a0_5 l0_6=some r) :
  Calls Try.prog 41 #[.agg #[.int .i64 a0_0,.int .i64 a0_1,.int .i64 a0_2,.int .i64 a0_3,.int .i64 a0_4,.int .i64 a0_5,.slice A0_6 l0_6.length c0_6]] w fun e w'=>e=.returned (.bool r)∧Below w.heap.size w w':=by
 have hu24:=Try.underlying24
 have hu51:=Try.underlying51
 have HR0_6:=zm hr0_6
 have HC0_6:=zm hc0_6
 clear hr0_6 hc0_6
 have HB:=zm (Below.refl w.heap.size w)
 have H:(if (l0_6.length:Int) > 4 then (some false) else (if a0_5=0 then ((slipwayref13_Check.f k l0_6).bind fun t240=>(some (t240 == 0))) else (slipwayref14_root.l0 k 0 a0_0 a0_1 a0_2 a0_3 a0_4 a0_5 l0_6)))=some r:=h
 clear h
 by_cases c2:(l0_6.length:Int) > 4
 ·rw [if_pos c2] at H
  have c2b0:decide (4 < (l0_6.length:Int))=true:=decide_eq_true c2
  have c2b1:decide (4 < l0_6.length)=true:=decide_eq_true (by omega)
  clear c2
  obtain rfl:=Option.some.inj H
  go_enter Try.func41,Try.ntmps41
  go_wp2_with (first|((with_reducible refine gate_dst (N:=1) rfl ?_);refine zbx 1 #[.int .i64 a0_0,.int .i64 a0_1,.int .i64 a0_2,.int .i64 a0_3,.int .i64 a0_4,.int .i64 a0_5,.slice A0_6 l0_6.length c0_6] 24 ?_;intro gb239 hg w3 hbox hb;have n0_:=zkH HB hb;have n1_:=zm (hbox);have n2_:=zkG HB hg;have n3_:=zkG HB hg;clear HB;have HB:=n0_;have BK239:=n1_;have GW239:=n2_;have GE239:=n3_;clear n0_ n1_ n2_ n3_;clear hb hbox hg;obtain ⟨hcz4_0,hcz4_1,hcz4_2,hcz4_3,hcz4_4,hcz4_5,hcz4_6,hfz4_0,hfz4_1,hfz4_2,hfz4_3,hfz4_4,hfz4_5,hfz4_6⟩:=zc7 BK239.out))
  repeat (go_quiet (first|((with_reducible refine gate_dst (N:=1) rfl ?_);refine zbx 1 #[.int .i64 a0_0,.int .i64 a0_1,.int .i64 a0_2,.int .i64 a0_3,.int .i64 a0_4,.int .i64 a0_5,.slice A0_6 l0_6.length c0_6] 24 ?_;intro gb239 hg w3 hbox hb;have n0_:=zkH HB hb;have n1_:=zm (hbox);have n2_:=zkG HB hg;have n3_:=zkG HB hg;clear HB;have HB:=n0_;have BK239:=n1_;have GW239:=n2_;have GE239:=n3_;clear n0_ n1_ n2_ n3_;clear hb hbox hg;obtain ⟨hcz4_0,hcz4_1,hcz4_2,hcz4_3,hcz4_4,hcz4_5,hcz4_6,hfz4_0,hfz4_1,hfz4_2,hfz4_3,hfz4_4,hfz4_5,hfz4_6⟩:=zc7 BK239.out));try go_wp2_with (first|((with_reducible refine gate_dst (N:=1) rfl ?_);refine zbx 1 #[.int .i64 a0_0,.int .i64 a0_1,.int .i64 a0_2,.int .i64 a0_3,.int .i64 a0_4,.int .i64 a0_5,.slice A0_6 l0_6.length c0_6] 24 ?_;intro gb239 hg w3 hbox hb;have n0_:=zkH HB hb;have n1_:=zm (hbox);have n2_:=zkG HB hg;have n3_:=zkG HB hg;clear HB;have HB:=n0_;have BK239:=n1_;have GW239:=n2_;have GE239:=n3_;clear n0_ n1_ n2_ n3_;clear hb hbox hg;obtain ⟨hcz4_0,hcz4_1,hcz4_2,hcz4_3,hcz4_4,hcz4_5,hcz4_6,hfz4_0,hfz4_1,hfz4_2,hfz4_3,hfz4_4,hfz4_5,hfz4_6⟩:=zc7 BK239.out)))
  go_ret
  exact ⟨ze_,zb_⟩
 ·rw [if_neg c2] at H
  have c2b0:decide (4 < (l0_6.length:Int))=false:=decide_eq_false c2
  have c2b1:decide (4 < l0_6.length)=false:=decide_eq_false (by omega)
  clear c2
  by_cases c5:a0_5=0
  ·rw [if_pos c5] at H
   have c5b0:(a0_5 == 0)=true:=beq_iff_eq.mpr c5
   have c5b1:(a0_5 != 0)=false:=bne_eq_false_iff_eq.mpr c5
   clear c5
   replace H:=Option.bind_eq_some_iff.mp H
   obtain ⟨t240,A60,H⟩:=H
   replace H:(some (t240 == 0))=some r:=H
   have A6:=zm A60
   clear A60
   obtain rfl:=Option.some.inj H
   go_enter Try.func41,Try.ntmps41
   go_wp2_with (first|((with_reducible refine gate_dst (N:=1) rfl ?_);refine zbx 1 #[.int .i64 a0_0,.int .i64 a0_1,.int .i64 a0_2,.int .i64 a0_3,.int .i64 a0_4,.int .i64 a0_5,.slice A0_6 l0_6.length c0_6] 24 ?_;intro gb239 hg w7 hbox hb;have n0_:=zkH HB hb;have n1_:=zm (hbox);have n2_:=zkG HB hg;have n3_:=zkG HB hg;clear HB;have HB:=n0_;have BK239:=n1_;have GW239:=n2_;have GE239:=n3_;clear n0_ n1_ n2_ n3_;clear hb hbox hg;obtain ⟨hcz8_0,hcz8_1,hcz8_2,hcz8_3,hcz8_4,hcz8_5,hcz8_6,hfz8_0,hfz8_1,hfz8_2,hfz8_3,hfz8_4,hfz8_5,hfz8_6⟩:=zc7 BK239.out)|(go_at_call 55;(with_reducible refine (slipwayref13_Check.calls k _ _ l0_6 t240 _ ?side1 ?side2 A6.out).mono ?_);(case side1=>exact zC HR0_6);(case side2=>exact HC0_6.out);rintro e w9 ⟨rfl,hb⟩;have n0_:=zkB BK239 hb;have n1_:=zkH HB hb;clear BK239 HB;have BK239:=n0_;have HB:=n1_;clear n0_ n1_;(try clear hb);(try clear hb2);(try clear hk);(try clear hi)))
   repeat (go_quiet (first|((with_reducible refine gate_dst (N:=1) rfl ?_);refine zbx 1 #[.int .i64 a0_0,.int .i64 a0_1,.int .i64 a0_2,.int .i64 a0_3,.int .i64 a0_4,.int .i64 a0_5,.slice A0_6 l0_6.length c0_6] 24 ?_;intro gb239 hg w7 hbox hb;have n0_:=zkH HB hb;have n1_:=zm (hbox);have n2_:=zkG HB hg;have n3_:=zkG HB hg;clear HB;have HB:=n0_;have BK239:=n1_;have GW239:=n2_;have GE239:=n3_;clear n0_ n1_ n2_ n3_;clear hb hbox hg;obtain ⟨hcz8_0,hcz8_1,hcz8_2,hcz8_3,hcz8_4,hcz8_5,hcz8_6,hfz8_0,hfz8_1,hfz8_2,hfz8_3,hfz8_4,hfz8_5,hfz8_6⟩:=zc7 BK239.out)|(go_at_call 55;(with_reducible refine (slipwayref13_Check.calls k _ _ l0_6 t240 _ ?side1 ?side2 A6.out).mono ?_);(case side1=>exact zC HR0_6);(case side2=>exact HC0_6.out);rintro e w9 ⟨rfl,hb⟩;have n0_:=zkB BK239 hb;have n1_:=zkH HB hb;clear BK239 HB;have BK239:=n0_;have HB:=n1_;clear n0_ n1_;(try clear hb);(try clear hb2);(try clear hk);(try clear hi)));try go_wp2_with (first|((with_reducible refine gate_dst (N:=1) rfl ?_);refine zbx 1 #[.int .i64 a0_0,.int .i64 a0_1,.int .i64 a0_2,.int .i64 a0_3,.int .i64 a0_4,.int .i64 a0_5,.slice A0_6 l0_6.length c0_6] 24 ?_;intro gb239 hg w7 hbox hb;have n0_:=zkH HB hb;have n1_:=zm (hbox);have n2_:=zkG HB hg;have n3_:=zkG HB hg;clear HB;have HB:=n0_;have BK239:=n1_;have GW239:=n2_;have GE239:=n3_;clear n0_ n1_ n2_ n3_;clear hb hbox hg;obtain ⟨hcz8_0,hcz8_1,hcz8_2,hcz8_3,hcz8_4,hcz8_5,hcz8_6,hfz8_0,hfz8_1,hfz8_2,hfz8_3,hfz8_4,hfz8_5,hfz8_6⟩:=zc7 BK239.out)|(go_at_call 55;(with_reducible refine (slipwayref13_Check.calls k _ _ l0_6 t240 _ ?side1 ?side2 A6.out).mono ?_);(case side1=>exact zC HR0_6);(case side2=>exact HC0_6.out);rintro e w9 ⟨rfl,hb⟩;have n0_:=zkB BK239 hb;have n1_:=zkH HB hb;clear BK239 HB;have BK239:=n0_;have HB:=n1_;clear n0_ n1_;(try clear hb);(try clear hb2);(try clear hk);(try clear hi))))
   go_ret
   exact ⟨ze_,zb_⟩
  ·rw [if_neg c5] at H
   have c5b0:(a0_5 == 0)=false:=beq_eq_false_iff_ne.mpr c5
   have c5b1:(a0_5 != 0)=true:=bne_iff_ne.mpr c5
   have H':=zm H
   clear H
   go_enter Try.func41,Try.ntmps41
   go_wp2_with (first|((with_reducible refine gate_dst (N:=1) rfl ?_);refine zbx 1 #[.int .i64 a0_0,.int .i64 a0_1,.int .i64 a0_2,.int .i64 a0_3,.int .i64 a0_4,.int .i64 a0_5,.slice A0_6 l0_6.length c0_6] 24 ?_;intro gb239 hg w10 hbox hb;have n0_:=zkH HB hb;have n1_:=zm (hbox);have n2_:=zkG HB hg;have n3_:=zkG HB hg;clear HB;have HB:=n0_;have BK239:=n1_;have GW239:=n2_;have GE239:=n3_;clear n0_ n1_ n2_ n3_;clear hb hbox hg;obtain ⟨hcz11_0,hcz11_1,hcz11_2,hcz11_3,hcz11_4,hcz11_5,hcz11_6,hfz11_0,hfz11_1,hfz11_2,hfz11_3,hfz11_4,hfz11_5,hfz11_6⟩:=zc7 BK239.out))
   repeat (go_quiet (first|((with_reducible refine gate_dst (N:=1) rfl ?_);refine zbx 1 #[.int .i64 a0_0,.int .i64 a0_1,.int .i64 a0_2,.int .i64 a0_3,.int .i64 a0_4,.int .i64 a0_5,.slice A0_6 l0_6.length c0_6] 24 ?_;intro gb239 hg w10 hbox hb;have n0_:=zkH HB hb;have n1_:=zm (hbox);have n2_:=zkG HB hg;have n3_:=zkG HB hg;clear HB;have HB:=n0_;have BK239:=n1_;have GW239:=n2_;have GE239:=n3_;clear n0_ n1_ n2_ n3_;clear hb hbox hg;obtain ⟨hcz11_0,hcz11_1,hcz11_2,hcz11_3,hcz11_4,hcz11_5,hcz11_6,hfz11_0,hfz11_1,hfz11_2,hfz11_3,hfz11_4,hfz11_5,hfz11_6⟩:=zc7 BK239.out));try go_wp2_with (first|((with_reducible refine gate_dst (N:=1) rfl ?_);refine zbx 1 #[.int .i64 a0_0,.int .i64 a0_1,.int .i64 a0_2,.int .i64 a0_3,.int .i64 a0_4,.int .i64 a0_5,.slice A0_6 l0_6.length c0_6] 24 ?_;intro gb239 hg w10 hbox hb;have n0_:=zkH HB hb;have n1_:=zm (hbox);have n2_:=zkG HB hg;have n3_:=zkG HB hg;clear HB;have HB:=n0_;have BK239:=n1_;have GW239:=n2_;have GE239:=n3_;clear n0_ n1_ n2_ n3_;clear hb hbox hg;obtain ⟨hcz11_0,hcz11_1,hcz11_2,hcz11_3,hcz11_4,hcz11_5,hcz11_6,hfz11_0,hfz11_1,hfz11_2,hfz11_3,hfz11_4,hfz11_5,hfz11_6⟩:=zc7 BK239.out)))
   go_loopg [3] k (fun kq v3 w'=>∃ (x3_1:Int),v3=.int .i64 x3_1∧Aside0 (slipwayref14_root.l0 kq x3_1 a0_0 a0_1 a0_2 a0_3 a0_4 a0_5 l0_6=some r)∧Aside0 (kq≤k)∧Aside0 (w'.heap[gb239]?=some (.cells #[.int .i64 a0_0,.int .i64 a0_1,.int .i64 a0_2,.int .i64 a0_3,.int .i64 a0_4,.int .i64 a0_5,(.slice A0_6 l0_6.length c0_6)] 24 (0,0)))∧Aside0 (Below w.heap.size w w'))
   case atStart=>exact ⟨(0),zs_,H',⟨Nat.le_refl _⟩,⟨zx_⟩,⟨zb_⟩⟩
   case round =>
    clear H'
    try clear c2
    try clear c2b0
    try clear c2b1
    try clear p2
    try clear c4
    try clear c5
    try clear c5b0
    try clear c5b1
    try clear hcz11_0
    try clear hcz11_1
    try clear hcz11_2
    try clear hcz11_3
    try clear hcz11_4
    try clear hcz11_5
    try clear hcz11_6
    try clear hcz4_0
    try clear hcz4_1
    try clear hcz4_2
    try clear hcz4_3
    try clear hcz4_4
    try clear hcz4_5
    try clear hcz4_6
    try clear hcz8_0
    try clear hcz8_1
    try clear hcz8_2
    try clear hcz8_3
    try clear hcz8_4
    try clear hcz8_5
    try clear hcz8_6
    try clear hfz11_0
    try clear hfz11_1
    try clear hfz11_2
    try clear hfz11_3
    try clear hfz11_4
    try clear hfz11_5
    try clear hfz11_6
    try clear hfz4_0
    try clear hfz4_1
    try clear hfz4_2
    try clear hfz4_3
    try clear hfz4_4
    try clear hfz4_5
    try clear hfz4_6
    try clear hfz8_0
    try clear hfz8_1
    try clear hfz8_2
    try clear hfz8_3
    try clear hfz8_4
    try clear hfz8_5
    try clear hfz8_6
    obtain ⟨x3_1,rfl,HA,HK1,BK239,HB⟩:=hrel
    cases gk with
    | zero=>exact absurd HA.out (by simp [slipwayref14_root.l0])
    | succ k1 =>
     have H:=HA.out
     clear HA
     simp only [slipwayref14_root.l0] at H
     by_cases c12:x3_1 < (l0_6.length:Int)
     ·rw [if_pos c12] at H
      have c12b0:decide (x3_1 < (l0_6.length:Int))=true:=decide_eq_true c12
      clear c12
      by_cases c13:0≤x3_1
      ·rw [if_pos c13] at H
       have c13b0:decide (0≤x3_1)=true:=decide_eq_true c13
       clear c13
       by_cases c14:((rd_T51 l0_6 x3_1).f0) < 0
       ·rw [if_pos c14] at H
        have c14b0:decide (((rd_T51 l0_6 x3_1).f0) < 0)=true:=decide_eq_true c14
        clear c14
        obtain rfl:=Option.some.inj H
        obtain ⟨hcz15_0,hcz15_1,hcz15_2,hcz15_3,hcz15_4,hcz15_5,hcz15_6,hfz15_0,hfz15_1,hfz15_2,hfz15_3,hfz15_4,hfz15_5,hfz15_6⟩:=zc7 BK239.out
        have p241:0≤(x3_1:Int):=za_
        have q241:x3_1 < (l0_6.length:Int):=za_
        obtain ⟨ad241,e241,hx241_0,hx241_1,hx241_2⟩:=at_T51 HR0_6.out x3_1 p241 q241
        cases e241
        replace hx241_0:=zhx HB hx241_0
        replace hx241_1:=zhx HB hx241_1
        replace hx241_2:=zhx HB hx241_2
        replace p241:=eq_true p241
        replace q241:=eq_true q241
        go_wp2_with (first|((with_reducible refine gate_dst (N:=4) rfl ?_);refine zbx 4 #[.int .i64 0,.int .i64 0,.int .i64 0] 51 ?_;intro gb242 hg w16 hbox hb;have n0_:=zkB BK239 hb;have n1_:=zkH HB hb;have n2_:=zm (hbox);have n3_:=zkG HB hg;have n4_:=zkG HB hg;have n5_:=zkN BK239 hg;have n6_:=zkM BK239 hg;clear BK239 HB;have BK239:=n0_;have HB:=n1_;have BK242:=n2_;have GW242:=n3_;have GE242:=n4_;have NB239_242:=n5_;have NB242_239:=n6_;clear n0_ n1_ n2_ n3_ n4_ n5_ n6_;clear hb hbox hg;have hnb17:=NB242_239.out;have hnc17:=NB239_242.out;obtain ⟨hcz18_0,hcz18_1,hcz18_2,hfz18_0,hfz18_1,hfz18_2⟩:=zc3 BK242.out))
        repeat (go_quiet (first|((with_reducible refine gate_dst (N:=4) rfl ?_);refine zbx 4 #[.int .i64 0,.int .i64 0,.int .i64 0] 51 ?_;intro gb242 hg w16 hbox hb;have n0_:=zkB BK239 hb;have n1_:=zkH HB hb;have n2_:=zm (hbox);have n3_:=zkG HB hg;have n4_:=zkG HB hg;have n5_:=zkN BK239 hg;have n6_:=zkM BK239 hg;clear BK239 HB;have BK239:=n0_;have HB:=n1_;have BK242:=n2_;have GW242:=n3_;have GE242:=n4_;have NB239_242:=n5_;have NB242_239:=n6_;clear n0_ n1_ n2_ n3_ n4_ n5_ n6_;clear hb hbox hg;have hnb17:=NB242_239.out;have hnc17:=NB239_242.out;obtain ⟨hcz18_0,hcz18_1,hcz18_2,hfz18_0,hfz18_1,hfz18_2⟩:=zc3 BK242.out));try go_wp2_with (first|((with_reducible refine gate_dst (N:=4) rfl ?_);refine zbx 4 #[.int .i64 0,.int .i64 0,.int .i64 0] 51 ?_;intro gb242 hg w16 hbox hb;have n0_:=zkB BK239 hb;have n1_:=zkH HB hb;have n2_:=zm (hbox);have n3_:=zkG HB hg;have n4_:=zkG HB hg;have n5_:=zkN BK239 hg;have n6_:=zkM BK239 hg;clear BK239 HB;have BK239:=n0_;have HB:=n1_;have BK242:=n2_;have GW242:=n3_;have GE242:=n4_;have NB239_242:=n5_;have NB242_239:=n6_;clear n0_ n1_ n2_ n3_ n4_ n5_ n6_;clear hb hbox hg;have hnb17:=NB242_239.out;have hnc17:=NB239_242.out;obtain ⟨hcz18_0,hcz18_1,hcz18_2,hfz18_0,hfz18_1,hfz18_2⟩:=zc3 BK242.out)))
        go_ret
        exact ⟨ze_,zb_⟩
       ·rw [if_neg c14] at H
        have c14b0:decide (((rd_T51 l0_6 x3_1).f0) < 0)=false:=decide_eq_false c14
        clear c14
        by_cases c19:((rd_T51 l0_6 x3_1).f0) ≥ 65536
        ·rw [if_pos c19] at H
         have c19b0:decide (65536≤((rd_T51 l0_6 x3_1).f0))=true:=decide_eq_true c19
         clear c19
         obtain rfl:=Option.some.inj H
         obtain ⟨hcz20_0,hcz20_1,hcz20_2,hcz20_3,hcz20_4,hcz20_5,hcz20_6,hfz20_0,hfz20_1,hfz20_2,hfz20_3,hfz20_4,hfz20_5,hfz20_6⟩:=zc7 BK239.out
         have p241:0≤(x3_1:Int):=za_
         have q241:x3_1 < (l0_6.length:Int):=za_
         obtain ⟨ad241,e241,hx241_0,hx241_1,hx241_2⟩:=at_T51 HR0_6.out x3_1 p241 q241
         cases e241
         replace hx241_0:=zhx HB hx241_0
         replace hx241_1:=zhx HB hx241_1
         replace hx241_2:=zhx HB hx241_2
         replace p241:=eq_true p241
         replace q241:=eq_true q241
         go_wp2_with (first|((with_reducible refine gate_dst (N:=4) rfl ?_);refine zbx 4 #[.int .i64 0,.int .i64 0,.int .i64 0] 51 ?_;intro gb242 hg w21 hbox hb;have n0_:=zkB BK239 hb;have n1_:=zkH HB hb;have n2_:=zm (hbox);have n3_:=zkG HB hg;have n4_:=zkG HB hg;have n5_:=zkN BK239 hg;have n6_:=zkM BK239 hg;clear BK239 HB;have BK239:=n0_;have HB:=n1_;have BK242:=n2_;have GW242:=n3_;have GE242:=n4_;have NB239_242:=n5_;have NB242_239:=n6_;clear n0_ n1_ n2_ n3_ n4_ n5_ n6_;clear hb hbox hg;have hnb22:=NB242_239.out;have hnc22:=NB239_242.out;obtain ⟨hcz23_0,hcz23_1,hcz23_2,hfz23_0,hfz23_1,hfz23_2⟩:=zc3 BK242.out))
         repeat (go_quiet (first|((with_reducible refine gate_dst (N:=4) rfl ?_);refine zbx 4 #[.int .i64 0,.int .i64 0,.int .i64 0] 51 ?_;intro gb242 hg w21 hbox hb;have n0_:=zkB BK239 hb;have n1_:=zkH HB hb;have n2_:=zm (hbox);have n3_:=zkG HB hg;have n4_:=zkG HB hg;have n5_:=zkN BK239 hg;have n6_:=zkM BK239 hg;clear BK239 HB;have BK239:=n0_;have HB:=n1_;have BK242:=n2_;have GW242:=n3_;have GE242:=n4_;have NB239_242:=n5_;have NB242_239:=n6_;clear n0_ n1_ n2_ n3_ n4_ n5_ n6_;clear hb hbox hg;have hnb22:=NB242_239.out;have hnc22:=NB239_242.out;obtain ⟨hcz23_0,hcz23_1,hcz23_2,hfz23_0,hfz23_1,hfz23_2⟩:=zc3 BK242.out));try go_wp2_with (first|((with_reducible refine gate_dst (N:=4) rfl ?_);refine zbx 4 #[.int .i64 0,.int .i64 0,.int .i64 0] 51 ?_;intro gb242 hg w21 hbox hb;have n0_:=zkB BK239 hb;have n1_:=zkH HB hb;have n2_:=zm (hbox);have n3_:=zkG HB hg;have n4_:=zkG HB hg;have n5_:=zkN BK239 hg;have n6_:=zkM BK239 hg;clear BK239 HB;have BK239:=n0_;have HB:=n1_;have BK242:=n2_;have GW242:=n3_;have GE242:=n4_;have NB239_242:=n5_;have NB242_239:=n6_;clear n0_ n1_ n2_ n3_ n4_ n5_ n6_;clear hb hbox hg;have hnb22:=NB242_239.out;have hnc22:=NB239_242.out;obtain ⟨hcz23_0,hcz23_1,hcz23_2,hfz23_0,hfz23_1,hfz23_2⟩:=zc3 BK242.out)))
         go_ret
         exact ⟨ze_,zb_⟩
        ·rw [if_neg c19] at H
         have c19b0:decide (65536≤((rd_T51 l0_6 x3_1).f0))=false:=decide_eq_false c19
         clear c19
         by_cases c24:((rd_T51 l0_6 x3_1).f1)=0
         ·rw [if_pos c24] at H
          have c24b0:(((rd_T51 l0_6 x3_1).f1) == 0)=true:=beq_iff_eq.mpr c24
          have c24b1:(((rd_T51 l0_6 x3_1).f1) != 0)=false:=bne_eq_false_iff_eq.mpr c24
          clear c24
          by_cases c25:((rd_T51 l0_6 x3_1).f2) < 1
          ·rw [if_pos c25] at H
           have c25b0:decide (((rd_T51 l0_6 x3_1).f2) < 1)=true:=decide_eq_true c25
           clear c25
           obtain rfl:=Option.some.inj H
           obtain ⟨hcz26_0,hcz26_1,hcz26_2,hcz26_3,hcz26_4,hcz26_5,hcz26_6,hfz26_0,hfz26_1,hfz26_2,hfz26_3,hfz26_4,hfz26_5,hfz26_6⟩:=zc7 BK239.out
           have p241:0≤(x3_1:Int):=za_
           have q241:x3_1 < (l0_6.length:Int):=za_
           obtain ⟨ad241,e241,hx241_0,hx241_1,hx241_2⟩:=at_T51 HR0_6.out x3_1 p241 q241
           cases e241
           replace hx241_0:=zhx HB hx241_0
           replace hx241_1:=zhx HB hx241_1
           replace hx241_2:=zhx HB hx241_2
           replace p241:=eq_true p241
           replace q241:=eq_true q241
           go_wp2_with (first|((with_reducible refine gate_dst (N:=4) rfl ?_);refine zbx 4 #[.int .i64 0,.int .i64 0,.int .i64 0] 51 ?_;intro gb242 hg w27 hbox hb;have n0_:=zkB BK239 hb;have n1_:=zkH HB hb;have n2_:=zm (hbox);have n3_:=zkG HB hg;have n4_:=zkG HB hg;have n5_:=zkN BK239 hg;have n6_:=zkM BK239 hg;clear BK239 HB;have BK239:=n0_;have HB:=n1_;have BK242:=n2_;have GW242:=n3_;have GE242:=n4_;have NB239_242:=n5_;have NB242_239:=n6_;clear n0_ n1_ n2_ n3_ n4_ n5_ n6_;clear hb hbox hg;have hnb28:=NB242_239.out;have hnc28:=NB239_242.out;obtain ⟨hcz29_0,hcz29_1,hcz29_2,hfz29_0,hfz29_1,hfz29_2⟩:=zc3 BK242.out))
           repeat (go_quiet (first|((with_reducible refine gate_dst (N:=4) rfl ?_);refine zbx 4 #[.int .i64 0,.int .i64 0,.int .i64 0] 51 ?_;intro gb242 hg w27 hbox hb;have n0_:=zkB BK239 hb;have n1_:=zkH HB hb;have n2_:=zm (hbox);have n3_:=zkG HB hg;have n4_:=zkG HB hg;have n5_:=zkN BK239 hg;have n6_:=zkM BK239 hg;clear BK239 HB;have BK239:=n0_;have HB:=n1_;have BK242:=n2_;have GW242:=n3_;have GE242:=n4_;have NB239_242:=n5_;have NB242_239:=n6_;clear n0_ n1_ n2_ n3_ n4_ n5_ n6_;clear hb hbox hg;have hnb28:=NB242_239.out;have hnc28:=NB239_242.out;obtain ⟨hcz29_0,hcz29_1,hcz29_2,hfz29_0,hfz29_1,hfz29_2⟩:=zc3 BK242.out));try go_wp2_with (first|((with_reducible refine gate_dst (N:=4) rfl ?_);refine zbx 4 #[.int .i64 0,.int .i64 0,.int .i64 0] 51 ?_;intro gb242 hg w27 hbox hb;have n0_:=zkB BK239 hb;have n1_:=zkH HB hb;have n2_:=zm (hbox);have n3_:=zkG HB hg;have n4_:=zkG HB hg;have n5_:=zkN BK239 hg;have n6_:=zkM BK239 hg;clear BK239 HB;have BK239:=n0_;have HB:=n1_;have BK242:=n2_;have GW242:=n3_;have GE242:=n4_;have NB239_242:=n5_;have NB242_239:=n6_;clear n0_ n1_ n2_ n3_ n4_ n5_ n6_;clear hb hbox hg;have hnb28:=NB242_239.out;have hnc28:=NB239_242.out;obtain ⟨hcz29_0,hcz29_1,hcz29_2,hfz29_0,hfz29_1,hfz29_2⟩:=zc3 BK242.out)))
           go_ret
           exact ⟨ze_,zb_⟩
          ·rw [if_neg c25] at H
           have c25b0:decide (((rd_T51 l0_6 x3_1).f2) < 1)=false:=decide_eq_false c25
           clear c25
           by_cases c30:((rd_T51 l0_6 x3_1).f2) ≥ 8192
           ·rw [if_pos c30] at H
            have c30b0:decide (8192≤((rd_T51 l0_6 x3_1).f2))=true:=decide_eq_true c30
            clear c30
            obtain rfl:=Option.some.inj H
            obtain ⟨hcz31_0,hcz31_1,hcz31_2,hcz31_3,hcz31_4,hcz31_5,hcz31_6,hfz31_0,hfz31_1,hfz31_2,hfz31_3,hfz31_4,hfz31_5,hfz31_6⟩:=zc7 BK239.out
            have p241:0≤(x3_1:Int):=za_
            have q241:x3_1 < (l0_6.length:Int):=za_
            obtain ⟨ad241,e241,hx241_0,hx241_1,hx241_2⟩:=at_T51 HR0_6.out x3_1 p241 q241
            cases e241
            replace hx241_0:=zhx HB hx241_0
            replace hx241_1:=zhx HB hx241_1
            replace hx241_2:=zhx HB hx241_2
            replace p241:=eq_true p241
            replace q241:=eq_true q241
            go_wp2_with (first|((with_reducible refine gate_dst (N:=4) rfl ?_);refine zbx 4 #[.int .i64 0,.int .i64 0,.int .i64 0] 51 ?_;intro gb242 hg w32 hbox hb;have n0_:=zkB BK239 hb;have n1_:=zkH HB hb;have n2_:=zm (hbox);have n3_:=zkG HB hg;have n4_:=zkG HB hg;have n5_:=zkN BK239 hg;have n6_:=zkM BK239 hg;clear BK239 HB;have BK239:=n0_;have HB:=n1_;have BK242:=n2_;have GW242:=n3_;have GE242:=n4_;have NB239_242:=n5_;have NB242_239:=n6_;clear n0_ n1_ n2_ n3_ n4_ n5_ n6_;clear hb hbox hg;have hnb33:=NB242_239.out;have hnc33:=NB239_242.out;obtain ⟨hcz34_0,hcz34_1,hcz34_2,hfz34_0,hfz34_1,hfz34_2⟩:=zc3 BK242.out))
            repeat (go_quiet (first|((with_reducible refine gate_dst (N:=4) rfl ?_);refine zbx 4 #[.int .i64 0,.int .i64 0,.int .i64 0] 51 ?_;intro gb242 hg w32 hbox hb;have n0_:=zkB BK239 hb;have n1_:=zkH HB hb;have n2_:=zm (hbox);have n3_:=zkG HB hg;have n4_:=zkG HB hg;have n5_:=zkN BK239 hg;have n6_:=zkM BK239 hg;clear BK239 HB;have BK239:=n0_;have HB:=n1_;have BK242:=n2_;have GW242:=n3_;have GE242:=n4_;have NB239_242:=n5_;have NB242_239:=n6_;clear n0_ n1_ n2_ n3_ n4_ n5_ n6_;clear hb hbox hg;have hnb33:=NB242_239.out;have hnc33:=NB239_242.out;obtain ⟨hcz34_0,hcz34_1,hcz34_2,hfz34_0,hfz34_1,hfz34_2⟩:=zc3 BK242.out));try go_wp2_with (first|((with_reducible refine gate_dst (N:=4) rfl ?_);refine zbx 4 #[.int .i64 0,.int .i64 0,.int .i64 0] 51 ?_;intro gb242 hg w32 hbox hb;have n0_:=zkB BK239 hb;have n1_:=zkH HB hb;have n2_:=zm (hbox);have n3_:=zkG HB hg;have n4_:=zkG HB hg;have n5_:=zkN BK239 hg;have n6_:=zkM BK239 hg;clear BK239 HB;have BK239:=n0_;have HB:=n1_;have BK242:=n2_;have GW242:=n3_;have GE242:=n4_;have NB239_242:=n5_;have NB242_239:=n6_;clear n0_ n1_ n2_ n3_ n4_ n5_ n6_;clear hb hbox hg;have hnb33:=NB242_239.out;have hnc33:=NB239_242.out;obtain ⟨hcz34_0,hcz34_1,hcz34_2,hfz34_0,hfz34_1,hfz34_2⟩:=zc3 BK242.out)))
            go_ret
            exact ⟨ze_,zb_⟩
           ·rw [if_neg c30] at H
            have c30b0:decide (8192≤((rd_T51 l0_6 x3_1).f2))=false:=decide_eq_false c30
            clear c30
            by_cases c35:x3_1 > 0
            ·rw [if_pos c35] at H
             have c35b0:decide (0 < x3_1)=true:=decide_eq_true c35
             clear c35
             obtain ⟨ji36,hji36⟩:∃ j_:Int,(wrap64 (x3_1 - 1))=j_:=⟨_,rfl⟩
             replace H:(if 0≤(ji36) then (if (ji36) < (l0_6.length:Int) then (if ((rd_T51 l0_6 x3_1).f0)≤((rd_T51 l0_6 (ji36)).f0) then (some false) else (slipwayref14_root.l0 k1 (wrap64 (x3_1 + 1)) a0_0 a0_1 a0_2 a0_3 a0_4 a0_5 l0_6)) else (none)) else (none))=some r:=by first|(rw [hji36] at H;exact H)|(simp only [hji36] at H ⊢;exact H)
             have hji36w:(IntKind.i64.wrap (x3_1 - 1))=ji36:=(i64_w _).trans hji36
             by_cases c37:0≤(ji36)
             ·rw [if_pos c37] at H
              have c37b0:decide (0≤(ji36))=true:=decide_eq_true c37
              clear c37
              by_cases c38:(ji36) < (l0_6.length:Int)
              ·rw [if_pos c38] at H
               have c38b0:decide ((ji36) < (l0_6.length:Int))=true:=decide_eq_true c38
               clear c38
               by_cases c39:((rd_T51 l0_6 x3_1).f0)≤((rd_T51 l0_6 (ji36)).f0)
               ·rw [if_pos c39] at H
                have c39b0:decide (((rd_T51 l0_6 x3_1).f0)≤((rd_T51 l0_6 (ji36)).f0))=true:=decide_eq_true c39
                clear c39
                obtain rfl:=Option.some.inj H
                obtain ⟨hcz40_0,hcz40_1,hcz40_2,hcz40_3,hcz40_4,hcz40_5,hcz40_6,hfz40_0,hfz40_1,hfz40_2,hfz40_3,hfz40_4,hfz40_5,hfz40_6⟩:=zc7 BK239.out
                have p241:0≤(x3_1:Int):=za_
                have q241:x3_1 < (l0_6.length:Int):=za_
                obtain ⟨ad241,e241,hx241_0,hx241_1,hx241_2⟩:=at_T51 HR0_6.out x3_1 p241 q241
                cases e241
                replace hx241_0:=zhx HB hx241_0
                replace hx241_1:=zhx HB hx241_1
                replace hx241_2:=zhx HB hx241_2
                replace p241:=eq_true p241
                replace q241:=eq_true q241
                go_wp2_with (first|((with_reducible refine gate_dst (N:=4) rfl ?_);refine zbx 4 #[.int .i64 0,.int .i64 0,.int .i64 0] 51 ?_;intro gb242 hg w41 hbox hb;have n0_:=zkB BK239 hb;have n1_:=zkH HB hb;have n2_:=zm (hbox);have n3_:=zkG HB hg;have n4_:=zkG HB hg;have n5_:=zkN BK239 hg;have n6_:=zkM BK239 hg;clear BK239 HB;have BK239:=n0_;have HB:=n1_;have BK242:=n2_;have GW242:=n3_;have GE242:=n4_;have NB239_242:=n5_;have NB242_239:=n6_;clear n0_ n1_ n2_ n3_ n4_ n5_ n6_;clear hb hbox hg;have hnb42:=NB242_239.out;have hnc42:=NB239_242.out;obtain ⟨hcz43_0,hcz43_1,hcz43_2,hfz43_0,hfz43_1,hfz43_2⟩:=zc3 BK242.out;obtain ⟨hcz44_0,hcz44_1,hcz44_2,hcz44_3,hcz44_4,hcz44_5,hcz44_6,hfz44_0,hfz44_1,hfz44_2,hfz44_3,hfz44_4,hfz44_5,hfz44_6⟩:=zc7 BK239.out;have p243:0≤((ji36):Int):=za_;have q243:(ji36) < (l0_6.length:Int):=za_;obtain ⟨ad243,e243,hx243_0,hx243_1,hx243_2⟩:=at_T51 HR0_6.out (ji36) p243 q243;obtain rfl:ad241=ad243:=(by injection e243);have hn243_0:ad241.block≠gb242:=Nat.ne_of_lt (Nat.lt_of_lt_of_le (by have:=World.block_lt_of_cell? _ _ hx243_0;first|rwa [add_block] at this|exact this) GW242.out);have hn243_1:ad241.block≠gb242:=Nat.ne_of_lt (Nat.lt_of_lt_of_le (by have:=World.block_lt_of_cell? _ _ hx243_0;first|rwa [add_block] at this|exact this) GW242.out);have hn243_2:ad241.block≠gb242:=Nat.ne_of_lt (Nat.lt_of_lt_of_le (by have:=World.block_lt_of_cell? _ _ hx243_0;first|rwa [add_block] at this|exact this) GW242.out);replace hx243_0:=zhx HB hx243_0;replace hx243_1:=zhx HB hx243_1;replace hx243_2:=zhx HB hx243_2;replace hx243_0:=(cell_far (p:=⟨gb242,0,none⟩) (by first|(rw [add_block];exact hn243_0)|(show (Addr.add _ _).block≠_;rw [add_block];exact hn243_0)|exact hn243_0) (.int .i64 ((rd_T51 l0_6 x3_1).f0))).trans hx243_0;replace hx243_1:=(cell_far (p:=⟨gb242,0,none⟩) (by first|(rw [add_block];exact hn243_0)|(show (Addr.add _ _).block≠_;rw [add_block];exact hn243_0)|exact hn243_0) (.int .i64 ((rd_T51 l0_6 x3_1).f0))).trans hx243_1;replace hx243_2:=(cell_far (p:=⟨gb242,0,none⟩) (by first|(rw [add_block];exact hn243_0)|(show (Addr.add _ _).block≠_;rw [add_block];exact hn243_0)|exact hn243_0) (.int .i64 ((rd_T51 l0_6 x3_1).f0))).trans hx243_2;replace hx243_0:=(cell_far (p:=⟨gb242,1,none⟩) (by first|(rw [add_block];exact hn243_1)|(show (Addr.add _ _).block≠_;rw [add_block];exact hn243_1)|exact hn243_1) (.int .i64 ((rd_T51 l0_6 x3_1).f1))).trans hx243_0;replace hx243_1:=(cell_far (p:=⟨gb242,1,none⟩) (by first|(rw [add_block];exact hn243_1)|(show (Addr.add _ _).block≠_;rw [add_block];exact hn243_1)|exact hn243_1) (.int .i64 ((rd_T51 l0_6 x3_1).f1))).trans hx243_1;replace hx243_2:=(cell_far (p:=⟨gb242,1,none⟩) (by first|(rw [add_block];exact hn243_1)|(show (Addr.add _ _).block≠_;rw [add_block];exact hn243_1)|exact hn243_1) (.int .i64 ((rd_T51 l0_6 x3_1).f1))).trans hx243_2;replace hx243_0:=(cell_far (p:=⟨gb242,2,none⟩) (by first|(rw [add_block];exact hn243_2)|(show (Addr.add _ _).block≠_;rw [add_block];exact hn243_2)|exact hn243_2) (.int .i64 ((rd_T51 l0_6 x3_1).f2))).trans hx243_0;replace hx243_1:=(cell_far (p:=⟨gb242,2,none⟩) (by first|(rw [add_block];exact hn243_2)|(show (Addr.add _ _).block≠_;rw [add_block];exact hn243_2)|exact hn243_2) (.int .i64 ((rd_T51 l0_6 x3_1).f2))).trans hx243_1;replace hx243_2:=(cell_far (p:=⟨gb242,2,none⟩) (by first|(rw [add_block];exact hn243_2)|(show (Addr.add _ _).block≠_;rw [add_block];exact hn243_2)|exact hn243_2) (.int .i64 ((rd_T51 l0_6 x3_1).f2))).trans hx243_2;(try have hy243_0:=fun (n_:Nat)=>(show (((((w41.drewN n_).setCell ⟨gb242,0,none⟩ (.int .i64 ((rd_T51 l0_6 x3_1).f0))).setCell ⟨gb242,1,none⟩ (.int .i64 ((rd_T51 l0_6 x3_1).f1))).setCell ⟨gb242,2,none⟩ (.int .i64 ((rd_T51 l0_6 x3_1).f2)))).cell? _=some _ from hx243_0));(try have hy243_1:=fun (n_:Nat)=>(show (((((w41.drewN n_).setCell ⟨gb242,0,none⟩ (.int .i64 ((rd_T51 l0_6 x3_1).f0))).setCell ⟨gb242,1,none⟩ (.int .i64 ((rd_T51 l0_6 x3_1).f1))).setCell ⟨gb242,2,none⟩ (.int .i64 ((rd_T51 l0_6 x3_1).f2)))).cell? _=some _ from hx243_1));(try have hy243_2:=fun (n_:Nat)=>(show (((((w41.drewN n_).setCell ⟨gb242,0,none⟩ (.int .i64 ((rd_T51 l0_6 x3_1).f0))).setCell ⟨gb242,1,none⟩ (.int .i64 ((rd_T51 l0_6 x3_1).f1))).setCell ⟨gb242,2,none⟩ (.int .i64 ((rd_T51 l0_6 x3_1).f2)))).cell? _=some _ from hx243_2));clear hn243_0 hn243_1 hn243_2;replace p243:=eq_true p243;replace q243:=eq_true q243))
                repeat (go_quiet (first|((with_reducible refine gate_dst (N:=4) rfl ?_);refine zbx 4 #[.int .i64 0,.int .i64 0,.int .i64 0] 51 ?_;intro gb242 hg w41 hbox hb;have n0_:=zkB BK239 hb;have n1_:=zkH HB hb;have n2_:=zm (hbox);have n3_:=zkG HB hg;have n4_:=zkG HB hg;have n5_:=zkN BK239 hg;have n6_:=zkM BK239 hg;clear BK239 HB;have BK239:=n0_;have HB:=n1_;have BK242:=n2_;have GW242:=n3_;have GE242:=n4_;have NB239_242:=n5_;have NB242_239:=n6_;clear n0_ n1_ n2_ n3_ n4_ n5_ n6_;clear hb hbox hg;have hnb42:=NB242_239.out;have hnc42:=NB239_242.out;obtain ⟨hcz43_0,hcz43_1,hcz43_2,hfz43_0,hfz43_1,hfz43_2⟩:=zc3 BK242.out;obtain ⟨hcz44_0,hcz44_1,hcz44_2,hcz44_3,hcz44_4,hcz44_5,hcz44_6,hfz44_0,hfz44_1,hfz44_2,hfz44_3,hfz44_4,hfz44_5,hfz44_6⟩:=zc7 BK239.out;have p243:0≤((ji36):Int):=za_;have q243:(ji36) < (l0_6.length:Int):=za_;obtain ⟨ad243,e243,hx243_0,hx243_1,hx243_2⟩:=at_T51 HR0_6.out (ji36) p243 q243;obtain rfl:ad241=ad243:=(by injection e243);have hn243_0:ad241.block≠gb242:=Nat.ne_of_lt (Nat.lt_of_lt_of_le (by have:=World.block_lt_of_cell? _ _ hx243_0;first|rwa [add_block] at this|exact this) GW242.out);have hn243_1:ad241.block≠gb242:=Nat.ne_of_lt (Nat.lt_of_lt_of_le (by have:=World.block_lt_of_cell? _ _ hx243_0;first|rwa [add_block] at this|exact this) GW242.out);have hn243_2:ad241.block≠gb242:=Nat.ne_of_lt (Nat.lt_of_lt_of_le (by have:=World.block_lt_of_cell? _ _ hx243_0;first|rwa [add_block] at this|exact this) GW242.out);replace hx243_0:=zhx HB hx243_0;replace hx243_1:=zhx HB hx243_1;replace hx243_2:=zhx HB hx243_2;replace hx243_0:=(cell_far (p:=⟨gb242,0,none⟩) (by first|(rw [add_block];exact hn243_0)|(show (Addr.add _ _).block≠_;rw [add_block];exact hn243_0)|exact hn243_0) (.int .i64 ((rd_T51 l0_6 x3_1).f0))).trans hx243_0;replace hx243_1:=(cell_far (p:=⟨gb242,0,none⟩) (by first|(rw [add_block];exact hn243_0)|(show (Addr.add _ _).block≠_;rw [add_block];exact hn243_0)|exact hn243_0) (.int .i64 ((rd_T51 l0_6 x3_1).f0))).trans hx243_1;replace hx243_2:=(cell_far (p:=⟨gb242,0,none⟩) (by first|(rw [add_block];exact hn243_0)|(show (Addr.add _ _).block≠_;rw [add_block];exact hn243_0)|exact hn243_0) (.int .i64 ((rd_T51 l0_6 x3_1).f0))).trans hx243_2;replace hx243_0:=(cell_far (p:=⟨gb242,1,none⟩) (by first|(rw [add_block];exact hn243_1)|(show (Addr.add _ _).block≠_;rw [add_block];exact hn243_1)|exact hn243_1) (.int .i64 ((rd_T51 l0_6 x3_1).f1))).trans hx243_0;replace hx243_1:=(cell_far (p:=⟨gb242,1,none⟩) (by first|(rw [add_block];exact hn243_1)|(show (Addr.add _ _).block≠_;rw [add_block];exact hn243_1)|exact hn243_1) (.int .i64 ((rd_T51 l0_6 x3_1).f1))).trans hx243_1;replace hx243_2:=(cell_far (p:=⟨gb242,1,none⟩) (by first|(rw [add_block];exact hn243_1)|(show (Addr.add _ _).block≠_;rw [add_block];exact hn243_1)|exact hn243_1) (.int .i64 ((rd_T51 l0_6 x3_1).f1))).trans hx243_2;replace hx243_0:=(cell_far (p:=⟨gb242,2,none⟩) (by first|(rw [add_block];exact hn243_2)|(show (Addr.add _ _).block≠_;rw [add_block];exact hn243_2)|exact hn243_2) (.int .i64 ((rd_T51 l0_6 x3_1).f2))).trans hx243_0;replace hx243_1:=(cell_far (p:=⟨gb242,2,none⟩) (by first|(rw [add_block];exact hn243_2)|(show (Addr.add _ _).block≠_;rw [add_block];exact hn243_2)|exact hn243_2) (.int .i64 ((rd_T51 l0_6 x3_1).f2))).trans hx243_1;replace hx243_2:=(cell_far (p:=⟨gb242,2,none⟩) (by first|(rw [add_block];exact hn243_2)|(show (Addr.add _ _).block≠_;rw [add_block];exact hn243_2)|exact hn243_2) (.int .i64 ((rd_T51 l0_6 x3_1).f2))).trans hx243_2;(try have hy243_0:=fun (n_:Nat)=>(show (((((w41.drewN n_).setCell ⟨gb242,0,none⟩ (.int .i64 ((rd_T51 l0_6 x3_1).f0))).setCell ⟨gb242,1,none⟩ (.int .i64 ((rd_T51 l0_6 x3_1).f1))).setCell ⟨gb242,2,none⟩ (.int .i64 ((rd_T51 l0_6 x3_1).f2)))).cell? _=some _ from hx243_0));(try have hy243_1:=fun (n_:Nat)=>(show (((((w41.drewN n_).setCell ⟨gb242,0,none⟩ (.int .i64 ((rd_T51 l0_6 x3_1).f0))).setCell ⟨gb242,1,none⟩ (.int .i64 ((rd_T51 l0_6 x3_1).f1))).setCell ⟨gb242,2,none⟩ (.int .i64 ((rd_T51 l0_6 x3_1).f2)))).cell? _=some _ from hx243_1));(try have hy243_2:=fun (n_:Nat)=>(show (((((w41.drewN n_).setCell ⟨gb242,0,none⟩ (.int .i64 ((rd_T51 l0_6 x3_1).f0))).setCell ⟨gb242,1,none⟩ (.int .i64 ((rd_T51 l0_6 x3_1).f1))).setCell ⟨gb242,2,none⟩ (.int .i64 ((rd_T51 l0_6 x3_1).f2)))).cell? _=some _ from hx243_2));clear hn243_0 hn243_1 hn243_2;replace p243:=eq_true p243;replace q243:=eq_true q243));try go_wp2_with (first|((with_reducible refine gate_dst (N:=4) rfl ?_);refine zbx 4 #[.int .i64 0,.int .i64 0,.int .i64 0] 51 ?_;intro gb242 hg w41 hbox hb;have n0_:=zkB BK239 hb;have n1_:=zkH HB hb;have n2_:=zm (hbox);have n3_:=zkG HB hg;have n4_:=zkG HB hg;have n5_:=zkN BK239 hg;have n6_:=zkM BK239 hg;clear BK239 HB;have BK239:=n0_;have HB:=n1_;have BK242:=n2_;have GW242:=n3_;have GE242:=n4_;have NB239_242:=n5_;have NB242_239:=n6_;clear n0_ n1_ n2_ n3_ n4_ n5_ n6_;clear hb hbox hg;have hnb42:=NB242_239.out;have hnc42:=NB239_242.out;obtain ⟨hcz43_0,hcz43_1,hcz43_2,hfz43_0,hfz43_1,hfz43_2⟩:=zc3 BK242.out;obtain ⟨hcz44_0,hcz44_1,hcz44_2,hcz44_3,hcz44_4,hcz44_5,hcz44_6,hfz44_0,hfz44_1,hfz44_2,hfz44_3,hfz44_4,hfz44_5,hfz44_6⟩:=zc7 BK239.out;have p243:0≤((ji36):Int):=za_;have q243:(ji36) < (l0_6.length:Int):=za_;obtain ⟨ad243,e243,hx243_0,hx243_1,hx243_2⟩:=at_T51 HR0_6.out (ji36) p243 q243;obtain rfl:ad241=ad243:=(by injection e243);have hn243_0:ad241.block≠gb242:=Nat.ne_of_lt (Nat.lt_of_lt_of_le (by have:=World.block_lt_of_cell? _ _ hx243_0;first|rwa [add_block] at this|exact this) GW242.out);have hn243_1:ad241.block≠gb242:=Nat.ne_of_lt (Nat.lt_of_lt_of_le (by have:=World.block_lt_of_cell? _ _ hx243_0;first|rwa [add_block] at this|exact this) GW242.out);have hn243_2:ad241.block≠gb242:=Nat.ne_of_lt (Nat.lt_of_lt_of_le (by have:=World.block_lt_of_cell? _ _ hx243_0;first|rwa [add_block] at this|exact this) GW242.out);replace hx243_0:=zhx HB hx243_0;replace hx243_1:=zhx HB hx243_1;replace hx243_2:=zhx HB hx243_2;replace hx243_0:=(cell_far (p:=⟨gb242,0,none⟩) (by first|(rw [add_block];exact hn243_0)|(show (Addr.add _ _).block≠_;rw [add_block];exact hn243_0)|exact hn243_0) (.int .i64 ((rd_T51 l0_6 x3_1).f0))).trans hx243_0;replace hx243_1:=(cell_far (p:=⟨gb242,0,none⟩) (by first|(rw [add_block];exact hn243_0)|(show (Addr.add _ _).block≠_;rw [add_block];exact hn243_0)|exact hn243_0) (.int .i64 ((rd_T51 l0_6 x3_1).f0))).trans hx243_1;replace hx243_2:=(cell_far (p:=⟨gb242,0,none⟩) (by first|(rw [add_block];exact hn243_0)|(show (Addr.add _ _).block≠_;rw [add_block];exact hn243_0)|exact hn243_0) (.int .i64 ((rd_T51 l0_6 x3_1).f0))).trans hx243_2;replace hx243_0:=(cell_far (p:=⟨gb242,1,none⟩) (by first|(rw [add_block];exact hn243_1)|(show (Addr.add _ _).block≠_;rw [add_block];exact hn243_1)|exact hn243_1) (.int .i64 ((rd_T51 l0_6 x3_1).f1))).trans hx243_0;replace hx243_1:=(cell_far (p:=⟨gb242,1,none⟩) (by first|(rw [add_block];exact hn243_1)|(show (Addr.add _ _).block≠_;rw [add_block];exact hn243_1)|exact hn243_1) (.int .i64 ((rd_T51 l0_6 x3_1).f1))).trans hx243_1;replace hx243_2:=(cell_far (p:=⟨gb242,1,none⟩) (by first|(rw [add_block];exact hn243_1)|(show (Addr.add _ _).block≠_;rw [add_block];exact hn243_1)|exact hn243_1) (.int .i64 ((rd_T51 l0_6 x3_1).f1))).trans hx243_2;replace hx243_0:=(cell_far (p:=⟨gb242,2,none⟩) (by first|(rw [add_block];exact hn243_2)|(show (Addr.add _ _).block≠_;rw [add_block];exact hn243_2)|exact hn243_2) (.int .i64 ((rd_T51 l0_6 x3_1).f2))).trans hx243_0;replace hx243_1:=(cell_far (p:=⟨gb242,2,none⟩) (by first|(rw [add_block];exact hn243_2)|(show (Addr.add _ _).block≠_;rw [add_block];exact hn243_2)|exact hn243_2) (.int .i64 ((rd_T51 l0_6 x3_1).f2))).trans hx243_1;replace hx243_2:=(cell_far (p:=⟨gb242,2,none⟩) (by first|(rw [add_block];exact hn243_2)|(show (Addr.add _ _).block≠_;rw [add_block];exact hn243_2)|exact hn243_2) (.int .i64 ((rd_T51 l0_6 x3_1).f2))).trans hx243_2;(try have hy243_0:=fun (n_:Nat)=>(show (((((w41.drewN n_).setCell ⟨gb242,0,none⟩ (.int .i64 ((rd_T51 l0_6 x3_1).f0))).setCell ⟨gb242,1,none⟩ (.int .i64 ((rd_T51 l0_6 x3_1).f1))).setCell ⟨gb242,2,none⟩ (.int .i64 ((rd_T51 l0_6 x3_1).f2)))).cell? _=some _ from hx243_0));(try have hy243_1:=fun (n_:Nat)=>(show (((((w41.drewN n_).setCell ⟨gb242,0,none⟩ (.int .i64 ((rd_T51 l0_6 x3_1).f0))).setCell ⟨gb242,1,none⟩ (.int .i64 ((rd_T51 l0_6 x3_1).f1))).setCell ⟨gb242,2,none⟩ (.int .i64 ((rd_T51 l0_6 x3_1).f2)))).cell? _=some _ from hx243_1));(try have hy243_2:=fun (n_:Nat)=>(show (((((w41.drewN n_).setCell ⟨gb242,0,none⟩ (.int .i64 ((rd_T51 l0_6 x3_1).f0))).setCell ⟨gb242,1,none⟩ (.int .i64 ((rd_T51 l0_6 x3_1).f1))).setCell ⟨gb242,2,none⟩ (.int .i64 ((rd_T51 l0_6 x3_1).f2)))).cell? _=some _ from hx243_2));clear hn243_0 hn243_1 hn243_2;replace p243:=eq_true p243;replace q243:=eq_true q243)))
                go_ret
                exact ⟨by first|rfl|(simp [errW_none,errW_some] <;> rfl)|(simp only [← hji36];first|rfl|(simp [errW_none,errW_some] <;> rfl))|(simp [*,errW_none,errW_some] <;> rfl),zb_⟩
               ·rw [if_neg c39] at H
                have c39b0:decide (((rd_T51 l0_6 x3_1).f0)≤((rd_T51 l0_6 (ji36)).f0))=false:=decide_eq_false c39
                clear c39
                have H':=zm H
                clear H
                obtain ⟨hcz45_0,hcz45_1,hcz45_2,hcz45_3,hcz45_4,hcz45_5,hcz45_6,hfz45_0,hfz45_1,hfz45_2,hfz45_3,hfz45_4,hfz45_5,hfz45_6⟩:=zc7 BK239.out
                have p241:0≤(x3_1:Int):=za_
                have q241:x3_1 < (l0_6.length:Int):=za_
                obtain ⟨ad241,e241,hx241_0,hx241_1,hx241_2⟩:=at_T51 HR0_6.out x3_1 p241 q241
                cases e241
                replace hx241_0:=zhx HB hx241_0
                replace hx241_1:=zhx HB hx241_1
                replace hx241_2:=zhx HB hx241_2
                replace p241:=eq_true p241
                replace q241:=eq_true q241
                go_wp2_with (first|((with_reducible refine gate_dst (N:=4) rfl ?_);refine zbx 4 #[.int .i64 0,.int .i64 0,.int .i64 0] 51 ?_;intro gb242 hg w46 hbox hb;have n0_:=zkB BK239 hb;have n1_:=zkH HB hb;have n2_:=zm (hbox);have n3_:=zkG HB hg;have n4_:=zkG HB hg;have n5_:=zkN BK239 hg;have n6_:=zkM BK239 hg;clear BK239 HB;have BK239:=n0_;have HB:=n1_;have BK242:=n2_;have GW242:=n3_;have GE242:=n4_;have NB239_242:=n5_;have NB242_239:=n6_;clear n0_ n1_ n2_ n3_ n4_ n5_ n6_;clear hb hbox hg;have hnb47:=NB242_239.out;have hnc47:=NB239_242.out;obtain ⟨hcz48_0,hcz48_1,hcz48_2,hfz48_0,hfz48_1,hfz48_2⟩:=zc3 BK242.out;obtain ⟨hcz49_0,hcz49_1,hcz49_2,hcz49_3,hcz49_4,hcz49_5,hcz49_6,hfz49_0,hfz49_1,hfz49_2,hfz49_3,hfz49_4,hfz49_5,hfz49_6⟩:=zc7 BK239.out;have p243:0≤((ji36):Int):=za_;have q243:(ji36) < (l0_6.length:Int):=za_;obtain ⟨ad243,e243,hx243_0,hx243_1,hx243_2⟩:=at_T51 HR0_6.out (ji36) p243 q243;obtain rfl:ad241=ad243:=(by injection e243);have hn243_0:ad241.block≠gb242:=Nat.ne_of_lt (Nat.lt_of_lt_of_le (by have:=World.block_lt_of_cell? _ _ hx243_0;first|rwa [add_block] at this|exact this) GW242.out);have hn243_1:ad241.block≠gb242:=Nat.ne_of_lt (Nat.lt_of_lt_of_le (by have:=World.block_lt_of_cell? _ _ hx243_0;first|rwa [add_block] at this|exact this) GW242.out);have hn243_2:ad241.block≠gb242:=Nat.ne_of_lt (Nat.lt_of_lt_of_le (by have:=World.block_lt_of_cell? _ _ hx243_0;first|rwa [add_block] at this|exact this) GW242.out);replace hx243_0:=zhx HB hx243_0;replace hx243_1:=zhx HB hx243_1;replace hx243_2:=zhx HB hx243_2;replace hx243_0:=(cell_far (p:=⟨gb242,0,none⟩) (by first|(rw [add_block];exact hn243_0)|(show (Addr.add _ _).block≠_;rw [add_block];exact hn243_0)|exact hn243_0) (.int .i64 ((rd_T51 l0_6 x3_1).f0))).trans hx243_0;replace hx243_1:=(cell_far (p:=⟨gb242,0,none⟩) (by first|(rw [add_block];exact hn243_0)|(show (Addr.add _ _).block≠_;rw [add_block];exact hn243_0)|exact hn243_0) (.int .i64 ((rd_T51 l0_6 x3_1).f0))).trans hx243_1;replace hx243_2:=(cell_far (p:=⟨gb242,0,none⟩) (by first|(rw [add_block];exact hn243_0)|(show (Addr.add _ _).block≠_;rw [add_block];exact hn243_0)|exact hn243_0) (.int .i64 ((rd_T51 l0_6 x3_1).f0))).trans hx243_2;replace hx243_0:=(cell_far (p:=⟨gb242,1,none⟩) (by first|(rw [add_block];exact hn243_1)|(show (Addr.add _ _).block≠_;rw [add_block];exact hn243_1)|exact hn243_1) (.int .i64 ((rd_T51 l0_6 x3_1).f1))).trans hx243_0;replace hx243_1:=(cell_far (p:=⟨gb242,1,none⟩) (by first|(rw [add_block];exact hn243_1)|(show (Addr.add _ _).block≠_;rw [add_block];exact hn243_1)|exact hn243_1) (.int .i64 ((rd_T51 l0_6 x3_1).f1))).trans hx243_1;replace hx243_2:=(cell_far (p:=⟨gb242,1,none⟩) (by first|(rw [add_block];exact hn243_1)|(show (Addr.add _ _).block≠_;rw [add_block];exact hn243_1)|exact hn243_1) (.int .i64 ((rd_T51 l0_6 x3_1).f1))).trans hx243_2;replace hx243_0:=(cell_far (p:=⟨gb242,2,none⟩) (by first|(rw [add_block];exact hn243_2)|(show (Addr.add _ _).block≠_;rw [add_block];exact hn243_2)|exact hn243_2) (.int .i64 ((rd_T51 l0_6 x3_1).f2))).trans hx243_0;replace hx243_1:=(cell_far (p:=⟨gb242,2,none⟩) (by first|(rw [add_block];exact hn243_2)|(show (Addr.add _ _).block≠_;rw [add_block];exact hn243_2)|exact hn243_2) (.int .i64 ((rd_T51 l0_6 x3_1).f2))).trans hx243_1;replace hx243_2:=(cell_far (p:=⟨gb242,2,none⟩) (by first|(rw [add_block];exact hn243_2)|(show (Addr.add _ _).block≠_;rw [add_block];exact hn243_2)|exact hn243_2) (.int .i64 ((rd_T51 l0_6 x3_1).f2))).trans hx243_2;(try have hy243_0:=fun (n_:Nat)=>(show (((((w46.drewN n_).setCell ⟨gb242,0,none⟩ (.int .i64 ((rd_T51 l0_6 x3_1).f0))).setCell ⟨gb242,1,none⟩ (.int .i64 ((rd_T51 l0_6 x3_1).f1))).setCell ⟨gb242,2,none⟩ (.int .i64 ((rd_T51 l0_6 x3_1).f2)))).cell? _=some _ from hx243_0));(try have hy243_1:=fun (n_:Nat)=>(show (((((w46.drewN n_).setCell ⟨gb242,0,none⟩ (.int .i64 ((rd_T51 l0_6 x3_1).f0))).setCell ⟨gb242,1,none⟩ (.int .i64 ((rd_T51 l0_6 x3_1).f1))).setCell ⟨gb242,2,none⟩ (.int .i64 ((rd_T51 l0_6 x3_1).f2)))).cell? _=some _ from hx243_1));(try have hy243_2:=fun (n_:Nat)=>(show (((((w46.drewN n_).setCell ⟨gb242,0,none⟩ (.int .i64 ((rd_T51 l0_6 x3_1).f0))).setCell ⟨gb242,1,none⟩ (.int .i64 ((rd_T51 l0_6 x3_1).f1))).setCell ⟨gb242,2,none⟩ (.int .i64 ((rd_T51 l0_6 x3_1).f2)))).cell? _=some _ from hx243_2));clear hn243_0 hn243_1 hn243_2;replace p243:=eq_true p243;replace q243:=eq_true q243))
                repeat (go_quiet (first|((with_reducible refine gate_dst (N:=4) rfl ?_);refine zbx 4 #[.int .i64 0,.int .i64 0,.int .i64 0] 51 ?_;intro gb242 hg w46 hbox hb;have n0_:=zkB BK239 hb;have n1_:=zkH HB hb;have n2_:=zm (hbox);have n3_:=zkG HB hg;have n4_:=zkG HB hg;have n5_:=zkN BK239 hg;have n6_:=zkM BK239 hg;clear BK239 HB;have BK239:=n0_;have HB:=n1_;have BK242:=n2_;have GW242:=n3_;have GE242:=n4_;have NB239_242:=n5_;have NB242_239:=n6_;clear n0_ n1_ n2_ n3_ n4_ n5_ n6_;clear hb hbox hg;have hnb47:=NB242_239.out;have hnc47:=NB239_242.out;obtain ⟨hcz48_0,hcz48_1,hcz48_2,hfz48_0,hfz48_1,hfz48_2⟩:=zc3 BK242.out;obtain ⟨hcz49_0,hcz49_1,hcz49_2,hcz49_3,hcz49_4,hcz49_5,hcz49_6,hfz49_0,hfz49_1,hfz49_2,hfz49_3,hfz49_4,hfz49_5,hfz49_6⟩:=zc7 BK239.out;have p243:0≤((ji36):Int):=za_;have q243:(ji36) < (l0_6.length:Int):=za_;obtain ⟨ad243,e243,hx243_0,hx243_1,hx243_2⟩:=at_T51 HR0_6.out (ji36) p243 q243;obtain rfl:ad241=ad243:=(by injection e243);have hn243_0:ad241.block≠gb242:=Nat.ne_of_lt (Nat.lt_of_lt_of_le (by have:=World.block_lt_of_cell? _ _ hx243_0;first|rwa [add_block] at this|exact this) GW242.out);have hn243_1:ad241.block≠gb242:=Nat.ne_of_lt (Nat.lt_of_lt_of_le (by have:=World.block_lt_of_cell? _ _ hx243_0;first|rwa [add_block] at this|exact this) GW242.out);have hn243_2:ad241.block≠gb242:=Nat.ne_of_lt (Nat.lt_of_lt_of_le (by have:=World.block_lt_of_cell? _ _ hx243_0;first|rwa [add_block] at this|exact this) GW242.out);replace hx243_0:=zhx HB hx243_0;replace hx243_1:=zhx HB hx243_1;replace hx243_2:=zhx HB hx243_2;replace hx243_0:=(cell_far (p:=⟨gb242,0,none⟩) (by first|(rw [add_block];exact hn243_0)|(show (Addr.add _ _).block≠_;rw [add_block];exact hn243_0)|exact hn243_0) (.int .i64 ((rd_T51 l0_6 x3_1).f0))).trans hx243_0;replace hx243_1:=(cell_far (p:=⟨gb242,0,none⟩) (by first|(rw [add_block];exact hn243_0)|(show (Addr.add _ _).block≠_;rw [add_block];exact hn243_0)|exact hn243_0) (.int .i64 ((rd_T51 l0_6 x3_1).f0))).trans hx243_1;replace hx243_2:=(cell_far (p:=⟨gb242,0,none⟩) (by first|(rw [add_block];exact hn243_0)|(show (Addr.add _ _).block≠_;rw [add_block];exact hn243_0)|exact hn243_0) (.int .i64 ((rd_T51 l0_6 x3_1).f0))).trans hx243_2;replace hx243_0:=(cell_far (p:=⟨gb242,1,none⟩) (by first|(rw [add_block];exact hn243_1)|(show (Addr.add _ _).block≠_;rw [add_block];exact hn243_1)|exact hn243_1) (.int .i64 ((rd_T51 l0_6 x3_1).f1))).trans hx243_0;replace hx243_1:=(cell_far (p:=⟨gb242,1,none⟩) (by first|(rw [add_block];exact hn243_1)|(show (Addr.add _ _).block≠_;rw [add_block];exact hn243_1)|exact hn243_1) (.int .i64 ((rd_T51 l0_6 x3_1).f1))).trans hx243_1;replace hx243_2:=(cell_far (p:=⟨gb242,1,none⟩) (by first|(rw [add_block];exact hn243_1)|(show (Addr.add _ _).block≠_;rw [add_block];exact hn243_1)|exact hn243_1) (.int .i64 ((rd_T51 l0_6 x3_1).f1))).trans hx243_2;replace hx243_0:=(cell_far (p:=⟨gb242,2,none⟩) (by first|(rw [add_block];exact hn243_2)|(show (Addr.add _ _).block≠_;rw [add_block];exact hn243_2)|exact hn243_2) (.int .i64 ((rd_T51 l0_6 x3_1).f2))).trans hx243_0;replace hx243_1:=(cell_far (p:=⟨gb242,2,none⟩) (by first|(rw [add_block];exact hn243_2)|(show (Addr.add _ _).block≠_;rw [add_block];exact hn243_2)|exact hn243_2) (.int .i64 ((rd_T51 l0_6 x3_1).f2))).trans hx243_1;replace hx243_2:=(cell_far (p:=⟨gb242,2,none⟩) (by first|(rw [add_block];exact hn243_2)|(show (Addr.add _ _).block≠_;rw [add_block];exact hn243_2)|exact hn243_2) (.int .i64 ((rd_T51 l0_6 x3_1).f2))).trans hx243_2;(try have hy243_0:=fun (n_:Nat)=>(show (((((w46.drewN n_).setCell ⟨gb242,0,none⟩ (.int .i64 ((rd_T51 l0_6 x3_1).f0))).setCell ⟨gb242,1,none⟩ (.int .i64 ((rd_T51 l0_6 x3_1).f1))).setCell ⟨gb242,2,none⟩ (.int .i64 ((rd_T51 l0_6 x3_1).f2)))).cell? _=some _ from hx243_0));(try have hy243_1:=fun (n_:Nat)=>(show (((((w46.drewN n_).setCell ⟨gb242,0,none⟩ (.int .i64 ((rd_T51 l0_6 x3_1).f0))).setCell ⟨gb242,1,none⟩ (.int .i64 ((rd_T51 l0_6 x3_1).f1))).setCell ⟨gb242,2,none⟩ (.int .i64 ((rd_T51 l0_6 x3_1).f2)))).cell? _=some _ from hx243_1));(try have hy243_2:=fun (n_:Nat)=>(show (((((w46.drewN n_).setCell ⟨gb242,0,none⟩ (.int .i64 ((rd_T51 l0_6 x3_1).f0))).setCell ⟨gb242,1,none⟩ (.int .i64 ((rd_T51 l0_6 x3_1).f1))).setCell ⟨gb242,2,none⟩ (.int .i64 ((rd_T51 l0_6 x3_1).f2)))).cell? _=some _ from hx243_2));clear hn243_0 hn243_1 hn243_2;replace p243:=eq_true p243;replace q243:=eq_true q243));try go_wp2_with (first|((with_reducible refine gate_dst (N:=4) rfl ?_);refine zbx 4 #[.int .i64 0,.int .i64 0,.int .i64 0] 51 ?_;intro gb242 hg w46 hbox hb;have n0_:=zkB BK239 hb;have n1_:=zkH HB hb;have n2_:=zm (hbox);have n3_:=zkG HB hg;have n4_:=zkG HB hg;have n5_:=zkN BK239 hg;have n6_:=zkM BK239 hg;clear BK239 HB;have BK239:=n0_;have HB:=n1_;have BK242:=n2_;have GW242:=n3_;have GE242:=n4_;have NB239_242:=n5_;have NB242_239:=n6_;clear n0_ n1_ n2_ n3_ n4_ n5_ n6_;clear hb hbox hg;have hnb47:=NB242_239.out;have hnc47:=NB239_242.out;obtain ⟨hcz48_0,hcz48_1,hcz48_2,hfz48_0,hfz48_1,hfz48_2⟩:=zc3 BK242.out;obtain ⟨hcz49_0,hcz49_1,hcz49_2,hcz49_3,hcz49_4,hcz49_5,hcz49_6,hfz49_0,hfz49_1,hfz49_2,hfz49_3,hfz49_4,hfz49_5,hfz49_6⟩:=zc7 BK239.out;have p243:0≤((ji36):Int):=za_;have q243:(ji36) < (l0_6.length:Int):=za_;obtain ⟨ad243,e243,hx243_0,hx243_1,hx243_2⟩:=at_T51 HR0_6.out (ji36) p243 q243;obtain rfl:ad241=ad243:=(by injection e243);have hn243_0:ad241.block≠gb242:=Nat.ne_of_lt (Nat.lt_of_lt_of_le (by have:=World.block_lt_of_cell? _ _ hx243_0;first|rwa [add_block] at this|exact this) GW242.out);have hn243_1:ad241.block≠gb242:=Nat.ne_of_lt (Nat.lt_of_lt_of_le (by have:=World.block_lt_of_cell? _ _ hx243_0;first|rwa [add_block] at this|exact this) GW242.out);have hn243_2:ad241.block≠gb242:=Nat.ne_of_lt (Nat.lt_of_lt_of_le (by have:=World.block_lt_of_cell? _ _ hx243_0;first|rwa [add_block] at this|exact this) GW242.out);replace hx243_0:=zhx HB hx243_0;replace hx243_1:=zhx HB hx243_1;replace hx243_2:=zhx HB hx243_2;replace hx243_0:=(cell_far (p:=⟨gb242,0,none⟩) (by first|(rw [add_block];exact hn243_0)|(show (Addr.add _ _).block≠_;rw [add_block];exact hn243_0)|exact hn243_0) (.int .i64 ((rd_T51 l0_6 x3_1).f0))).trans hx243_0;replace hx243_1:=(cell_far (p:=⟨gb242,0,none⟩) (by first|(rw [add_block];exact hn243_0)|(show (Addr.add _ _).block≠_;rw [add_block];exact hn243_0)|exact hn243_0) (.int .i64 ((rd_T51 l0_6 x3_1).f0))).trans hx243_1;replace hx243_2:=(cell_far (p:=⟨gb242,0,none⟩) (by first|(rw [add_block];exact hn243_0)|(show (Addr.add _ _).block≠_;rw [add_block];exact hn243_0)|exact hn243_0) (.int .i64 ((rd_T51 l0_6 x3_1).f0))).trans hx243_2;replace hx243_0:=(cell_far (p:=⟨gb242,1,none⟩) (by first|(rw [add_block];exact hn243_1)|(show (Addr.add _ _).block≠_;rw [add_block];exact hn243_1)|exact hn243_1) (.int .i64 ((rd_T51 l0_6 x3_1).f1))).trans hx243_0;replace hx243_1:=(cell_far (p:=⟨gb242,1,none⟩) (by first|(rw [add_block];exact hn243_1)|(show (Addr.add _ _).block≠_;rw [add_block];exact hn243_1)|exact hn243_1) (.int .i64 ((rd_T51 l0_6 x3_1).f1))).trans hx243_1;replace hx243_2:=(cell_far (p:=⟨gb242,1,none⟩) (by first|(rw [add_block];exact hn243_1)|(show (Addr.add _ _).block≠_;rw [add_block];exact hn243_1)|exact hn243_1) (.int .i64 ((rd_T51 l0_6 x3_1).f1))).trans hx243_2;replace hx243_0:=(cell_far (p:=⟨gb242,2,none⟩) (by first|(rw [add_block];exact hn243_2)|(show (Addr.add _ _).block≠_;rw [add_block];exact hn243_2)|exact hn243_2) (.int .i64 ((rd_T51 l0_6 x3_1).f2))).trans hx243_0;replace hx243_1:=(cell_far (p:=⟨gb242,2,none⟩) (by first|(rw [add_block];exact hn243_2)|(show (Addr.add _ _).block≠_;rw [add_block];exact hn243_2)|exact hn243_2) (.int .i64 ((rd_T51 l0_6 x3_1).f2))).trans hx243_1;replace hx243_2:=(cell_far (p:=⟨gb242,2,none⟩) (by first|(rw [add_block];exact hn243_2)|(show (Addr.add _ _).block≠_;rw [add_block];exact hn243_2)|exact hn243_2) (.int .i64 ((rd_T51 l0_6 x3_1).f2))).trans hx243_2;(try have hy243_0:=fun (n_:Nat)=>(show (((((w46.drewN n_).setCell ⟨gb242,0,none⟩ (.int .i64 ((rd_T51 l0_6 x3_1).f0))).setCell ⟨gb242,1,none⟩ (.int .i64 ((rd_T51 l0_6 x3_1).f1))).setCell ⟨gb242,2,none⟩ (.int .i64 ((rd_T51 l0_6 x3_1).f2)))).cell? _=some _ from hx243_0));(try have hy243_1:=fun (n_:Nat)=>(show (((((w46.drewN n_).setCell ⟨gb242,0,none⟩ (.int .i64 ((rd_T51 l0_6 x3_1).f0))).setCell ⟨gb242,1,none⟩ (.int .i64 ((rd_T51 l0_6 x3_1).f1))).setCell ⟨gb242,2,none⟩ (.int .i64 ((rd_T51 l0_6 x3_1).f2)))).cell? _=some _ from hx243_1));(try have hy243_2:=fun (n_:Nat)=>(show (((((w46.drewN n_).setCell ⟨gb242,0,none⟩ (.int .i64 ((rd_T51 l0_6 x3_1).f0))).setCell ⟨gb242,1,none⟩ (.int .i64 ((rd_T51 l0_6 x3_1).f1))).setCell ⟨gb242,2,none⟩ (.int .i64 ((rd_T51 l0_6 x3_1).f2)))).cell? _=some _ from hx243_2));clear hn243_0 hn243_1 hn243_2;replace p243:=eq_true p243;replace q243:=eq_true q243)))
                go_roundg k1
                case measure=>have:=HK1.out;omega
                case rel=>exact ⟨(wrap64 (x3_1 + 1)),zs_,H',⟨by have:=HK1.out;omega⟩,⟨by (with_reducible repeat (first|refine zbN ?_ _|refine zbD ?_|refine zbA ?_ _));refine blk_far ?_ NB239_242.out _;(with_reducible repeat (first|refine zbN ?_ _|refine zbD ?_|refine zbA ?_ _));refine blk_far ?_ NB239_242.out _;(with_reducible repeat (first|refine zbN ?_ _|refine zbD ?_|refine zbA ?_ _));refine blk_far ?_ NB239_242.out _;(with_reducible repeat (first|refine zbN ?_ _|refine zbD ?_|refine zbA ?_ _));exact BK239.out⟩,⟨zb_⟩⟩
              ·rw [if_neg c38] at H
               exact absurd H (by simp)
             ·rw [if_neg c37] at H
              exact absurd H (by simp)
            ·rw [if_neg c35] at H
             have c35b0:decide (0 < x3_1)=false:=decide_eq_false c35
             clear c35
             have H':=zm H
             clear H
             obtain ⟨hcz50_0,hcz50_1,hcz50_2,hcz50_3,hcz50_4,hcz50_5,hcz50_6,hfz50_0,hfz50_1,hfz50_2,hfz50_3,hfz50_4,hfz50_5,hfz50_6⟩:=zc7 BK239.out
             have p241:0≤(x3_1:Int):=za_
             have q241:x3_1 < (l0_6.length:Int):=za_
             obtain ⟨ad241,e241,hx241_0,hx241_1,hx241_2⟩:=at_T51 HR0_6.out x3_1 p241 q241
             cases e241
             replace hx241_0:=zhx HB hx241_0
             replace hx241_1:=zhx HB hx241_1
             replace hx241_2:=zhx HB hx241_2
             replace p241:=eq_true p241
             replace q241:=eq_true q241
             go_wp2_with (first|((with_reducible refine gate_dst (N:=4) rfl ?_);refine zbx 4 #[.int .i64 0,.int .i64 0,.int .i64 0] 51 ?_;intro gb242 hg w51 hbox hb;have n0_:=zkB BK239 hb;have n1_:=zkH HB hb;have n2_:=zm (hbox);have n3_:=zkG HB hg;have n4_:=zkG HB hg;have n5_:=zkN BK239 hg;have n6_:=zkM BK239 hg;clear BK239 HB;have BK239:=n0_;have HB:=n1_;have BK242:=n2_;have GW242:=n3_;have GE242:=n4_;have NB239_242:=n5_;have NB242_239:=n6_;clear n0_ n1_ n2_ n3_ n4_ n5_ n6_;clear hb hbox hg;have hnb52:=NB242_239.out;have hnc52:=NB239_242.out;obtain ⟨hcz53_0,hcz53_1,hcz53_2,hfz53_0,hfz53_1,hfz53_2⟩:=zc3 BK242.out))
             repeat (go_quiet (first|((with_reducible refine gate_dst (N:=4) rfl ?_);refine zbx 4 #[.int .i64 0,.int .i64 0,.int .i64 0] 51 ?_;intro gb242 hg w51 hbox hb;have n0_:=zkB BK239 hb;have n1_:=zkH HB hb;have n2_:=zm (hbox);have n3_:=zkG HB hg;have n4_:=zkG HB hg;have n5_:=zkN BK239 hg;have n6_:=zkM BK239 hg;clear BK239 HB;have BK239:=n0_;have HB:=n1_;have BK242:=n2_;have GW242:=n3_;have GE242:=n4_;have NB239_242:=n5_;have NB242_239:=n6_;clear n0_ n1_ n2_ n3_ n4_ n5_ n6_;clear hb hbox hg;have hnb52:=NB242_239.out;have hnc52:=NB239_242.out;obtain ⟨hcz53_0,hcz53_1,hcz53_2,hfz53_0,hfz53_1,hfz53_2⟩:=zc3 BK242.out));try go_wp2_with (first|((with_reducible refine gate_dst (N:=4) rfl ?_);refine zbx 4 #[.int .i64 0,.int .i64 0,.int .i64 0] 51 ?_;intro gb242 hg w51 hbox hb;have n0_:=zkB BK239 hb;have n1_:=zkH HB hb;have n2_:=zm (hbox);have n3_:=zkG HB hg;have n4_:=zkG HB hg;have n5_:=zkN BK239 hg;have n6_:=zkM BK239 hg;clear BK239 HB;have BK239:=n0_;have HB:=n1_;have BK242:=n2_;have GW242:=n3_;have GE242:=n4_;have NB239_242:=n5_;have NB242_239:=n6_;clear n0_ n1_ n2_ n3_ n4_ n5_ n6_;clear hb hbox hg;have hnb52:=NB242_239.out;have hnc52:=NB239_242.out;obtain ⟨hcz53_0,hcz53_1,hcz53_2,hfz53_0,hfz53_1,hfz53_2⟩:=zc3 BK242.out)))
             go_roundg k1
             case measure=>have:=HK1.out;omega
             case rel=>exact ⟨(wrap64 (x3_1 + 1)),zs_,H',⟨by have:=HK1.out;omega⟩,⟨by (with_reducible repeat (first|refine zbN ?_ _|refine zbD ?_|refine zbA ?_ _));refine blk_far ?_ NB239_242.out _;(with_reducible repeat (first|refine zbN ?_ _|refine zbD ?_|refine zbA ?_ _));refine blk_far ?_ NB239_242.out _;(with_reducible repeat (first|refine zbN ?_ _|refine zbD ?_|refine zbA ?_ _));refine blk_far ?_ NB239_242.out _;(with_reducible repeat (first|refine zbN ?_ _|refine zbD ?_|refine zbA ?_ _));exact BK239.out⟩,⟨zb_⟩⟩
         ·rw [if_neg c24] at H
          have c24b0:(((rd_T51 l0_6 x3_1).f1) == 0)=false:=beq_eq_false_iff_ne.mpr c24
          have c24b1:(((rd_T51 l0_6 x3_1).f1) != 0)=true:=bne_iff_ne.mpr c24
          obtain rfl:=Option.some.inj H
          obtain ⟨hcz54_0,hcz54_1,hcz54_2,hcz54_3,hcz54_4,hcz54_5,hcz54_6,hfz54_0,hfz54_1,hfz54_2,hfz54_3,hfz54_4,hfz54_5,hfz54_6⟩:=zc7 BK239.out
          have p241:0≤(x3_1:Int):=za_
          have q241:x3_1 < (l0_6.length:Int):=za_
          obtain ⟨ad241,e241,hx241_0,hx241_1,hx241_2⟩:=at_T51 HR0_6.out x3_1 p241 q241
          cases e241
          replace hx241_0:=zhx HB hx241_0
          replace hx241_1:=zhx HB hx241_1
          replace hx241_2:=zhx HB hx241_2
          replace p241:=eq_true p241
          replace q241:=eq_true q241
          go_wp2_with (first|((with_reducible refine gate_dst (N:=4) rfl ?_);refine zbx 4 #[.int .i64 0,.int .i64 0,.int .i64 0] 51 ?_;intro gb242 hg w55 hbox hb;have n0_:=zkB BK239 hb;have n1_:=zkH HB hb;have n2_:=zm (hbox);have n3_:=zkG HB hg;have n4_:=zkG HB hg;have n5_:=zkN BK239 hg;have n6_:=zkM BK239 hg;clear BK239 HB;have BK239:=n0_;have HB:=n1_;have BK242:=n2_;have GW242:=n3_;have GE242:=n4_;have NB239_242:=n5_;have NB242_239:=n6_;clear n0_ n1_ n2_ n3_ n4_ n5_ n6_;clear hb hbox hg;have hnb56:=NB242_239.out;have hnc56:=NB239_242.out;obtain ⟨hcz57_0,hcz57_1,hcz57_2,hfz57_0,hfz57_1,hfz57_2⟩:=zc3 BK242.out))
          repeat (go_quiet (first|((with_reducible refine gate_dst (N:=4) rfl ?_);refine zbx 4 #[.int .i64 0,.int .i64 0,.int .i64 0] 51 ?_;intro gb242 hg w55 hbox hb;have n0_:=zkB BK239 hb;have n1_:=zkH HB hb;have n2_:=zm (hbox);have n3_:=zkG HB hg;have n4_:=zkG HB hg;have n5_:=zkN BK239 hg;have n6_:=zkM BK239 hg;clear BK239 HB;have BK239:=n0_;have HB:=n1_;have BK242:=n2_;have GW242:=n3_;have GE242:=n4_;have NB239_242:=n5_;have NB242_239:=n6_;clear n0_ n1_ n2_ n3_ n4_ n5_ n6_;clear hb hbox hg;have hnb56:=NB242_239.out;have hnc56:=NB239_242.out;obtain ⟨hcz57_0,hcz57_1,hcz57_2,hfz57_0,hfz57_1,hfz57_2⟩:=zc3 BK242.out));try go_wp2_with (first|((with_reducible refine gate_dst (N:=4) rfl ?_);refine zbx 4 #[.int .i64 0,.int .i64 0,.int .i64 0] 51 ?_;intro gb242 hg w55 hbox hb;have n0_:=zkB BK239 hb;have n1_:=zkH HB hb;have n2_:=zm (hbox);have n3_:=zkG HB hg;have n4_:=zkG HB hg;have n5_:=zkN BK239 hg;have n6_:=zkM BK239 hg;clear BK239 HB;have BK239:=n0_;have HB:=n1_;have BK242:=n2_;have GW242:=n3_;have GE242:=n4_;have NB239_242:=n5_;have NB242_239:=n6_;clear n0_ n1_ n2_ n3_ n4_ n5_ n6_;clear hb hbox hg;have hnb56:=NB242_239.out;have hnc56:=NB239_242.out;obtain ⟨hcz57_0,hcz57_1,hcz57_2,hfz57_0,hfz57_1,hfz57_2⟩:=zc3 BK242.out)))
          go_ret
          exact ⟨ze_,zb_⟩
      ·rw [if_neg c13] at H
       exact absurd H (by simp)
     ·rw [if_neg c12] at H
      have c12b0:decide (x3_1 < (l0_6.length:Int))=false:=decide_eq_false c12
      clear c12
      obtain rfl:=Option.some.inj H
      obtain ⟨hcz58_0,hcz58_1,hcz58_2,hcz58_3,hcz58_4,hcz58_5,hcz58_6,hfz58_0,hfz58_1,hfz58_2,hfz58_3,hfz58_4,hfz58_5,hfz58_6⟩:=zc7 BK239.out
      go_wp2
      repeat (go_quiet (fail);try go_wp2)
      go_ret
      exact ⟨ze_,zb_⟩
end Go.Proofs.Ytjoojmodghpimaa.Print
end
section
namespace Go.Proofs.Ytjoojmodghpimaa.Print
open Go.RowKit Go.Proofs.YtjoojmodghpimaaW.PrintWords Go.Proofs.YtjoojmodghpimaaW.PrintLast Go.Proofs.YtjoojmodghpimaaW.PrintMore
attribute [local go_sem] max2_int min2_int max_two min_two max_three min_three max_four min_four   -- for this text's walks alone
attribute [local go_sem ↓] Go.Proofs.Ytjoojmodghpimaa.Sem.isSome_setCell
attribute [local go_sem] Go.Instr.field Go.asAgg
set_option linter.unusedVariables false
set_option linter.unusedSimpArgs false
mutual
def slipwayref14_Check.j0:Nat → Bool → Int → Int → Int → Int → Int → Int → List (S51) → Option (Int)
 | 0,_,_,_,_,_,_,_,_=>none
 | k + 1,x65,x245000,x245001,x245002,x245003,x245004,x245005,x245006=>if x65=true then (some 140) else (if x245000=0 then (if x245001=0 then (if x245002=0 then (if x245003=0 then (if x245005=0 then (slipwayref14_Check.j1 k ((x245006.length:Int) != 0) x245000 x245001 x245002 x245003 x245004 x245005 x245006) else (slipwayref14_Check.j1 k true x245000 x245001 x245002 x245003 x245004 x245005 x245006)) else (slipwayref14_Check.j1 k true x245000 x245001 x245002 x245003 x245004 x245005 x245006)) else (slipwayref14_Check.j1 k true x245000 x245001 x245002 x245003 x245004 x245005 x245006)) else (slipwayref14_Check.j1 k true x245000 x245001 x245002 x245003 x245004 x245005 x245006)) else (slipwayref14_Check.j1 k false x245000 x245001 x245002 x245003 x245004 x245005 x245006))
def slipwayref14_Check.j1:Nat → Bool → Int → Int → Int → Int → Int → Int → List (S51) → Option (Int)
 | 0,_,_,_,_,_,_,_,_=>none
 | k + 1,x94,x245000,x245001,x245002,x245003,x245004,x245005,x245006=>if x94=true then (some 140) else (if x245000=2 then (if (Int.tmod x245002 256)=0 then (some 0) else (some 140)) else (some 0))
end
def slipwayref14_Check.f (k:Nat) (a0_0:Int) (a0_1:Int) (a0_2:Int) (a0_3:Int) (a0_4:Int) (a0_5:Int) (l0_6:List (S51)):Option (Int):=if a0_0 < 0 then (slipwayref14_Check.j0 k true a0_0 a0_1 a0_2 a0_3 a0_4 a0_5 l0_6) else (if a0_0 > 2 then (slipwayref14_Check.j0 k true a0_0 a0_1 a0_2 a0_3 a0_4 a0_5 l0_6) else (if a0_1 < 0 then (slipwayref14_Check.j0 k true a0_0 a0_1 a0_2 a0_3 a0_4 a0_5 l0_6) else (if a0_1 > 1000 then (slipwayref14_Check.j0 k true a0_0 a0_1 a0_2 a0_3 a0_4 a0_5 l0_6) else (if a0_2 < 0 then (slipwayref14_Check.j0 k true a0_0 a0_1 a0_2 a0_3 a0_4 a0_5 l0_6) else (if a0_2 > 16777216 then (slipwayref14_Check.j0 k true a0_0 a0_1 a0_2 a0_3 a0_4 a0_5 l0_6) else (if a0_3 < 0 then (slipwayref14_Check.j0 k true a0_0 a0_1 a0_2 a0_3 a0_4 a0_5 l0_6) else (if a0_3 > 65536 then (slipwayref14_Check.j0 k true a0_0 a0_1 a0_2 a0_3 a0_4 a0_5 l0_6) else (if a0_4 < 0 then (slipwayref14_Check.j0 k true a0_0 a0_1 a0_2 a0_3 a0_4 a0_5 l0_6) else (if a0_4 ≥ 4294967296 then (slipwayref14_Check.j0 k true a0_0 a0_1 a0_2 a0_3 a0_4 a0_5 l0_6) else (if a0_5 < 0 then (slipwayref14_Check.j0 k true a0_0 a0_1 a0_2 a0_3 a0_4 a0_5 l0_6) else (if a0_5 > 2 then (slipwayref14_Check.j0 k true a0_0 a0_1 a0_2 a0_3 a0_4 a0_5 l0_6) else ((slipwayref14_root.f k a0_0 a0_1 a0_2 a0_3 a0_4 a0_5 l0_6).bind fun t245=>(slipwayref14_Check.j0 k (!t245) a0_0 a0_1 a0_2 a0_3 a0_4 a0_5 l0_6)))))))))))))
set_option maxHeartbeats 8000000 in
set_option maxRecDepth 100000 in
theorem slipwayref14_Check.calls (k:Nat) (a0_0:Int) (a0_1:Int) (a0_2:Int) (a0_3:Int) (a0_4:Int) (a0_5:Int) (A0_6:Option Addr) (c0_6:Nat) (l0_6:List (S51)) (r:Int) (w:World) (hr0_6:Kd.C k51 w A0_6 l0_6.length l0_6) (hc0_6:l0_6.length≤c0_6) (h:slipwayref14_Check.f k a0_0 a0_1 a0_2 a0_3 a0_4 a0_5 l0_6=some r) :
  Calls Try.prog 15 #[.agg #[.int .i64 a0_0,.int .i64 a0_1,.int .i64 a0_2,.int .i64 a0_3,.int .i64 a0_4,.int .i64 a0_5,.slice A0_6 l0_6.length c0_6]] w fun e w'=>e=.returned (.int .i64 r)∧Below w.heap.size w w':=by
 have hu24:=Try.underlying24
 have HR0_6:=zm hr0_6
 have HC0_6:=zm hc0_6
 clear hr0_6 hc0_6
 have HB:=zm (Below.refl w.heap.size w)
 have H:(if a0_0 < 0 then (slipwayref14_Check.j0 k true a0_0 a0_1 a0_2 a0_3 a0_4 a0_5 l0_6) else (if a0_0 > 2 then (slipwayref14_Check.j0 k true a0_0 a0_1 a0_2 a0_3 a0_4 a0_5 l0_6) else (if a0_1 < 0 then (slipwayref14_Check.j0 k true a0_0 a0_1 a0_2 a0_3 a0_4 a0_5 l0_6) else (if a0_1 > 1000 then (slipwayref14_Check.j0 k true a0_0 a0_1 a0_2 a0_3 a0_4 a0_5 l0_6) else (if a0_2 < 0 then (slipwayref14_Check.j0 k true a0_0 a0_1 a0_2 a0_3 a0_4 a0_5 l0_6) else (if a0_2 > 16777216 then (slipwayref14_Check.j0 k true a0_0 a0_1 a0_2 a0_3 a0_4 a0_5 l0_6) else (if a0_3 < 0 then (slipwayref14_Check.j0 k true a0_0 a0_1 a0_2 a0_3 a0_4 a0_5 l0_6) else (if a0_3 > 65536 then (slipwayref14_Check.j0 k true a0_0 a0_1 a0_2 a0_3 a0_4 a0_5 l0_6) else (if a0_4 < 0 then (slipwayref14_Check.j0 k true a0_0 a0_1 a0_2 a0_3 a0_4 a0_5 l0_6) else (if a0_4 ≥ 4294967296 then (slipwayref14_Check.j0 k true a0_0 a0_1 a0_2 a0_3 a0_4 a0_5 l0_6) else (if a0_5 < 0 then (slipwayref14_Check.j0 k true a0_0 a0_1 a0_2 a0_3 a0_4 a0_5 l0_6) else (if a0_5 > 2 then (slipwayref14_Check.j0 k true a0_0 a0_1 a0_2 a0_3 a0_4 a0_5 l0_6) else ((slipwayref14_root.f k a0_0 a0_1 a0_2 a0_3 a0_4 a0_5 l0_6).bind fun t245=>(slipwayref14_Check.j0 k (!t245) a0_0 a0_1 a0_2 a0_3 a0_4 a0_5 l0_6))))))))))))))=some r:=h
 clear h
 have HC2:=zm H
 clear H
 go_enter Try.func15,Try.ntmps15
 go_upto_region 1 with (first|((with_reducible refine gate_dst (N:=1) rfl ?_);(try (refine gate_guard (by rfl) ?_;dsimp only));refine zbx 1 #[.int .i64 a0_0,.int .i64 a0_1,.int .i64 a0_2,.int .i64 a0_3,.int .i64 a0_4,.int .i64 a0_5,.slice A0_6 l0_6.length c0_6] 24 ?_;intro gb244 hg w3 hbox hb;have n0_:=zkH HB hb;have n1_:=zm (hbox);have n2_:=zkG HB hg;have n3_:=zkG HB hg;clear HB;have HB:=n0_;have BK244:=n1_;have GW244:=n2_;have GE244:=n3_;clear n0_ n1_ n2_ n3_;clear hb hbox hg))
 (try simp only [Act.put,List.setIfInBounds_toArray,List.set_cons_zero,List.set_cons_succ])
 go_cut [65] (fun v65 wc=>∃ (kq:Nat) (x65_1:Bool),v65=.bool x65_1∧Aside0 (slipwayref14_Check.j0 kq x65_1 a0_0 a0_1 a0_2 a0_3 a0_4 a0_5 l0_6=some r)∧Aside0 (kq≤k)∧Aside0 (wc.heap[gb244]?=some (.cells #[.int .i64 a0_0,.int .i64 a0_1,.int .i64 a0_2,.int .i64 a0_3,.int .i64 a0_4,.int .i64 a0_5,(.slice A0_6 l0_6.length c0_6)] 24 (0,0)))∧Aside0 (Below w.heap.size w wc))
 case first =>
  have H:=HC2.out
  clear HC2
  by_cases c4:a0_0 < 0
  ·rw [if_pos c4] at H
   have c4b0:decide (a0_0 < 0)=true:=decide_eq_true c4
   clear c4
   (first|rw [c4b0]|(simp only [i64_w,i32_w];rw [c4b0])|skip)
   have H':=zm H
   clear H
   obtain ⟨hcz5_0,hcz5_1,hcz5_2,hcz5_3,hcz5_4,hcz5_5,hcz5_6,hfz5_0,hfz5_1,hfz5_2,hfz5_3,hfz5_4,hfz5_5,hfz5_6⟩:=zc7 BK244.out
   go_wp2
   go_meet
   case rel=>exact ⟨_,(true),zs_,H',⟨by first|omega|exact Nat.le_refl _⟩,⟨zx_⟩,⟨zb_⟩⟩
  ·rw [if_neg c4] at H
   have c4b0:decide (a0_0 < 0)=false:=decide_eq_false c4
   clear c4
   (first|rw [c4b0]|(simp only [i64_w,i32_w];rw [c4b0])|skip)
   by_cases c6:a0_0 > 2
   ·rw [if_pos c6] at H
    have c6b0:decide (2 < a0_0)=true:=decide_eq_true c6
    clear c6
    have H':=zm H
    clear H
    obtain ⟨hcz7_0,hcz7_1,hcz7_2,hcz7_3,hcz7_4,hcz7_5,hcz7_6,hfz7_0,hfz7_1,hfz7_2,hfz7_3,hfz7_4,hfz7_5,hfz7_6⟩:=zc7 BK244.out
    go_wp2
    go_meet
    case rel=>exact ⟨_,(true),zs_,H',⟨by first|omega|exact Nat.le_refl _⟩,⟨zx_⟩,⟨zb_⟩⟩
   ·rw [if_neg c6] at H
    have c6b0:decide (2 < a0_0)=false:=decide_eq_false c6
    clear c6
    by_cases c8:a0_1 < 0
    ·rw [if_pos c8] at H
     have c8b0:decide (a0_1 < 0)=true:=decide_eq_true c8
     clear c8
     have H':=zm H
     clear H
     obtain ⟨hcz9_0,hcz9_1,hcz9_2,hcz9_3,hcz9_4,hcz9_5,hcz9_6,hfz9_0,hfz9_1,hfz9_2,hfz9_3,hfz9_4,hfz9_5,hfz9_6⟩:=zc7 BK244.out
     go_wp2
     go_meet
     case rel=>exact ⟨_,(true),zs_,H',⟨by first|omega|exact Nat.le_refl _⟩,⟨zx_⟩,⟨zb_⟩⟩
    ·rw [if_neg c8] at H
     have c8b0:decide (a0_1 < 0)=false:=decide_eq_false c8
     clear c8
     by_cases c10:a0_1 > 1000
     ·rw [if_pos c10] at H
      have c10b0:decide (1000 < a0_1)=true:=decide_eq_true c10
      clear c10
      have H':=zm H
      clear H
      obtain ⟨hcz11_0,hcz11_1,hcz11_2,hcz11_3,hcz11_4,hcz11_5,hcz11_6,hfz11_0,hfz11_1,hfz11_2,hfz11_3,hfz11_4,hfz11_5,hfz11_6⟩:=zc7 BK244.out
      go_wp2
      go_meet
      case rel=>exact ⟨_,(true),zs_,H',⟨by first|omega|exact Nat.le_refl _⟩,⟨zx_⟩,⟨zb_⟩⟩
     ·rw [if_neg c10] at H
      have c10b0:decide (1000 < a0_1)=false:=decide_eq_false c10
      clear c10
      by_cases c12:a0_2 < 0
      ·rw [if_pos c12] at H
       have c12b0:decide (a0_2 < 0)=true:=decide_eq_true c12
       clear c12
       have H':=zm H
       clear H
       obtain ⟨hcz13_0,hcz13_1,hcz13_2,hcz13_3,hcz13_4,hcz13_5,hcz13_6,hfz13_0,hfz13_1,hfz13_2,hfz13_3,hfz13_4,hfz13_5,hfz13_6⟩:=zc7 BK244.out
       go_wp2
       go_meet
       case rel=>exact ⟨_,(true),zs_,H',⟨by first|omega|exact Nat.le_refl _⟩,⟨zx_⟩,⟨zb_⟩⟩
      ·rw [if_neg c12] at H
       have c12b0:decide (a0_2 < 0)=false:=decide_eq_false c12
       clear c12
       by_cases c14:a0_2 > 16777216
       ·rw [if_pos c14] at H
        have c14b0:decide (16777216 < a0_2)=true:=decide_eq_true c14
        clear c14
        have H':=zm H
        clear H
        obtain ⟨hcz15_0,hcz15_1,hcz15_2,hcz15_3,hcz15_4,hcz15_5,hcz15_6,hfz15_0,hfz15_1,hfz15_2,hfz15_3,hfz15_4,hfz15_5,hfz15_6⟩:=zc7 BK244.out
        go_wp2
        go_meet
        case rel=>exact ⟨_,(true),zs_,H',⟨by first|omega|exact Nat.le_refl _⟩,⟨zx_⟩,⟨zb_⟩⟩
       ·rw [if_neg c14] at H
        have c14b0:decide (16777216 < a0_2)=false:=decide_eq_false c14
        clear c14
        by_cases c16:a0_3 < 0
        ·rw [if_pos c16] at H
         have c16b0:decide (a0_3 < 0)=true:=decide_eq_true c16
         clear c16
         have H':=zm H
         clear H
         obtain ⟨hcz17_0,hcz17_1,hcz17_2,hcz17_3,hcz17_4,hcz17_5,hcz17_6,hfz17_0,hfz17_1,hfz17_2,hfz17_3,hfz17_4,hfz17_5,hfz17_6⟩:=zc7 BK244.out
         go_wp2
         go_meet
         case rel=>exact ⟨_,(true),zs_,H',⟨by first|omega|exact Nat.le_refl _⟩,⟨zx_⟩,⟨zb_⟩⟩
        ·rw [if_neg c16] at H
         have c16b0:decide (a0_3 < 0)=false:=decide_eq_false c16
         clear c16
         by_cases c18:a0_3 > 65536
         ·rw [if_pos c18] at H
          have c18b0:decide (65536 < a0_3)=true:=decide_eq_true c18
          clear c18
          have H':=zm H
          clear H
          obtain ⟨hcz19_0,hcz19_1,hcz19_2,hcz19_3,hcz19_4,hcz19_5,hcz19_6,hfz19_0,hfz19_1,hfz19_2,hfz19_3,hfz19_4,hfz19_5,hfz19_6⟩:=zc7 BK244.out
          go_wp2
          go_meet
          case rel=>exact ⟨_,(true),zs_,H',⟨by first|omega|exact Nat.le_refl _⟩,⟨zx_⟩,⟨zb_⟩⟩
         ·rw [if_neg c18] at H
          have c18b0:decide (65536 < a0_3)=false:=decide_eq_false c18
          clear c18
          by_cases c20:a0_4 < 0
          ·rw [if_pos c20] at H
           have c20b0:decide (a0_4 < 0)=true:=decide_eq_true c20
           clear c20
           have H':=zm H
           clear H
           obtain ⟨hcz21_0,hcz21_1,hcz21_2,hcz21_3,hcz21_4,hcz21_5,hcz21_6,hfz21_0,hfz21_1,hfz21_2,hfz21_3,hfz21_4,hfz21_5,hfz21_6⟩:=zc7 BK244.out
           go_wp2
           go_meet
           case rel=>exact ⟨_,(true),zs_,H',⟨by first|omega|exact Nat.le_refl _⟩,⟨zx_⟩,⟨zb_⟩⟩
          ·rw [if_neg c20] at H
           have c20b0:decide (a0_4 < 0)=false:=decide_eq_false c20
           clear c20
           by_cases c22:a0_4 ≥ 4294967296
           ·rw [if_pos c22] at H
            have c22b0:decide (4294967296≤a0_4)=true:=decide_eq_true c22
            clear c22
            have H':=zm H
            clear H
            obtain ⟨hcz23_0,hcz23_1,hcz23_2,hcz23_3,hcz23_4,hcz23_5,hcz23_6,hfz23_0,hfz23_1,hfz23_2,hfz23_3,hfz23_4,hfz23_5,hfz23_6⟩:=zc7 BK244.out
            go_wp2
            go_meet
            case rel=>exact ⟨_,(true),zs_,H',⟨by first|omega|exact Nat.le_refl _⟩,⟨zx_⟩,⟨zb_⟩⟩
           ·rw [if_neg c22] at H
            have c22b0:decide (4294967296≤a0_4)=false:=decide_eq_false c22
            clear c22
            by_cases c24:a0_5 < 0
            ·rw [if_pos c24] at H
             have c24b0:decide (a0_5 < 0)=true:=decide_eq_true c24
             clear c24
             have H':=zm H
             clear H
             obtain ⟨hcz25_0,hcz25_1,hcz25_2,hcz25_3,hcz25_4,hcz25_5,hcz25_6,hfz25_0,hfz25_1,hfz25_2,hfz25_3,hfz25_4,hfz25_5,hfz25_6⟩:=zc7 BK244.out
             go_wp2
             go_meet
             case rel=>exact ⟨_,(true),zs_,H',⟨by first|omega|exact Nat.le_refl _⟩,⟨zx_⟩,⟨zb_⟩⟩
            ·rw [if_neg c24] at H
             have c24b0:decide (a0_5 < 0)=false:=decide_eq_false c24
             clear c24
             by_cases c26:a0_5 > 2
             ·rw [if_pos c26] at H
              have c26b0:decide (2 < a0_5)=true:=decide_eq_true c26
              clear c26
              have H':=zm H
              clear H
              obtain ⟨hcz27_0,hcz27_1,hcz27_2,hcz27_3,hcz27_4,hcz27_5,hcz27_6,hfz27_0,hfz27_1,hfz27_2,hfz27_3,hfz27_4,hfz27_5,hfz27_6⟩:=zc7 BK244.out
              go_wp2
              go_meet
              case rel=>exact ⟨_,(true),zs_,H',⟨by first|omega|exact Nat.le_refl _⟩,⟨zx_⟩,⟨zb_⟩⟩
             ·rw [if_neg c26] at H
              have c26b0:decide (2 < a0_5)=false:=decide_eq_false c26
              clear c26
              replace H:=Option.bind_eq_some_iff.mp H
              obtain ⟨t245,A280,H⟩:=H
              replace H:(slipwayref14_Check.j0 k (!t245) a0_0 a0_1 a0_2 a0_3 a0_4 a0_5 l0_6)=some r:=H
              have A28:=zm A280
              clear A280
              have H':=zm H
              clear H
              obtain ⟨hcz29_0,hcz29_1,hcz29_2,hcz29_3,hcz29_4,hcz29_5,hcz29_6,hfz29_0,hfz29_1,hfz29_2,hfz29_3,hfz29_4,hfz29_5,hfz29_6⟩:=zc7 BK244.out
              go_wp2_with (first|(go_at_call 41;(with_reducible refine (slipwayref14_root.calls k a0_0 a0_1 a0_2 a0_3 a0_4 a0_5 _ _ l0_6 t245 _ ?side1 ?side2 A28.out).mono ?_);(case side1=>exact zC HR0_6);(case side2=>exact HC0_6.out);rintro e w30 ⟨rfl,hb⟩;have n0_:=zkB BK244 hb;have n1_:=zkH HB hb;clear BK244 HB;have BK244:=n0_;have HB:=n1_;clear n0_ n1_;(try clear hb);(try clear hb2);(try clear hk);(try clear hi)))
              go_meet
              case rel=>exact ⟨_,(!t245),zs_,H',⟨by first|omega|exact Nat.le_refl _⟩,⟨zx_⟩,⟨zb_⟩⟩
 case rest =>
  clear HC2
  try clear c1
  try clear c2
  try clear p2
  try clear c4
  try clear c4b0
  try clear c6
  try clear c6b0
  try clear c8
  try clear c8b0
  try clear c10
  try clear c10b0
  try clear c12
  try clear c12b0
  try clear c14
  try clear c14b0
  try clear c15
  try clear c16
  try clear c16b0
  try clear c18
  try clear c18b0
  try clear c20
  try clear c20b0
  try clear c22
  try clear c22b0
  try clear c24
  try clear c24b0
  try clear c26
  try clear c26b0
  try clear hcz11_0
  try clear hcz11_1
  try clear hcz11_2
  try clear hcz11_3
  try clear hcz11_4
  try clear hcz11_5
  try clear hcz11_6
  try clear hcz13_0
  try clear hcz13_1
  try clear hcz13_2
  try clear hcz13_3
  try clear hcz13_4
  try clear hcz13_5
  try clear hcz13_6
  try clear hcz15_0
  try clear hcz15_1
  try clear hcz15_2
  try clear hcz15_3
  try clear hcz15_4
  try clear hcz15_5
  try clear hcz15_6
  try clear hcz17_0
  try clear hcz17_1
  try clear hcz17_2
  try clear hcz17_3
  try clear hcz17_4
  try clear hcz17_5
  try clear hcz17_6
  try clear hcz19_0
  try clear hcz19_1
  try clear hcz19_2
  try clear hcz19_3
  try clear hcz19_4
  try clear hcz19_5
  try clear hcz19_6
  try clear hcz21_0
  try clear hcz21_1
  try clear hcz21_2
  try clear hcz21_3
  try clear hcz21_4
  try clear hcz21_5
  try clear hcz21_6
  try clear hcz23_0
  try clear hcz23_1
  try clear hcz23_2
  try clear hcz23_3
  try clear hcz23_4
  try clear hcz23_5
  try clear hcz23_6
  try clear hcz25_0
  try clear hcz25_1
  try clear hcz25_2
  try clear hcz25_3
  try clear hcz25_4
  try clear hcz25_5
  try clear hcz25_6
  try clear hcz27_0
  try clear hcz27_1
  try clear hcz27_2
  try clear hcz27_3
  try clear hcz27_4
  try clear hcz27_5
  try clear hcz27_6
  try clear hcz29_0
  try clear hcz29_1
  try clear hcz29_2
  try clear hcz29_3
  try clear hcz29_4
  try clear hcz29_5
  try clear hcz29_6
  try clear hcz5_0
  try clear hcz5_1
  try clear hcz5_2
  try clear hcz5_3
  try clear hcz5_4
  try clear hcz5_5
  try clear hcz5_6
  try clear hcz7_0
  try clear hcz7_1
  try clear hcz7_2
  try clear hcz7_3
  try clear hcz7_4
  try clear hcz7_5
  try clear hcz7_6
  try clear hcz9_0
  try clear hcz9_1
  try clear hcz9_2
  try clear hcz9_3
  try clear hcz9_4
  try clear hcz9_5
  try clear hcz9_6
  try clear hfz11_0
  try clear hfz11_1
  try clear hfz11_2
  try clear hfz11_3
  try clear hfz11_4
  try clear hfz11_5
  try clear hfz11_6
  try clear hfz13_0
  try clear hfz13_1
  try clear hfz13_2
  try clear hfz13_3
  try clear hfz13_4
  try clear hfz13_5
  try clear hfz13_6
  try clear hfz15_0
  try clear hfz15_1
  try clear hfz15_2
  try clear hfz15_3
  try clear hfz15_4
  try clear hfz15_5
  try clear hfz15_6
  try clear hfz17_0
  try clear hfz17_1
  try clear hfz17_2
  try clear hfz17_3
  try clear hfz17_4
  try clear hfz17_5
  try clear hfz17_6
  try clear hfz19_0
  try clear hfz19_1
  try clear hfz19_2
  try clear hfz19_3
  try clear hfz19_4
  try clear hfz19_5
  try clear hfz19_6
  try clear hfz21_0
  try clear hfz21_1
  try clear hfz21_2
  try clear hfz21_3
  try clear hfz21_4
  try clear hfz21_5
  try clear hfz21_6
  try clear hfz23_0
  try clear hfz23_1
  try clear hfz23_2
  try clear hfz23_3
  try clear hfz23_4
  try clear hfz23_5
  try clear hfz23_6
  try clear hfz25_0
  try clear hfz25_1
  try clear hfz25_2
  try clear hfz25_3
  try clear hfz25_4
  try clear hfz25_5
  try clear hfz25_6
  try clear hfz27_0
  try clear hfz27_1
  try clear hfz27_2
  try clear hfz27_3
  try clear hfz27_4
  try clear hfz27_5
  try clear hfz27_6
  try clear hfz29_0
  try clear hfz29_1
  try clear hfz29_2
  try clear hfz29_3
  try clear hfz29_4
  try clear hfz29_5
  try clear hfz29_6
  try clear hfz5_0
  try clear hfz5_1
  try clear hfz5_2
  try clear hfz5_3
  try clear hfz5_4
  try clear hfz5_5
  try clear hfz5_6
  try clear hfz7_0
  try clear hfz7_1
  try clear hfz7_2
  try clear hfz7_3
  try clear hfz7_4
  try clear hfz7_5
  try clear hfz7_6
  try clear hfz9_0
  try clear hfz9_1
  try clear hfz9_2
  try clear hfz9_3
  try clear hfz9_4
  try clear hfz9_5
  try clear hfz9_6
  obtain ⟨kq,x65_1,rfl,HA,HJ1,BK244,HB⟩:=hcut
  cases kq with
  | zero=>exact absurd HA.out (by simp [slipwayref14_Check.j0])
  | succ kj1 =>
   have H:=HA.out
   clear HA
   simp only [slipwayref14_Check.j0] at H
   by_cases c31:x65_1=true
   ·subst c31
    have H1:(some 140)=some r:=by rw [if_pos rfl] at H;exact H
    clear H
    have H:=H1
    clear H1
    obtain rfl:=Option.some.inj H
    go_wp2
    go_ret
    exact ⟨ze_,zb_⟩
   ·replace c31:=Bool.eq_false_iff.mpr c31
    subst c31
    have H1:(if a0_0=0 then (if a0_1=0 then (if a0_2=0 then (if a0_3=0 then (if a0_5=0 then (slipwayref14_Check.j1 kj1 ((l0_6.length:Int) != 0) a0_0 a0_1 a0_2 a0_3 a0_4 a0_5 l0_6) else (slipwayref14_Check.j1 kj1 true a0_0 a0_1 a0_2 a0_3 a0_4 a0_5 l0_6)) else (slipwayref14_Check.j1 kj1 true a0_0 a0_1 a0_2 a0_3 a0_4 a0_5 l0_6)) else (slipwayref14_Check.j1 kj1 true a0_0 a0_1 a0_2 a0_3 a0_4 a0_5 l0_6)) else (slipwayref14_Check.j1 kj1 true a0_0 a0_1 a0_2 a0_3 a0_4 a0_5 l0_6)) else (slipwayref14_Check.j1 kj1 false a0_0 a0_1 a0_2 a0_3 a0_4 a0_5 l0_6))=some r:=by rw [if_neg (show ¬ (false=true) by decide)] at H;exact H
    clear H
    have H:=H1
    clear H1
    have HC32:=zm H
    clear H
    go_upto_region 3 with (fail)
    go_cut [94] (fun v94 wc=>∃ (kq:Nat) (x94_31:Bool),v94=.bool x94_31∧Aside0 (slipwayref14_Check.j1 kq x94_31 a0_0 a0_1 a0_2 a0_3 a0_4 a0_5 l0_6=some r)∧Aside0 (kq≤kj1)∧Aside0 (wc.heap[gb244]?=some (.cells #[.int .i64 a0_0,.int .i64 a0_1,.int .i64 a0_2,.int .i64 a0_3,.int .i64 a0_4,.int .i64 a0_5,(.slice A0_6 l0_6.length c0_6)] 24 (0,0)))∧Aside0 (Below w.heap.size w wc))
    case first =>
     have H:=HC32.out
     clear HC32
     by_cases c33:a0_0=0
     ·rw [if_pos c33] at H
      have c33b0:(a0_0 == 0)=true:=beq_iff_eq.mpr c33
      have c33b1:(a0_0 != 0)=false:=bne_eq_false_iff_eq.mpr c33
      clear c33
      (first|rw [c33b0]|(simp only [i64_w,i32_w];rw [c33b0])|skip)
      by_cases c34:a0_1=0
      ·rw [if_pos c34] at H
       have c34b0:(a0_1 == 0)=true:=beq_iff_eq.mpr c34
       have c34b1:(a0_1 != 0)=false:=bne_eq_false_iff_eq.mpr c34
       clear c34
       by_cases c35:a0_2=0
       ·rw [if_pos c35] at H
        have c35b0:(a0_2 == 0)=true:=beq_iff_eq.mpr c35
        have c35b1:(a0_2 != 0)=false:=bne_eq_false_iff_eq.mpr c35
        clear c35
        by_cases c36:a0_3=0
        ·rw [if_pos c36] at H
         have c36b0:(a0_3 == 0)=true:=beq_iff_eq.mpr c36
         have c36b1:(a0_3 != 0)=false:=bne_eq_false_iff_eq.mpr c36
         clear c36
         by_cases c37:a0_5=0
         ·rw [if_pos c37] at H
          have c37b0:(a0_5 == 0)=true:=beq_iff_eq.mpr c37
          have c37b1:(a0_5 != 0)=false:=bne_eq_false_iff_eq.mpr c37
          clear c37
          have H':=zm H
          clear H
          obtain ⟨hcz38_0,hcz38_1,hcz38_2,hcz38_3,hcz38_4,hcz38_5,hcz38_6,hfz38_0,hfz38_1,hfz38_2,hfz38_3,hfz38_4,hfz38_5,hfz38_6⟩:=zc7 BK244.out
          go_wp2
          go_meet
          case rel=>exact ⟨_,(((l0_6.length:Int) != 0)),zs_,H',⟨by have:=HJ1.out;first|omega|exact Nat.le_refl _⟩,⟨zx_⟩,⟨zb_⟩⟩
         ·rw [if_neg c37] at H
          have c37b0:(a0_5 == 0)=false:=beq_eq_false_iff_ne.mpr c37
          have c37b1:(a0_5 != 0)=true:=bne_iff_ne.mpr c37
          have H':=zm H
          clear H
          obtain ⟨hcz39_0,hcz39_1,hcz39_2,hcz39_3,hcz39_4,hcz39_5,hcz39_6,hfz39_0,hfz39_1,hfz39_2,hfz39_3,hfz39_4,hfz39_5,hfz39_6⟩:=zc7 BK244.out
          go_wp2
          go_meet
          case rel=>exact ⟨_,(true),zs_,H',⟨by have:=HJ1.out;first|omega|exact Nat.le_refl _⟩,⟨zx_⟩,⟨zb_⟩⟩
        ·rw [if_neg c36] at H
         have c36b0:(a0_3 == 0)=false:=beq_eq_false_iff_ne.mpr c36
         have c36b1:(a0_3 != 0)=true:=bne_iff_ne.mpr c36
         have H':=zm H
         clear H
         obtain ⟨hcz40_0,hcz40_1,hcz40_2,hcz40_3,hcz40_4,hcz40_5,hcz40_6,hfz40_0,hfz40_1,hfz40_2,hfz40_3,hfz40_4,hfz40_5,hfz40_6⟩:=zc7 BK244.out
         go_wp2
         go_meet
         case rel=>exact ⟨_,(true),zs_,H',⟨by have:=HJ1.out;first|omega|exact Nat.le_refl _⟩,⟨zx_⟩,⟨zb_⟩⟩
       ·rw [if_neg c35] at H
        have c35b0:(a0_2 == 0)=false:=beq_eq_false_iff_ne.mpr c35
        have c35b1:(a0_2 != 0)=true:=bne_iff_ne.mpr c35
        have H':=zm H
        clear H
        obtain ⟨hcz41_0,hcz41_1,hcz41_2,hcz41_3,hcz41_4,hcz41_5,hcz41_6,hfz41_0,hfz41_1,hfz41_2,hfz41_3,hfz41_4,hfz41_5,hfz41_6⟩:=zc7 BK244.out
        go_wp2
        go_meet
        case rel=>exact ⟨_,(true),zs_,H',⟨by have:=HJ1.out;first|omega|exact Nat.le_refl _⟩,⟨zx_⟩,⟨zb_⟩⟩
      ·rw [if_neg c34] at H
       have c34b0:(a0_1 == 0)=false:=beq_eq_false_iff_ne.mpr c34
       have c34b1:(a0_1 != 0)=true:=bne_iff_ne.mpr c34
       have H':=zm H
       clear H
       obtain ⟨hcz42_0,hcz42_1,hcz42_2,hcz42_3,hcz42_4,hcz42_5,hcz42_6,hfz42_0,hfz42_1,hfz42_2,hfz42_3,hfz42_4,hfz42_5,hfz42_6⟩:=zc7 BK244.out
       go_wp2
       go_meet
       case rel=>exact ⟨_,(true),zs_,H',⟨by have:=HJ1.out;first|omega|exact Nat.le_refl _⟩,⟨zx_⟩,⟨zb_⟩⟩
     ·rw [if_neg c33] at H
      have c33b0:(a0_0 == 0)=false:=beq_eq_false_iff_ne.mpr c33
      have c33b1:(a0_0 != 0)=true:=bne_iff_ne.mpr c33
      (first|rw [c33b0]|(simp only [i64_w,i32_w];rw [c33b0])|skip)
      have H':=zm H
      clear H
      obtain ⟨hcz43_0,hcz43_1,hcz43_2,hcz43_3,hcz43_4,hcz43_5,hcz43_6,hfz43_0,hfz43_1,hfz43_2,hfz43_3,hfz43_4,hfz43_5,hfz43_6⟩:=zc7 BK244.out
      go_wp2
      go_meet
      case rel=>exact ⟨_,(false),zs_,H',⟨by have:=HJ1.out;first|omega|exact Nat.le_refl _⟩,⟨zx_⟩,⟨zb_⟩⟩
    case rest =>
     clear HC32
     try clear c1
     try clear c2
     try clear p2
     try clear c3
     try clear c4
     try clear c4b0
     try clear c6
     try clear c6b0
     try clear c8
     try clear c8b0
     try clear c10
     try clear c10b0
     try clear c12
     try clear c12b0
     try clear c14
     try clear c14b0
     try clear c15
     try clear c16
     try clear c16b0
     try clear c18
     try clear c18b0
     try clear c20
     try clear c20b0
     try clear c22
     try clear c22b0
     try clear c24
     try clear c24b0
     try clear c26
     try clear c26b0
     try clear c31
     try clear c33
     try clear c33b0
     try clear c33b1
     try clear c34
     try clear c34b0
     try clear c34b1
     try clear c35
     try clear c35b0
     try clear c35b1
     try clear c36
     try clear c36b0
     try clear c36b1
     try clear c37
     try clear c37b0
     try clear c37b1
     try clear hcz11_0
     try clear hcz11_1
     try clear hcz11_2
     try clear hcz11_3
     try clear hcz11_4
     try clear hcz11_5
     try clear hcz11_6
     try clear hcz13_0
     try clear hcz13_1
     try clear hcz13_2
     try clear hcz13_3
     try clear hcz13_4
     try clear hcz13_5
     try clear hcz13_6
     try clear hcz15_0
     try clear hcz15_1
     try clear hcz15_2
     try clear hcz15_3
     try clear hcz15_4
     try clear hcz15_5
     try clear hcz15_6
     try clear hcz17_0
     try clear hcz17_1
     try clear hcz17_2
     try clear hcz17_3
     try clear hcz17_4
     try clear hcz17_5
     try clear hcz17_6
     try clear hcz19_0
     try clear hcz19_1
     try clear hcz19_2
     try clear hcz19_3
     try clear hcz19_4
     try clear hcz19_5
     try clear hcz19_6
     try clear hcz21_0
     try clear hcz21_1
     try clear hcz21_2
     try clear hcz21_3
     try clear hcz21_4
     try clear hcz21_5
     try clear hcz21_6
     try clear hcz23_0
     try clear hcz23_1
     try clear hcz23_2
     try clear hcz23_3
     try clear hcz23_4
     try clear hcz23_5
     try clear hcz23_6
     try clear hcz25_0
     try clear hcz25_1
     try clear hcz25_2
     try clear hcz25_3
     try clear hcz25_4
     try clear hcz25_5
     try clear hcz25_6
     try clear hcz27_0
     try clear hcz27_1
     try clear hcz27_2
     try clear hcz27_3
     try clear hcz27_4
     try clear hcz27_5
     try clear hcz27_6
     try clear hcz29_0
     try clear hcz29_1
     try clear hcz29_2
     try clear hcz29_3
     try clear hcz29_4
     try clear hcz29_5
     try clear hcz29_6
     try clear hcz38_0
     try clear hcz38_1
     try clear hcz38_2
     try clear hcz38_3
     try clear hcz38_4
     try clear hcz38_5
     try clear hcz38_6
     try clear hcz39_0
     try clear hcz39_1
     try clear hcz39_2
     try clear hcz39_3
     try clear hcz39_4
     try clear hcz39_5
     try clear hcz39_6
     try clear hcz40_0
     try clear hcz40_1
     try clear hcz40_2
     try clear hcz40_3
     try clear hcz40_4
     try clear hcz40_5
     try clear hcz40_6
     try clear hcz41_0
     try clear hcz41_1
     try clear hcz41_2
     try clear hcz41_3
     try clear hcz41_4
     try clear hcz41_5
     try clear hcz41_6
     try clear hcz42_0
     try clear hcz42_1
     try clear hcz42_2
     try clear hcz42_3
     try clear hcz42_4
     try clear hcz42_5
     try clear hcz42_6
     try clear hcz43_0
     try clear hcz43_1
     try clear hcz43_2
     try clear hcz43_3
     try clear hcz43_4
     try clear hcz43_5
     try clear hcz43_6
     try clear hcz5_0
     try clear hcz5_1
     try clear hcz5_2
     try clear hcz5_3
     try clear hcz5_4
     try clear hcz5_5
     try clear hcz5_6
     try clear hcz7_0
     try clear hcz7_1
     try clear hcz7_2
     try clear hcz7_3
     try clear hcz7_4
     try clear hcz7_5
     try clear hcz7_6
     try clear hcz9_0
     try clear hcz9_1
     try clear hcz9_2
     try clear hcz9_3
     try clear hcz9_4
     try clear hcz9_5
     try clear hcz9_6
     try clear hfz11_0
     try clear hfz11_1
     try clear hfz11_2
     try clear hfz11_3
     try clear hfz11_4
     try clear hfz11_5
     try clear hfz11_6
     try clear hfz13_0
     try clear hfz13_1
     try clear hfz13_2
     try clear hfz13_3
     try clear hfz13_4
     try clear hfz13_5
     try clear hfz13_6
     try clear hfz15_0
     try clear hfz15_1
     try clear hfz15_2
     try clear hfz15_3
     try clear hfz15_4
     try clear hfz15_5
     try clear hfz15_6
     try clear hfz17_0
     try clear hfz17_1
     try clear hfz17_2
     try clear hfz17_3
     try clear hfz17_4
     try clear hfz17_5
     try clear hfz17_6
     try clear hfz19_0
     try clear hfz19_1
     try clear hfz19_2
     try clear hfz19_3
     try clear hfz19_4
     try clear hfz19_5
     try clear hfz19_6
     try clear hfz21_0
     try clear hfz21_1
     try clear hfz21_2
     try clear hfz21_3
     try clear hfz21_4
     try clear hfz21_5
     try clear hfz21_6
     try clear hfz23_0
     try clear hfz23_1
     try clear hfz23_2
     try clear hfz23_3
     try clear hfz23_4
     try clear hfz23_5
     try clear hfz23_6
     try clear hfz25_0
     try clear hfz25_1
     try clear hfz25_2
     try clear hfz25_3
     try clear hfz25_4
     try clear hfz25_5
     try clear hfz25_6
     try clear hfz27_0
     try clear hfz27_1
     try clear hfz27_2
     try clear hfz27_3
     try clear hfz27_4
     try clear hfz27_5
     try clear hfz27_6
     try clear hfz29_0
     try clear hfz29_1
     try clear hfz29_2
     try clear hfz29_3
     try clear hfz29_4
     try clear hfz29_5
     try clear hfz29_6
     try clear hfz38_0
     try clear hfz38_1
     try clear hfz38_2
     try clear hfz38_3
     try clear hfz38_4
     try clear hfz38_5
     try clear hfz38_6
     try clear hfz39_0
     try clear hfz39_1
     try clear hfz39_2
     try clear hfz39_3
     try clear hfz39_4
     try clear hfz39_5
     try clear hfz39_6
     try clear hfz40_0
     try clear hfz40_1
     try clear hfz40_2
     try clear hfz40_3
     try clear hfz40_4
     try clear hfz40_5
     try clear hfz40_6
     try clear hfz41_0
     try clear hfz41_1
     try clear hfz41_2
     try clear hfz41_3
     try clear hfz41_4
     try clear hfz41_5
     try clear hfz41_6
     try clear hfz42_0
     try clear hfz42_1
     try clear hfz42_2
     try clear hfz42_3
     try clear hfz42_4
     try clear hfz42_5
     try clear hfz42_6
     try clear hfz43_0
     try clear hfz43_1
     try clear hfz43_2
     try clear hfz43_3
     try clear hfz43_4
     try clear hfz43_5
     try clear hfz43_6
     try clear hfz5_0
     try clear hfz5_1
     try clear hfz5_2
     try clear hfz5_3
     try clear hfz5_4
     try clear hfz5_5
     try clear hfz5_6
     try clear hfz7_0
     try clear hfz7_1
     try clear hfz7_2
     try clear hfz7_3
     try clear hfz7_4
     try clear hfz7_5
     try clear hfz7_6
     try clear hfz9_0
     try clear hfz9_1
     try clear hfz9_2
     try clear hfz9_3
     try clear hfz9_4
     try clear hfz9_5
     try clear hfz9_6
     try clear p2
     obtain ⟨kq,x94_31,rfl,HA,HJ31,BK244,HB⟩:=hcut
     cases kq with
     | zero=>exact absurd HA.out (by simp [slipwayref14_Check.j1])
     | succ kj31 =>
      have H:=HA.out
      clear HA
      simp only [slipwayref14_Check.j1] at H
      by_cases c44:x94_31=true
      ·subst c44
       have H1:(some 140)=some r:=by rw [if_pos rfl] at H;exact H
       clear H
       have H:=H1
       clear H1
       obtain rfl:=Option.some.inj H
       go_wp2
       go_ret
       exact ⟨ze_,zb_⟩
      ·replace c44:=Bool.eq_false_iff.mpr c44
       subst c44
       have H1:(if a0_0=2 then (if (Int.tmod a0_2 256)=0 then (some 0) else (some 140)) else (some 0))=some r:=by rw [if_neg (show ¬ (false=true) by decide)] at H;exact H
       clear H
       have H:=H1
       clear H1
       by_cases c45:a0_0=2
       ·rw [if_pos c45] at H
        have c45b0:(a0_0 == 2)=true:=beq_iff_eq.mpr c45
        have c45b1:(a0_0 != 2)=false:=bne_eq_false_iff_eq.mpr c45
        clear c45
        by_cases c46:(Int.tmod a0_2 256)=0
        ·rw [if_pos c46] at H
         have c46b0:((Int.tmod a0_2 256) == 0)=true:=beq_iff_eq.mpr c46
         have c46b1:((Int.tmod a0_2 256) != 0)=false:=bne_eq_false_iff_eq.mpr c46
         clear c46
         obtain rfl:=Option.some.inj H
         obtain ⟨hcz47_0,hcz47_1,hcz47_2,hcz47_3,hcz47_4,hcz47_5,hcz47_6,hfz47_0,hfz47_1,hfz47_2,hfz47_3,hfz47_4,hfz47_5,hfz47_6⟩:=zc7 BK244.out
         go_wp2
         go_ret
         exact ⟨ze_,zb_⟩
        ·rw [if_neg c46] at H
         have c46b0:((Int.tmod a0_2 256) == 0)=false:=beq_eq_false_iff_ne.mpr c46
         have c46b1:((Int.tmod a0_2 256) != 0)=true:=bne_iff_ne.mpr c46
         obtain rfl:=Option.some.inj H
         obtain ⟨hcz48_0,hcz48_1,hcz48_2,hcz48_3,hcz48_4,hcz48_5,hcz48_6,hfz48_0,hfz48_1,hfz48_2,hfz48_3,hfz48_4,hfz48_5,hfz48_6⟩:=zc7 BK244.out
         go_wp2
         go_ret
         exact ⟨ze_,zb_⟩
       ·rw [if_neg c45] at H
        have c45b0:(a0_0 == 2)=false:=beq_eq_false_iff_ne.mpr c45
        have c45b1:(a0_0 != 2)=true:=bne_iff_ne.mpr c45
        obtain rfl:=Option.some.inj H
        obtain ⟨hcz49_0,hcz49_1,hcz49_2,hcz49_3,hcz49_4,hcz49_5,hcz49_6,hfz49_0,hfz49_1,hfz49_2,hfz49_3,hfz49_4,hfz49_5,hfz49_6⟩:=zc7 BK244.out
        go_wp2
        go_ret
        exact ⟨ze_,zb_⟩
end Go.Proofs.Ytjoojmodghpimaa.Print
end
section
namespace Go.Proofs.Ytjoojmodghpimaa.Print
open Go.RowKit Go.Proofs.YtjoojmodghpimaaW.PrintWords Go.Proofs.YtjoojmodghpimaaW.PrintLast Go.Proofs.YtjoojmodghpimaaW.PrintMore
attribute [local go_sem] max2_int min2_int max_two min_two max_three min_three max_four min_four   -- for this text's walks alone
attribute [local go_sem ↓] Go.Proofs.Ytjoojmodghpimaa.Sem.isSome_setCell
attribute [local go_sem] Go.Instr.field Go.asAgg
set_option linter.unusedVariables false
set_option linter.unusedSimpArgs false
def slipwayref01_Width.l0:Nat → List Int → Int → Int → Option (Int × Int)
 | 0,_,_,_=>none
 | k + 1,x0,x4,x5=>if x5 < (x0.length:Int) then (if 0≤x5 then (if (rd x0 x5) < 1 then (some (0,1)) else (if (rd x0 x5) > 64 then (some (0,1)) else (slipwayref01_Width.l0 k x0 (wrap64 (x4 + (rd x0 x5))) (wrap64 (x5 + 1))))) else (none)) else (some (wrap64 (Int.tdiv (wrap64 (x4 + 7)) 8),0))
def slipwayref01_Width.f (k:Nat) (l0:List Int):Option (Int × Int):=if (l0.length:Int) > 64 then (some (0,1)) else (slipwayref01_Width.l0 k l0 0 0)
set_option maxHeartbeats 8000000 in
set_option maxRecDepth 100000 in
theorem slipwayref01_Width.calls (k:Nat) (A0:Option Addr) (c0:Nat) (l0:List Int) (r1:Int) (r2:Int) (w:World) (hr0:Kd.C (Kd.int .i64) w A0 l0.length l0) (hc0:l0.length≤c0) (h:slipwayref01_Width.f k l0=some (r1,r2)) :
  Calls Try.prog 51 #[.slice A0 l0.length c0] w fun e w'=>e=.returned (.tuple #[.int .i64 r1,.int .i64 r2])∧Drawn0 w w':=by
 have HR0:=zm hr0
 have HC0:=zm hc0
 clear hr0 hc0
 have H:(if (l0.length:Int) > 64 then (some (0,1)) else (slipwayref01_Width.l0 k l0 0 0))=some (r1,r2):=h
 clear h
 by_cases c2:(l0.length:Int) > 64
 ·rw [if_pos c2] at H
  have c2b0:decide (64 < (l0.length:Int))=true:=decide_eq_true c2
  have c2b1:decide (64 < l0.length)=true:=decide_eq_true (by omega)
  clear c2
  simp only [Option.some.injEq,Prod.mk.injEq] at H
  obtain ⟨rfl,rfl⟩:=H
  go_enter Try.func51,Try.ntmps51
  go_wp2
  go_ret2
  exact ⟨by first|rfl|(simp;done)|(simp [*];done),by repeat (first|exact Drawn0.refl _|apply Drawn0.step)⟩
 ·rw [if_neg c2] at H
  have c2b0:decide (64 < (l0.length:Int))=false:=decide_eq_false c2
  have c2b1:decide (64 < l0.length)=false:=decide_eq_false (by omega)
  clear c2
  have H':=zm H
  clear H
  go_enter Try.func51,Try.ntmps51
  go_wp2
  go_loopg [4,5] k (fun kq v4 v5 w'=>∃ (x4_1:Int) (x5_1:Int),v4=.int .i64 x4_1∧v5=.int .i64 x5_1∧Aside0 (slipwayref01_Width.l0 kq l0 x4_1 x5_1=some (r1,r2))∧Aside0 (kq≤k)∧Drawn0 w w')
  case atStart=>exact ⟨(0),(0),zs_,zs_,H',⟨Nat.le_refl _⟩,by repeat (first|exact Drawn0.refl _|apply Drawn0.step)⟩
  case round =>
   clear H'
   try clear c2
   try clear c2b0
   try clear c2b1
   try clear p2
   obtain ⟨x4_1,x5_1,rfl,rfl,HA,HK1,⟨m1,rfl⟩⟩:=hrel
   cases gk with
   | zero=>exact absurd HA.out (by simp [slipwayref01_Width.l0])
   | succ k1 =>
    have H:=HA.out
    clear HA
    simp only [slipwayref01_Width.l0] at H
    by_cases c3:x5_1 < (l0.length:Int)
    ·rw [if_pos c3] at H
     have c3b0:decide (x5_1 < (l0.length:Int))=true:=decide_eq_true c3
     clear c3
     by_cases c4:0≤x5_1
     ·rw [if_pos c4] at H
      have c4b0:decide (0≤x5_1)=true:=decide_eq_true c4
      clear c4
      by_cases c5:(rd l0 x5_1) < 1
      ·rw [if_pos c5] at H
       have c5b0:decide ((rd l0 x5_1) < 1)=true:=decide_eq_true c5
       clear c5
       simp only [Option.some.injEq,Prod.mk.injEq] at H
       obtain ⟨rfl,rfl⟩:=H
       have p246:0≤(x5_1:Int):=za_
       have q246:x5_1 < (l0.length:Int):=za_
       obtain ⟨ad246,e246,hx246_0⟩:=Kd.at_int HR0.out x5_1 p246 q246
       cases e246
       replace p246:=eq_true p246
       replace q246:=eq_true q246
       go_wp2
       go_ret2
       exact ⟨by first|rfl|(simp;done)|(simp [*];done),by repeat (first|exact Drawn0.refl _|apply Drawn0.step)⟩
      ·rw [if_neg c5] at H
       have c5b0:decide ((rd l0 x5_1) < 1)=false:=decide_eq_false c5
       clear c5
       by_cases c6:(rd l0 x5_1) > 64
       ·rw [if_pos c6] at H
        have c6b0:decide (64 < (rd l0 x5_1))=true:=decide_eq_true c6
        clear c6
        simp only [Option.some.injEq,Prod.mk.injEq] at H
        obtain ⟨rfl,rfl⟩:=H
        have p246:0≤(x5_1:Int):=za_
        have q246:x5_1 < (l0.length:Int):=za_
        obtain ⟨ad246,e246,hx246_0⟩:=Kd.at_int HR0.out x5_1 p246 q246
        cases e246
        replace p246:=eq_true p246
        replace q246:=eq_true q246
        have p247:0≤(x5_1:Int):=za_
        have q247:x5_1 < (l0.length:Int):=za_
        obtain ⟨ad247,e247,hx247_0⟩:=Kd.at_int HR0.out x5_1 p247 q247
        obtain rfl:ad246=ad247:=(by injection e247)
        replace p247:=eq_true p247
        replace q247:=eq_true q247
        go_wp2
        go_ret2
        exact ⟨by first|rfl|(simp;done)|(simp [*];done),by repeat (first|exact Drawn0.refl _|apply Drawn0.step)⟩
       ·rw [if_neg c6] at H
        have c6b0:decide (64 < (rd l0 x5_1))=false:=decide_eq_false c6
        clear c6
        have H':=zm H
        clear H
        have p246:0≤(x5_1:Int):=za_
        have q246:x5_1 < (l0.length:Int):=za_
        obtain ⟨ad246,e246,hx246_0⟩:=Kd.at_int HR0.out x5_1 p246 q246
        cases e246
        replace p246:=eq_true p246
        replace q246:=eq_true q246
        have p247:0≤(x5_1:Int):=za_
        have q247:x5_1 < (l0.length:Int):=za_
        obtain ⟨ad247,e247,hx247_0⟩:=Kd.at_int HR0.out x5_1 p247 q247
        obtain rfl:ad246=ad247:=(by injection e247)
        replace p247:=eq_true p247
        replace q247:=eq_true q247
        have p248:0≤(x5_1:Int):=za_
        have q248:x5_1 < (l0.length:Int):=za_
        obtain ⟨ad248,e248,hx248_0⟩:=Kd.at_int HR0.out x5_1 p248 q248
        obtain rfl:ad246=ad248:=(by injection e248)
        replace p248:=eq_true p248
        replace q248:=eq_true q248
        go_wp2
        go_roundg k1
        case measure=>have:=HK1.out;omega
        case rel=>exact ⟨(wrap64 (x4_1 + (rd l0 x5_1))),(wrap64 (x5_1 + 1)),zs_,zs_,H',⟨by have:=HK1.out;omega⟩,by repeat (first|exact Drawn0.refl _|apply Drawn0.step)⟩
     ·rw [if_neg c4] at H
      exact absurd H (by simp)
    ·rw [if_neg c3] at H
     have c3b0:decide (x5_1 < (l0.length:Int))=false:=decide_eq_false c3
     clear c3
     simp only [Option.some.injEq,Prod.mk.injEq] at H
     obtain ⟨rfl,rfl⟩:=H
     go_wp2
     go_ret2
     exact ⟨by first|rfl|(simp;done)|(simp [*];done),by repeat (first|exact Drawn0.refl _|apply Drawn0.step)⟩
end Go.Proofs.Ytjoojmodghpimaa.Print
end
