/- Texts of the proof of PoolStays, part 18. -/
import Derived.Test.YtlegmnpngcadhaaPoolStaysMA
import Derived.Test.YtlegmnpngcadhaaPoolStaysM14
import Derived.Test.YtlegmnpngcadhaaPoolStaysM15
import Derived.Test.YtlegmnpngcadhaaPoolStaysM16
import Derived.Test.YtlegmnpngcadhaaPoolStaysM17
section
namespace Go.Proofs.Ytlegmnpngcadhaa.Print
open Go.RowKit Go.Proofs.YtlegmnpngcadhaaW.PrintWords Go.Proofs.YtlegmnpngcadhaaW.PrintLast Go.Proofs.YtlegmnpngcadhaaW.PrintMore
attribute [local go_sem] max2_int min2_int max_two min_two max_three min_three max_four min_four   -- for this text's walks alone
attribute [local go_sem ↓] Go.Proofs.Ytlegmnpngcadhaa.Sem.isSome_setCell
attribute [local go_sem] Go.Instr.field Go.asAgg
set_option linter.unusedVariables false
set_option linter.unusedSimpArgs false
-- CX
structure PEnt where
 lo:Nat
 hi:Nat
 vr:Value
 vw:Value
 rs:List Int
 ws:List Int
def PEnt.row (e:PEnt):List Value:=[e.vr,e.vw]
def PEnt.ok (e:PEnt) (W:World):Prop:=(Kd.int .i64).R 3 W e.lo (fun k=>e.lo≤k∧k < e.hi) e.vr e.rs∧(Kd.int .i64).R 2 W e.lo (fun k=>e.lo≤k∧k < e.hi) e.vw e.ws
def PEnt.apart (a b:PEnt):Prop:=a.hi≤b.lo∨b.hi≤a.lo
theorem ps_mk {w w1:World} {vr vw:Value} {rs ws:List Int} (h0:(Kd.int .i64).R 3 w1 w.heap.size (fun _=>True) vr rs) (h1:(Kd.int .i64).R 2 w1 w.heap.size (fun _=>True) vw ws):PEnt.ok ⟨w.heap.size,w1.heap.size,vr,vw,rs,ws⟩ w1 :=
 ⟨Kd.R_mono (Kd.R_bound h0) (fun k hk=>⟨hk.2.1,hk.2.2.1⟩),Kd.R_mono (Kd.R_bound h1) (fun k hk=>⟨hk.2.1,hk.2.2.1⟩)⟩
theorem PEnt.below {e:PEnt} {w w1:World} (h:e.ok w) (hb:Below w.heap.size w w1):e.ok w1:=⟨Kd.R_below h.1 hb,Kd.R_below h.2 hb⟩
def chkAll (k:Nat):List (List Int × List Int) → Option Bool
 | []=>some true
 | e :: t=>(pool_Check.f k e.1 e.2).bind fun c=>if c=0 then chkAll k t else none
def ps_keep (five:List (List Int × List Int × Int)):List (List Int × List Int):=(five.filter (fun x=>x.2.2 == 0)).map (fun x=>(x.1,x.2.1))
def ps_fine (p0:List Int) (l:List (List Int × List Int)):Prop:=∀ x ∈ l,x.1.length=p0.length∧∀ i,i < p0.length → p0.getD i 0=6 → x.1.getD i 0=6
instance (p0:List Int) (l:List (List Int × List Int)):Decidable (ps_fine p0 l):=by unfold ps_fine;infer_instance
def slipwaylaw04_PoolStays.f (k:Nat) (p0 p1:List Int) (a1 a2:Int) (l:List Int):Option Bool :=
 (slipwaylaw04_begun.f k).bind fun t=>if t=true then (pool_Check.f k p0 p1).bind fun c=>if c=0 then
 (slipwayref04_Clone.f p0 p1).bind fun was=>if was=(p0,p1) then
 (pool_Take.f k p0 p1 a1 a2).bind fun x1=>(pool_Give.f k p0 p1 a1).bind fun x2=>(pool_Erased.f k p0 p1 a1).bind fun x3=>(pool_Retire.f k p0 p1 a1).bind fun x4=>(pool_Wears.f k p0 p1 l).bind fun x5 =>
 (pool_Clone.f p0 p1).bind fun x0=>if x0=(p0,p1) then
 (chkAll k ((p0,p1) :: ps_keep [x1,x2,x3,x4,x5])).bind fun t=>if t=true then
 if ps_fine p0 ((p0,p1) :: ps_keep [x1,x2,x3,x4,x5])∧(1≤p0.length∧p0.length≤256) then
 (slipwayref04_Same.f k p0 p1 p0 p1).bind fun t=>if t=true then (pool_Same.f k p0 p1 p0 p1).bind fun t=>if t=true then some true
 else none else none else none else none else none else none else some true else none
theorem ps_box {lo hi:Nat} {vr vw:Value} {rs ws:List Int} {W:World} (h:PEnt.ok ⟨lo,hi,vr,vw,rs,ws⟩ W):∃ E:PEnt,E.vr=vr∧E.vw=vw∧E.rs=rs∧E.ws=ws∧E.lo=lo∧E.hi=hi∧E.ok W:=⟨_,rfl,rfl,rfl,rfl,rfl,rfl,h⟩
theorem ps_six {e0 e1 e2 e3 e4 e5:PEnt} {W:World} (h0:e0.ok W) (h1:e1.ok W) (h2:e2.ok W) (h3:e3.ok W) (h4:e4.ok W) (h5:e5.ok W) (s1:e1.lo≤e1.hi) (s2:e2.lo≤e2.hi) (s3:e3.lo≤e3.hi) (s4:e4.lo≤e4.hi) (s5:e5.lo≤e5.hi) (s0:e0.lo≤e0.hi)
  (o12:e1.hi≤e2.lo) (o23:e2.hi≤e3.lo) (o34:e3.hi≤e4.lo) (o45:e4.hi≤e5.lo) (o50:e5.hi≤e0.lo) :
  (∀ e ∈ [e0,e1,e2,e3,e4,e5],e.ok W∧e1.lo≤e.lo∧e.hi≤e0.hi)∧[e0,e1,e2,e3,e4,e5].Pairwise PEnt.apart:=by
 refine ⟨?_,?_⟩
 ·intro e he
  simp only [List.mem_cons,List.not_mem_nil,or_false] at he
  rcases he with rfl|rfl|rfl|rfl|rfl|rfl
  ·exact ⟨h0,by omega,by omega⟩
  ·exact ⟨h1,by omega,by omega⟩
  ·exact ⟨h2,by omega,by omega⟩
  ·exact ⟨h3,by omega,by omega⟩
  ·exact ⟨h4,by omega,by omega⟩
  ·exact ⟨h5,by omega,by omega⟩
 ·simp only [List.pairwise_cons,List.mem_cons,List.not_mem_nil,or_false,forall_eq_or_imp,forall_eq,PEnt.apart,false_imp_iff,implies_true,List.Pairwise.nil,and_true]
  omega
def keepE (l:List (PEnt × Int)):List PEnt:=(l.filter (fun x=>x.2 == 0)).map (fun x=>x.1)
def madeE (e0:PEnt) (l:List (PEnt × Int)):List PEnt:=e0 :: keepE l
theorem keepE_sub (l:List (PEnt × Int)):(keepE l).Sublist (l.map (fun x=>x.1)):=List.Sublist.map _ List.filter_sublist
theorem madeE_mem {e0 e:PEnt} {l:List (PEnt × Int)} (h:e ∈ madeE e0 l):e ∈ e0 :: l.map (fun x=>x.1):=by
 rcases List.mem_cons.1 h with rfl|h
 ·exact List.mem_cons_self
 ·exact List.mem_cons_of_mem _ ((keepE_sub l).subset h)
theorem madeE_apart {e0:PEnt} {l:List (PEnt × Int)} (h:(e0 :: l.map (fun x=>x.1)).Pairwise PEnt.apart):(madeE e0 l).Pairwise PEnt.apart:=h.sublist (List.Sublist.cons_cons _ (keepE_sub l))
theorem madeE_snoc {e0:PEnt} {l:List (PEnt × Int)} (x:PEnt × Int):madeE e0 (l ++ [x])=if x.2=0 then madeE e0 l ++ [x.1] else madeE e0 l:=by
 unfold madeE keepE
 rw [List.filter_append,List.map_append]
 by_cases h:x.2=0
 ·rw [if_pos h]
  simp [h]
 ·rw [if_neg h]
  simp [h]
theorem keepE_rows (l:List (PEnt × Int)):(keepE l).map (fun e=>(e.rs,e.ws))=ps_keep (l.map (fun x=>(x.1.rs,x.1.ws,x.2))):=by
 unfold keepE ps_keep
 rw [List.filter_map,List.map_map,List.map_map]
 rfl
theorem chkAll_mem {k:Nat}:∀ {l:List (List Int × List Int)},chkAll k l=some true → ∀ x ∈ l,pool_Check.f k x.1 x.2=some 0
 | [],_,x,hx=>by cases hx
 | y :: t,h,x,hx=>by
  unfold chkAll at h
  obtain ⟨c,hc,h⟩:=Option.bind_eq_some_iff.1 h
  by_cases h0:c=0
  ·subst h0
   rw [if_pos rfl] at h
   rcases List.mem_cons.1 hx with rfl|hx
   ·exact hc
   ·exact chkAll_mem h x hx
  ·rw [if_neg h0] at h
   cases h
theorem PEnt.one {e:PEnt} {W:World} (h:e.ok W):e.vr.oneCell'=true∧e.vw.oneCell'=true:=by
 obtain ⟨A,c,h0⟩:=Kd.R_slice h.1
 obtain ⟨B,d,h1⟩:=Kd.R_slice h.2
 rw [h0,h1]
 exact ⟨rfl,rfl⟩
theorem ps_one {W:World} {g:Nat} {v0 v1:Value} (hb:W.heap[g]?=some (.cells #[v0,v1] 25 (0,0))) (h0:v0.oneCell'=true) (h1:v1.oneCell'=true):(Kd.raw 2).C W (some ⟨g,0,none⟩) 1 [[v0,v1]]:=by
 refine ⟨rfl,by simp,fun _=>⟨_,rfl,fun j p hj=>?_⟩⟩
 rcases j with _|j
 ·cases hj
  refine ⟨[v0,v1],rfl,⟨rfl,rfl,by simp [h0,h1]⟩,fun i u hu=>?_⟩
  rcases i with _|_|i
  ·cases hu
   exact (blk_cell hb 0).trans rfl
  ·cases hu
   exact (blk_cell hb 1).trans rfl
  ·simp at hu
 ·simp at hj
section
variable {o : Oper} {a : Act} {W : World}
theorem ps_mk1 {x:Operand} {v0 v1:Value} (hop:o.op=.buildSlice 58 1 #[(0,x)]) (hx:a.eval x=.agg #[v0,v1]) (h0:v0.oneCell'=true) (h1:v1.oneCell'=true) :
  (execOp a.eval o).run Try.prog W=.ok (.value (.slice (some ⟨W.heap.size,0,none⟩) 1 1)) (W.alloc (.cells #[v0,v1] 25 (0,0))):=by
 generalize hE:a.eval=ev at hx ⊢
 simp only [execOp,hop]
 go_simp
theorem ps_ldj {g j:Nat} {p:Operand} {x0 x1:Value} (hop:o.op=.load 25 p) (hp:a.eval p=.pointer (some ⟨g,j,none⟩)) (c0:W.cell? ⟨g,j,none⟩=some x0) (c1:W.cell? ⟨g,j + 1,none⟩=some x1):(execOp a.eval o).run Try.prog W=.ok (.value (.agg #[x0,x1])) W:=by
 have hu25:=Try.underlying25
 simp only [execOp,hop,hp]
 go_simp
 done
theorem ps_new (hop:o.op=.alloc 25):(execOp a.eval o).run Try.prog W=.ok (.value (.pointer (some ⟨W.heap.size,0,none⟩))) (W.alloc (.cells #[.slice none 0 0,.slice none 0 0] 25 (0,0))):=by
 simp only [execOp,hop]
 go_simp
theorem ps_st {g:Nat} {x p:Operand} {A0 A1:Option Addr} {n0 n1 c0 c1:Nat} {x0 x1:Value} (hop:o.op=.store 25 p x) (hp:a.eval p=.pointer (some ⟨g,0,none⟩)) (hx:a.eval x=.agg #[.slice A0 n0 c0,.slice A1 n1 c1]) (hb:W.heap[g]?=some (.cells #[x0,x1] 25 (0,0))) :
  (execOp a.eval o).run Try.prog W=.ok .skip (Cw.setL W g 0 [.slice A0 n0 c0,.slice A1 n1 c1]):=by
 have hu25:=Try.underlying25
 have c0:W.cell? ⟨g,0,none⟩=some x0:=(blk_cell hb 0).trans rfl
 have c1:W.cell? ⟨g,1,none⟩=some x1:=(blk_cell hb 1).trans rfl
 have f0:=blk_frozen hb 0
 have f1:=blk_frozen hb 1
 simp only [execOp,hop,hp,hx]
 go_simp
 rfl
end
section
variable {ops : Array Oper} {rest : List Oper} {o : Oper} {a : Act} {Q : Exit → Act → World → Prop}
theorem ps_made {W:World} (v:Nat → Value) {cs:Array Value} {t:TypeId} (hgd:o.guard=none) (hrun:(execOp a.eval o).run Try.prog W=.ok (.value (v W.heap.size)) (W.alloc (.cells cs t (0,0))))
  (h:∀ g,g=W.heap.size → ∀ w1,w1.heap[g]?=some (.cells cs t (0,0)) → Below W.heap.size W w1 → wpList Try.prog ops Q rest (a.put o.dst (v g)) w1):wpList Try.prog ops Q (o :: rest) a W :=
 Kd.event_run hgd hrun (h _ rfl _ (blk_new W _) (zlA (Below.refl _ _) _))
theorem ps_put {W:World} {g i n cap base:Nat} {ok:Nat → Prop} {xs:List Int} {p:Operand} (hgd:o.guard=none) (hN:o.dst=none) (hop:o.op=.store 3 p (.const (.int .i64 99))) (hp:a.eval p=.pointer (some ⟨g,i,none⟩))
  (h:(Kd.int .i64).R 3 W base ok (.slice (some ⟨g,0,none⟩) n cap) xs) (hi:i < n)
  (hk:∀ w1,(Kd.int .i64).R 3 w1 base ok (.slice (some ⟨g,0,none⟩) n cap) (xs.set i 99) → W.grownBy w1 (some g) → wpList Try.prog ops Q rest a w1):wpList Try.prog ops Q (o :: rest) a W:=by
 obtain ⟨c,hcl,hM,hcc,hfr⟩:=Kd.R_elem h 0 (i:Int) (by omega) (by omega)
 have hs:=Kd.R_putg h (i:Int) 99
 rw [Int.toNat_natCast] at hcc hfr hs
 have hc0:c.length=1:=hcl
 have c0:=hcc 0 _ (List.getElem?_eq_getElem (by omega))
 have f0:=hfr 0
 have e1:i * (Kd.int .i64).sz + 0=i:=Nat.mul_one i
 rw [e1] at c0 f0
 have hrun:(execOp a.eval o).run Try.prog W=.ok .skip (W.setCell ⟨g,i,none⟩ (.int .i64 99)):=by
  simp only [execOp,hop,hp]
  go_simp
  done
 refine wpList_plain hgd fun K hK=>?_
 unfold Oper.wp
 rw [hrun]
 show K (a.put o.dst undef) _
 rw [hN]
 exact hK _ _ (hk _ hs.1 hs.2)
end
section
variable {o : Oper} {a : Act} {W : World}
theorem ps_ld {g:Nat} {p:Operand} {x0 x1:Value} (hop:o.op=.load 25 p) (hp:a.eval p=.pointer (some ⟨g,0,none⟩)) (hb:W.heap[g]?=some (.cells #[x0,x1] 25 (0,0))):(execOp a.eval o).run Try.prog W=.ok (.value (.agg #[x0,x1])) W:=by
 have hu25:=Try.underlying25
 have c0:W.cell? ⟨g,0,none⟩=some x0:=(blk_cell hb 0).trans rfl
 have c1:W.cell? ⟨g,1,none⟩=some x1:=(blk_cell hb 1).trans rfl
 simp only [execOp,hop,hp]
 go_simp
 done
end
theorem ps_R1 {W:World} {g base:Nat} {v0 v1:Value} {ok:Nat → Prop} (hb:W.heap[g]?=some (.cells #[v0,v1] 25 (0,0))) (hg:base≤g) (hok:ok g) (h0:v0.oneCell'=true) (h1:v1.oneCell'=true):(Kd.raw 2).R 25 W base ok (.slice (some ⟨g,0,none⟩) 1 1) [[v0,v1]]:=by
 refine ⟨fun k hk=>?_,[v0,v1],⟨rfl,.inr ⟨g,1,#[v0,v1],rfl,hg,hb,Nat.le_refl _,by decide,rfl,rfl⟩⟩,⟨rfl,fun j p hj=>?_⟩⟩
 ·simp only [Value.ownBlock,Option.some.injEq] at hk
  subst hk
  exact hok
 ·rcases j with _|j
  ·cases hj
   exact ⟨rfl,rfl,show ∀ u ∈ [v0,v1],u.oneCell'=true by simp [h0,h1]⟩
  ·simp at hj
theorem ps_info25:(Try.prog.info? 25).map (fun i=>(i.zero,i.size,i.bytes))=some (some (.agg #[.slice none 0 0,.slice none 0 0]),2,48):=by kernel_rfl
def five (E1 E2 E3 E4 E5:PEnt) (i1 i2 i3 i4 i5:Int):List (PEnt × Int):=[(E1,i1),(E2,i2),(E3,i3),(E4,i4),(E5,i5)]
theorem ps_five {E1 E2 E3 E4 E5:PEnt} {i1 i2 i3 i4 i5:Int} {W:World} {g q:Nat} (h:q < 5) (hb:W.heap[g]?=some (.cells #[E1.vr,E1.vw,E2.vr,E2.vw,E3.vr,E3.vw,E4.vr,E4.vw,E5.vr,E5.vw] 25 (0,0))) :
  ∃ E i,(five E1 E2 E3 E4 E5 i1 i2 i3 i4 i5)[q]?=some (E,i)∧W.cell? ⟨g,q * 2,none⟩=some E.vr∧W.cell? ⟨g,q * 2 + 1,none⟩=some E.vw∧(#[Value.int .i64 i1,.int .i64 i2,.int .i64 i3,.int .i64 i4,.int .i64 i5]:Array Value)[q]?=some (.int .i64 i):=by
 rcases q with _|_|_|_|_|q
 ·exact ⟨E1,i1,rfl,(blk_cell hb 0).trans rfl,(blk_cell hb 1).trans rfl,rfl⟩
 ·exact ⟨E2,i2,rfl,(blk_cell hb 2).trans rfl,(blk_cell hb 3).trans rfl,rfl⟩
 ·exact ⟨E3,i3,rfl,(blk_cell hb 4).trans rfl,(blk_cell hb 5).trans rfl,rfl⟩
 ·exact ⟨E4,i4,rfl,(blk_cell hb 6).trans rfl,(blk_cell hb 7).trans rfl,rfl⟩
 ·exact ⟨E5,i5,rfl,(blk_cell hb 8).trans rfl,(blk_cell hb 9).trans rfl,rfl⟩
 ·omega
theorem five_take {E1 E2 E3 E4 E5 E:PEnt} {i1 i2 i3 i4 i5 i:Int} {q:Nat} (h:(five E1 E2 E3 E4 E5 i1 i2 i3 i4 i5)[q]?=some (E,i)):(five E1 E2 E3 E4 E5 i1 i2 i3 i4 i5).take (q + 1)=(five E1 E2 E3 E4 E5 i1 i2 i3 i4 i5).take q ++ [(E,i)]:=by
 rw [List.take_add_one,h]
 rfl
theorem five_mem {E0 E1 E2 E3 E4 E5 E:PEnt} {i1 i2 i3 i4 i5 i:Int} {q:Nat} (h:(five E1 E2 E3 E4 E5 i1 i2 i3 i4 i5)[q]?=some (E,i)):E ∈ [E0,E1,E2,E3,E4,E5]:=by
 have:=List.mem_of_getElem? h
 unfold five at this
 simp only [List.mem_cons,List.not_mem_nil,or_false,Prod.mk.injEq] at this ⊢
 rcases this with ⟨h,_⟩|⟨h,_⟩|⟨h,_⟩|⟨h,_⟩|⟨h,_⟩ <;> simp [h]
theorem madeE_len {e0:PEnt} (l:List (PEnt × Int)):(madeE e0 l).length≤l.length + 1:=by
 unfold madeE keepE
 rw [List.length_cons,List.length_map]
 have:=List.length_filter_le (fun x:PEnt × Int=>x.2 == 0) l
 omega
theorem ps_c28 {o:Oper} {a:Act} {W:World} {x:Operand} {g i t:Nat} {cs:Array Value} {v:Value} (hop:o.op=.load 28 x) (hx:a.eval x=.pointer (some ⟨g,i,none⟩)) (hb:W.heap[g]?=some (.cells cs t (0,0))) (hi:cs[i]?=some v):(execOp a.eval o).run Try.prog W=.ok (.value v) W:=by
 have c0:W.cell? ⟨g,i,none⟩=some v:=(blk_cell hb i).trans hi
 simp only [execOp,hop,hx]
 go_simp
 done
theorem ps_w {q:Nat} (h:q≤300):wrap64 ((q:Int) + 1)=((q + 1:Nat):Int):=by unfold wrap64;omega
theorem ps_m {q n:Nat} (h:q < n):n - (intOf (.int .i64 ((q + 1:Nat):Int))).toNat < n - (intOf (.int .i64 (q:Int))).toNat:=by
 simp [intOf]
 omega
theorem ps_facts {k:Nat} {s0 s1:List Int} {E0:PEnt} {F:List (PEnt × Int)} {L:List (List Int × List Int × Int)} (h0:E0.rs=s0) (h1:E0.ws=s1) (hF:F.map (fun x=>(x.1.rs,x.1.ws,x.2))=L) (hc:chkAll k ((s0,s1) :: ps_keep L)=some true) (hf:ps_fine s0 ((s0,s1) :: ps_keep L)) :
  ∀ e ∈ madeE E0 F,pool_Check.f k e.rs e.ws=some 0∧e.rs.length=s0.length∧∀ i,i < s0.length → s0.getD i 0=6 → e.rs.getD i 0=6:=by
 have hm:(madeE E0 F).map (fun e=>(e.rs,e.ws))=(s0,s1) :: ps_keep L:=by
  unfold madeE
  rw [List.map_cons,keepE_rows,hF,h0,h1]
 intro e he
 have hx:(e.rs,e.ws) ∈ (s0,s1) :: ps_keep L:=by
  rw [← hm]
  exact List.mem_map_of_mem he
 exact ⟨chkAll_mem hc _ hx,hf _ hx⟩
theorem ps_99 {rs:List Int} {q:Nat} (h:q < rs.length):(List.replicate q (99:Int) ++ rs.drop q).set q 99=List.replicate (q + 1) 99 ++ rs.drop (q + 1):=by
 rw [List.set_append_right _ _ (by simp),List.length_replicate,Nat.sub_self,List.drop_eq_getElem_cons h,List.set_cons_zero,List.replicate_succ']
 simp
theorem ps_99g {rs:List Int} {q:Nat} (h:q < rs.length):(List.replicate q (99:Int) ++ rs.drop q).getD q 0=rs.getD q 0:=by
 rw [List.getD_eq_getElem?_getD,List.getElem?_append_right (by simp),List.length_replicate,Nat.sub_self,List.getElem?_drop,Nat.add_zero,List.getD_eq_getElem?_getD]
theorem PEnt.step {e:PEnt} {W W1:World} {g:Nat} (h:e.ok W) (hg:W.grownBy W1 (some g)) (hk:∀ k,e.lo≤k∧k < e.hi → k≠g):e.ok W1 :=
 ⟨Kd.R_step h.1 (fun k ho hlt=>hg.block k hlt (fun e=>hk k ho (Option.some.inj e))),Kd.R_step h.2 (fun k ho hlt=>hg.block k hlt (fun e=>hk k ho (Option.some.inj e)))⟩
theorem ps_pair {M:List PEnt} (h:M.Pairwise PEnt.apart) {s j:Nat} {E e:PEnt} (hs:M[s]?=some E) (hj:M[j]?=some e) (hne:s < j) {g:Nat} (hg:E.lo≤g∧g < E.hi):∀ k,e.lo≤k∧k < e.hi → k≠g:=by
 obtain ⟨hs1,rfl⟩:=List.getElem?_eq_some_iff.1 hs
 obtain ⟨hj1,rfl⟩:=List.getElem?_eq_some_iff.1 hj
 have:=List.pairwise_iff_getElem.1 h s j hs1 hj1 hne
 unfold PEnt.apart at this
 intro k hk
 omega
theorem ps_row {M:List PEnt} {W:World} {base:Nat} {ok:Nat → Prop} {g n cap s:Nat} {E:PEnt} {v0 v1:Value} (h:(Kd.raw 2).R 25 W base ok (.slice (some ⟨g,0,none⟩) n cap) (M.map PEnt.row)) (hE:M[s]?=some E) (hn:s < n) (he:E.row=[v0,v1]):W.cell? ⟨g,s * 2,none⟩=some v0∧W.cell? ⟨g,s * 2 + 1,none⟩=some v1:=by
 obtain ⟨c,hcl,hM,hcc,_⟩:=Kd.R_elem h [] (s:Int) (by omega) (by omega)
 rw [Int.toNat_natCast] at hM hcc
 have e1:c=[v0,v1]:=by
  have h2:=hM.1
  rw [List.getD_eq_getElem?_getD,List.getElem?_map,hE] at h2
  rw [h2]
  exact he
 subst e1
 exact ⟨hcc 0 _ rfl,hcc 1 _ rfl⟩
theorem ps_int1 {W:World} {base:Nat} {ok:Nat → Prop} {x:Int} {c:List Value} (h:(Kd.int .i64).M W base ok x c):c=[.int .i64 x]:=h
theorem ps_gD {l:List Int} {i:Nat} (h:i < l.length):l.getD i 0=l[i]:=by rw [List.getD_eq_getElem?_getD,List.getElem?_eq_getElem h];rfl
set_option maxHeartbeats 4000000 in
set_option maxRecDepth 100000 in
theorem slipwaylaw04_PoolStays.calls (k:Nat) (A0_0:Option Addr) (c0_0:Nat) (l0_0:List Int) (A0_1:Option Addr) (c0_1:Nat) (l0_1:List Int) (a1:Int) (a2:Int) (A3:Option Addr) (c3:Nat) (l3:List Int) (r:Bool) (w:World) (hr0_0:Kd.C (Kd.int .i64) w A0_0 l0_0.length l0_0) (hc0_0:l0_0.length≤c0_0) (hr0_1:Kd.C (Kd.int .i64) w A0_1 l0_1.length l0_1) (hc0_1:l0_1.length≤c0_1) (hr3:Kd.C (Kd.int .i64) w A3 l3.length l3) (hc3:l3.length≤c3) (h:slipwaylaw04_PoolStays.f k l0_0 l0_1 a1 a2 l3=some r) :
  Calls Try.prog 7 #[.agg #[.slice A0_0 l0_0.length c0_0,.slice A0_1 l0_1.length c0_1],.int .i64 a1,.int .i64 a2,.slice A3 l3.length c3] w fun e w'=>e=.returned (.bool r)∧Below w.heap.size w w':=by
 have hu25:=Try.underlying25
 have H:slipwaylaw04_PoolStays.f k l0_0 l0_1 a1 a2 l3=some r:=h
 clear h
 have hh_:=zm hr0_0;clear hr0_0;have hr0_0:=hh_;clear hh_;have hh_:=zm hc0_0;clear hc0_0;have hc0_0:=hh_;clear hh_;have hh_:=zm hr0_1;clear hr0_1;have hr0_1:=hh_;clear hh_;have hh_:=zm hc0_1;clear hc0_1;have hc0_1:=hh_;clear hh_;have hh_:=zm hr3;clear hr3;have hr3:=hh_;clear hh_;have hh_:=zm hc3;clear hc3;have hc3:=hh_;clear hh_
 unfold slipwaylaw04_PoolStays.f at H
 have hg_:=Option.bind_eq_some_iff.mp H;clear H;obtain ⟨t,F0,H⟩:=hg_;have hh_:=zm F0;clear F0;have F0:=hh_;clear hh_;(try dsimp only at H);have hg_:=Cw.gt_ H;clear H;obtain ⟨rfl,H⟩:=hg_;have hg_:=Option.bind_eq_some_iff.mp H;clear H;obtain ⟨c,F1,H⟩:=hg_;have hh_:=zm F1;clear F1;have F1:=hh_;clear hh_;(try dsimp only at H)
 have hh_:=zm H;clear H;have H:=hh_;clear hh_
 go_enter Try.func7,Try.ntmps7
 go_wp2_with (first|((with_reducible refine gate_dst (N:=4) rfl ?_);refine box_event rfl (N:=4) rfl (cs:=_) (t:=25) (by first|(go_simp;done)|(go_simp;rfl)) ?_;rintro g4 hg w1 hbk hb;clear hg;have hh_:=zm hbk;clear hbk;have hbk:=hh_;clear hh_;have hh_:=zm hb;clear hb;have hb:=hh_;clear hh_)|(go_at_call 12;refine (slipwaylaw04_begun.calls k _ _ F0.out).mono ?_;rintro e w1 ⟨rfl,hb⟩;have hh_:=zm hb;clear hb;have hb:=hh_;clear hh_)|((with_reducible refine gate_ (.load 25 _) rfl ?_);refine Kd.event_run rfl (ps_ld rfl rfl (zbB (Aside0.out (by assumption)) (by repeat (first|exact Below.refl _ _|with_reducible apply zlN|with_reducible apply zlA|refine below_step ?_ (Aside0.out (by assumption)))))) ?_)|(go_at_call 13;refine (pool_Check.calls k _ _ _ _ _ _ _ _ (Kd.C_below (Aside0.out (by assumption)) (by repeat (first|exact Below.refl _ _|with_reducible apply zlN|with_reducible apply zlA|refine below_step ?_ (Aside0.out (by assumption))))) (Aside0.out (by assumption)) (Kd.C_below (Aside0.out (by assumption)) (by repeat (first|exact Below.refl _ _|with_reducible apply zlN|with_reducible apply zlA|refine below_step ?_ (Aside0.out (by assumption))))) (Aside0.out (by assumption)) F1.out).mono ?_;rintro e w1 ⟨rfl,hb⟩;have hh_:=zm hb;clear hb;have hb:=hh_;clear hh_)|((with_reducible refine Cw.guarded rfl ?gw ?_);(case gw=>first|rfl|(go_simp;done));dsimp only))
 ·have hz_:c≠0:=by simpa using (by assumption:(c != 0)=true)
  have H:=H.out
  rw [if_neg hz_] at H
  obtain rfl:=Option.some.inj H
  clear H hz_
  go_wp2_with (first|(go_at_call 12;refine (slipwaylaw04_begun.calls k _ _ F0.out).mono ?_;rintro e w1 ⟨rfl,hb⟩;have hh_:=zm hb;clear hb;have hb:=hh_;clear hh_))
  go_ret
  exact ⟨rfl,(by repeat (first|exact Below.refl _ _|with_reducible apply zlN|with_reducible apply zlA|refine below_step ?_ (Aside0.out (by assumption))))⟩
 have hz1:c=0:=by simpa using (by assumption:(c != 0)=false)
 have H:=H.out
 rw [if_pos hz1] at H;clear hz1
 have hg_:=Option.bind_eq_some_iff.mp H;clear H;obtain ⟨⟨q0,q1⟩,F2,H⟩:=hg_;have hh_:=zm F2;clear F2;have F2:=hh_;clear hh_;(try dsimp only at H);have hg_:=Cw.gt_ H;clear H;obtain ⟨hq,H⟩:=hg_
 obtain ⟨rfl,rfl⟩:=Prod.mk.inj hq
 clear hq
 have hg_:=Option.bind_eq_some_iff.mp H;clear H;obtain ⟨⟨r10,r11,i1⟩,F3,H⟩:=hg_;have hh_:=zm F3;clear F3;have F3:=hh_;clear hh_;(try dsimp only at H);have hg_:=Option.bind_eq_some_iff.mp H;clear H;obtain ⟨⟨r20,r21,i2⟩,F4,H⟩:=hg_;have hh_:=zm F4;clear F4;have F4:=hh_;clear hh_;(try dsimp only at H);have hg_:=Option.bind_eq_some_iff.mp H;clear H;obtain ⟨⟨r30,r31,i3⟩,F5,H⟩:=hg_;have hh_:=zm F5;clear F5;have F5:=hh_;clear hh_;(try dsimp only at H);have hg_:=Option.bind_eq_some_iff.mp H;clear H;obtain ⟨⟨r40,r41,i4⟩,F6,H⟩:=hg_;have hh_:=zm F6;clear F6;have F6:=hh_;clear hh_;(try dsimp only at H);have hg_:=Option.bind_eq_some_iff.mp H;clear H;obtain ⟨⟨r50,r51,i5⟩,F7,H⟩:=hg_;have hh_:=zm F7;clear F7;have F7:=hh_;clear hh_;(try dsimp only at H);have hg_:=Option.bind_eq_some_iff.mp H;clear H;obtain ⟨⟨s0,s1⟩,F8,H⟩:=hg_;have hh_:=zm F8;clear F8;have F8:=hh_;clear hh_;(try dsimp only at H);have hg_:=Cw.gt_ H;clear H;obtain ⟨hq,H⟩:=hg_
 obtain ⟨rfl,rfl⟩:=Prod.mk.inj hq
 clear hq
 have hg_:=Option.bind_eq_some_iff.mp H;clear H;obtain ⟨t,F9,H⟩:=hg_;have hh_:=zm F9;clear F9;have F9:=hh_;clear hh_;(try dsimp only at H);have hg_:=Cw.gt_ H;clear H;obtain ⟨rfl,H⟩:=hg_;have hg_:=Cw.gt_ H;clear H;obtain ⟨hfine,H⟩:=hg_;have hg_:=Option.bind_eq_some_iff.mp H;clear H;obtain ⟨t,F10,H⟩:=hg_;have hh_:=zm F10;clear F10;have F10:=hh_;clear hh_;(try dsimp only at H);have hg_:=Cw.gt_ H;clear H;obtain ⟨rfl,H⟩:=hg_;have hg_:=Option.bind_eq_some_iff.mp H;clear H;obtain ⟨t,F11,H⟩:=hg_;have hh_:=zm F11;clear F11;have F11:=hh_;clear hh_;(try dsimp only at H);have hg_:=Cw.gt_ H;clear H;obtain ⟨rfl,H⟩:=hg_
 obtain rfl:=Option.some.inj H
 clear H
 have hh_:=zm hfine;clear hfine;have hfine:=hh_;clear hh_
 go_wp2_with (first|((with_reducible refine gate_ (.load 25 _) rfl ?_);refine Kd.event_run rfl (ps_ld rfl rfl (zbB (Aside0.out (by assumption)) (by repeat (first|exact Below.refl _ _|with_reducible apply zlN|with_reducible apply zlA|refine below_step ?_ (Aside0.out (by assumption)))))) ?_))
 refine (slipwayref04_Clone.calls _ _ _ _ _ _ _ _ _ (Kd.C_below (Aside0.out (by assumption)) (by repeat (first|exact Below.refl _ _|with_reducible apply zlN|with_reducible apply zlA|refine below_step ?_ (Aside0.out (by assumption))))) (Aside0.out (by assumption)) (Kd.C_below (Aside0.out (by assumption)) (by repeat (first|exact Below.refl _ _|with_reducible apply zlN|with_reducible apply zlA|refine below_step ?_ (Aside0.out (by assumption))))) (Aside0.out (by assumption)) F2.out).mono ?_
 rintro e w9 ⟨v90,v91,rfl,ho0,ho1,hb⟩
 have he9:=zm (ps_mk ho0 ho1)
 have hs9:=zm hb.size
 obtain ⟨A90,c90,rfl⟩:=Kd.R_slice ho0
 obtain ⟨A91,c91,rfl⟩:=Kd.R_slice ho1
 clear ho0 ho1
 have hh_:=zm hb;clear hb;have hb:=hh_;clear hh_
 have hC90:=zm (Kd.R_reads' he9.out.1).2.2
 have hD90:=zm (Kd.R_reads' he9.out.1).2.1
 have hC91:=zm (Kd.R_reads' he9.out.2).2.2
 have hD91:=zm (Kd.R_reads' he9.out.2).2.1
 go_wp2_with (first|((with_reducible refine gate_ (.alloc 25) rfl ?_);refine Cw.box_store rfl rfl rfl rfl rfl rfl (by first|(go_simp;done)|(go_simp;rfl)) (by first|(go_simp;done)|(go_simp;rfl)) ?_;rintro g9 hg wb hbk hb;clear hg;have hh_:=zm hbk;clear hbk;have hbk:=hh_;clear hh_;have hh_:=zm hb;clear hb;have hb:=hh_;clear hh_)|((with_reducible refine gate_ (.load 25 _) rfl ?_);refine Kd.event_run rfl (ps_ld rfl rfl (zbB (Aside0.out (by assumption)) (by repeat (first|exact Below.refl _ _|with_reducible apply zlN|with_reducible apply zlA|refine below_step ?_ (Aside0.out (by assumption)))))) ?_))
 refine (pool_Take.calls k _ _ _ _ _ _ _ _ _ _ _ _ (Kd.C_below (Aside0.out (by assumption)) (by repeat (first|exact Below.refl _ _|with_reducible apply zlN|with_reducible apply zlA|refine below_step ?_ (Aside0.out (by assumption))))) (Aside0.out (by assumption)) (Kd.C_below (Aside0.out (by assumption)) (by repeat (first|exact Below.refl _ _|with_reducible apply zlN|with_reducible apply zlA|refine below_step ?_ (Aside0.out (by assumption))))) (Aside0.out (by assumption)) F3.out).mono ?_
 rintro e w1 ⟨v10,v11,rfl,ho0,ho1,hb⟩
 have he1:=zm (ps_mk ho0 ho1)
 have hs1:=zm hb.size
 obtain ⟨A10,c10,rfl⟩:=Kd.R_slice ho0
 obtain ⟨A11,c11,rfl⟩:=Kd.R_slice ho1
 clear ho0 ho1
 have hh_:=zm hb;clear hb;have hb:=hh_;clear hh_
 go_wp2_with (first|((with_reducible refine gate_ (.alloc 25) rfl ?_);refine Cw.box_store rfl rfl rfl rfl rfl rfl (by first|(go_simp;done)|(go_simp;rfl)) (by first|(go_simp;done)|(go_simp;rfl)) ?_;rintro g hg w1 hbk hb;clear hg;have hh_:=zm hbk;clear hbk;have hbk:=hh_;clear hh_;have hh_:=zm hb;clear hb;have hb:=hh_;clear hh_)|((with_reducible refine gate_ (.load 25 _) rfl ?_);refine Kd.event_run rfl (ps_ld rfl rfl (zbB (Aside0.out (by assumption)) (by repeat (first|exact Below.refl _ _|with_reducible apply zlN|with_reducible apply zlA|refine below_step ?_ (Aside0.out (by assumption)))))) ?_))
 refine (pool_Give.calls k _ _ _ _ _ _ _ _ _ _ _ (Kd.C_below (Aside0.out (by assumption)) (by repeat (first|exact Below.refl _ _|with_reducible apply zlN|with_reducible apply zlA|refine below_step ?_ (Aside0.out (by assumption))))) (Aside0.out (by assumption)) (Kd.C_below (Aside0.out (by assumption)) (by repeat (first|exact Below.refl _ _|with_reducible apply zlN|with_reducible apply zlA|refine below_step ?_ (Aside0.out (by assumption))))) (Aside0.out (by assumption)) F4.out).mono ?_
 rintro e w2 ⟨v20,v21,rfl,ho0,ho1,hb⟩
 have he2:=zm (ps_mk ho0 ho1)
 have hs2:=zm hb.size
 obtain ⟨A20,c20,rfl⟩:=Kd.R_slice ho0
 obtain ⟨A21,c21,rfl⟩:=Kd.R_slice ho1
 clear ho0 ho1
 have hh_:=zm hb;clear hb;have hb:=hh_;clear hh_
 go_wp2_with (first|((with_reducible refine gate_ (.alloc 25) rfl ?_);refine Cw.box_store rfl rfl rfl rfl rfl rfl (by first|(go_simp;done)|(go_simp;rfl)) (by first|(go_simp;done)|(go_simp;rfl)) ?_;rintro g hg w1 hbk hb;clear hg;have hh_:=zm hbk;clear hbk;have hbk:=hh_;clear hh_;have hh_:=zm hb;clear hb;have hb:=hh_;clear hh_)|((with_reducible refine gate_ (.load 25 _) rfl ?_);refine Kd.event_run rfl (ps_ld rfl rfl (zbB (Aside0.out (by assumption)) (by repeat (first|exact Below.refl _ _|with_reducible apply zlN|with_reducible apply zlA|refine below_step ?_ (Aside0.out (by assumption)))))) ?_))
 refine (pool_Erased.calls k _ _ _ _ _ _ _ _ _ _ _ (Kd.C_below (Aside0.out (by assumption)) (by repeat (first|exact Below.refl _ _|with_reducible apply zlN|with_reducible apply zlA|refine below_step ?_ (Aside0.out (by assumption))))) (Aside0.out (by assumption)) (Kd.C_below (Aside0.out (by assumption)) (by repeat (first|exact Below.refl _ _|with_reducible apply zlN|with_reducible apply zlA|refine below_step ?_ (Aside0.out (by assumption))))) (Aside0.out (by assumption)) F5.out).mono ?_
 rintro e w3 ⟨v30,v31,rfl,ho0,ho1,hb⟩
 have he3:=zm (ps_mk ho0 ho1)
 have hs3:=zm hb.size
 obtain ⟨A30,c30,rfl⟩:=Kd.R_slice ho0
 obtain ⟨A31,c31,rfl⟩:=Kd.R_slice ho1
 clear ho0 ho1
 have hh_:=zm hb;clear hb;have hb:=hh_;clear hh_
 go_wp2_with (first|((with_reducible refine gate_ (.alloc 25) rfl ?_);refine Cw.box_store rfl rfl rfl rfl rfl rfl (by first|(go_simp;done)|(go_simp;rfl)) (by first|(go_simp;done)|(go_simp;rfl)) ?_;rintro g hg w1 hbk hb;clear hg;have hh_:=zm hbk;clear hbk;have hbk:=hh_;clear hh_;have hh_:=zm hb;clear hb;have hb:=hh_;clear hh_)|((with_reducible refine gate_ (.load 25 _) rfl ?_);refine Kd.event_run rfl (ps_ld rfl rfl (zbB (Aside0.out (by assumption)) (by repeat (first|exact Below.refl _ _|with_reducible apply zlN|with_reducible apply zlA|refine below_step ?_ (Aside0.out (by assumption)))))) ?_))
 refine (pool_Retire.calls k _ _ _ _ _ _ _ _ _ _ _ (Kd.C_below (Aside0.out (by assumption)) (by repeat (first|exact Below.refl _ _|with_reducible apply zlN|with_reducible apply zlA|refine below_step ?_ (Aside0.out (by assumption))))) (Aside0.out (by assumption)) (Kd.C_below (Aside0.out (by assumption)) (by repeat (first|exact Below.refl _ _|with_reducible apply zlN|with_reducible apply zlA|refine below_step ?_ (Aside0.out (by assumption))))) (Aside0.out (by assumption)) F6.out).mono ?_
 rintro e w4 ⟨v40,v41,rfl,ho0,ho1,hb⟩
 have he4:=zm (ps_mk ho0 ho1)
 have hs4:=zm hb.size
 obtain ⟨A40,c40,rfl⟩:=Kd.R_slice ho0
 obtain ⟨A41,c41,rfl⟩:=Kd.R_slice ho1
 clear ho0 ho1
 have hh_:=zm hb;clear hb;have hb:=hh_;clear hh_
 go_wp2_with (first|((with_reducible refine gate_ (.alloc 25) rfl ?_);refine Cw.box_store rfl rfl rfl rfl rfl rfl (by first|(go_simp;done)|(go_simp;rfl)) (by first|(go_simp;done)|(go_simp;rfl)) ?_;rintro g hg w1 hbk hb;clear hg;have hh_:=zm hbk;clear hbk;have hbk:=hh_;clear hh_;have hh_:=zm hb;clear hb;have hb:=hh_;clear hh_)|((with_reducible refine gate_ (.load 25 _) rfl ?_);refine Kd.event_run rfl (ps_ld rfl rfl (zbB (Aside0.out (by assumption)) (by repeat (first|exact Below.refl _ _|with_reducible apply zlN|with_reducible apply zlA|refine below_step ?_ (Aside0.out (by assumption)))))) ?_))
 refine (pool_Wears.calls k _ _ _ _ _ _ _ _ _ _ _ _ _ (Kd.C_below (Aside0.out (by assumption)) (by repeat (first|exact Below.refl _ _|with_reducible apply zlN|with_reducible apply zlA|refine below_step ?_ (Aside0.out (by assumption))))) (Aside0.out (by assumption)) (Kd.C_below (Aside0.out (by assumption)) (by repeat (first|exact Below.refl _ _|with_reducible apply zlN|with_reducible apply zlA|refine below_step ?_ (Aside0.out (by assumption))))) (Aside0.out (by assumption)) (Kd.C_below (Aside0.out (by assumption)) (by repeat (first|exact Below.refl _ _|with_reducible apply zlN|with_reducible apply zlA|refine below_step ?_ (Aside0.out (by assumption))))) (Aside0.out (by assumption)) F7.out).mono ?_
 rintro e w5 ⟨v50,v51,rfl,ho0,ho1,hb⟩
 have he5:=zm (ps_mk ho0 ho1)
 have hs5:=zm hb.size
 obtain ⟨A50,c50,rfl⟩:=Kd.R_slice ho0
 obtain ⟨A51,c51,rfl⟩:=Kd.R_slice ho1
 clear ho0 ho1
 have hh_:=zm hb;clear hb;have hb:=hh_;clear hh_
 go_wp2_with (first|((with_reducible refine gate_ (.alloc 25) rfl ?_);refine Cw.box_store rfl rfl rfl rfl rfl rfl (by first|(go_simp;done)|(go_simp;rfl)) (by first|(go_simp;done)|(go_simp;rfl)) ?_;rintro g hg w1 hbk hb;clear hg;have hh_:=zm hbk;clear hbk;have hbk:=hh_;clear hh_;have hh_:=zm hb;clear hb;have hb:=hh_;clear hh_)|((with_reducible refine gate_ (.load 25 _) rfl ?_);refine Kd.event_run rfl (ps_ld rfl rfl (zbB (Aside0.out (by assumption)) (by repeat (first|exact Below.refl _ _|with_reducible apply zlN|with_reducible apply zlA|refine below_step ?_ (Aside0.out (by assumption)))))) ?_))
 refine (pool_Clone.calls _ _ _ _ _ _ _ _ _ (Kd.C_below (Aside0.out (by assumption)) (by repeat (first|exact Below.refl _ _|with_reducible apply zlN|with_reducible apply zlA|refine below_step ?_ (Aside0.out (by assumption))))) (Aside0.out (by assumption)) (Kd.C_below (Aside0.out (by assumption)) (by repeat (first|exact Below.refl _ _|with_reducible apply zlN|with_reducible apply zlA|refine below_step ?_ (Aside0.out (by assumption))))) (Aside0.out (by assumption)) F8.out).mono ?_
 rintro e w6 ⟨v60,v61,rfl,ho0,ho1,hb⟩
 have he6:=zm (ps_mk ho0 ho1)
 have hs6:=zm hb.size
 obtain ⟨A60,c60,rfl⟩:=Kd.R_slice ho0
 obtain ⟨A61,c61,rfl⟩:=Kd.R_slice ho1
 clear ho0 ho1
 have hh_:=zm hb;clear hb;have hb:=hh_;clear hh_
 obtain ⟨E1,a1r,a1w,a1s,a1t,l1,u1,k1⟩:=ps_box (W:=w6) (PEnt.below he1.out (by repeat (first|exact Below.refl _ _|with_reducible apply zlN|with_reducible apply zlA|refine below_step ?_ (Aside0.out (by assumption)))))
 obtain ⟨E2,a2r,a2w,a2s,a2t,l2,u2,k2⟩:=ps_box (W:=w6) (PEnt.below he2.out (by repeat (first|exact Below.refl _ _|with_reducible apply zlN|with_reducible apply zlA|refine below_step ?_ (Aside0.out (by assumption)))))
 obtain ⟨E3,a3r,a3w,a3s,a3t,l3_,u3,k3⟩:=ps_box (W:=w6) (PEnt.below he3.out (by repeat (first|exact Below.refl _ _|with_reducible apply zlN|with_reducible apply zlA|refine below_step ?_ (Aside0.out (by assumption)))))
 obtain ⟨E4,a4r,a4w,a4s,a4t,l4,u4,k4⟩:=ps_box (W:=w6) (PEnt.below he4.out (by repeat (first|exact Below.refl _ _|with_reducible apply zlN|with_reducible apply zlA|refine below_step ?_ (Aside0.out (by assumption)))))
 obtain ⟨E5,a5r,a5w,a5s,a5t,l5,u5,k5⟩:=ps_box (W:=w6) (PEnt.below he5.out (by repeat (first|exact Below.refl _ _|with_reducible apply zlN|with_reducible apply zlA|refine below_step ?_ (Aside0.out (by assumption)))))
 obtain ⟨E0,a0r,a0w,a0s,a0t,l0,u0,k0⟩:=ps_box he6.out
 have S:=ps_six k0 k1 k2 k3 k4 k5 (by rw [l1,u1];exact hs1.out) (by rw [l2,u2];exact hs2.out) (by rw [l3_,u3];exact hs3.out) (by rw [l4,u4];exact hs4.out) (by rw [l5,u5];exact hs5.out) (by rw [l0,u0];exact hs6.out) (by rw [u1,l2];exact below_size (by repeat (first|exact Below.refl _ _|with_reducible apply zlN|with_reducible apply zlA|refine below_step ?_ (Aside0.out (by assumption))))) (by rw [u2,l3_];exact below_size (by repeat (first|exact Below.refl _ _|with_reducible apply zlN|with_reducible apply zlA|refine below_step ?_ (Aside0.out (by assumption))))) (by rw [u3,l4];exact below_size (by repeat (first|exact Below.refl _ _|with_reducible apply zlN|with_reducible apply zlA|refine below_step ?_ (Aside0.out (by assumption))))) (by rw [u4,l5];exact below_size (by repeat (first|exact Below.refl _ _|with_reducible apply zlN|with_reducible apply zlA|refine below_step ?_ (Aside0.out (by assumption))))) (by rw [u5,l0];exact below_size (by repeat (first|exact Below.refl _ _|with_reducible apply zlN|with_reducible apply zlA|refine below_step ?_ (Aside0.out (by assumption)))))
 rw [l1,u0] at S
 obtain ⟨hAll,hAp⟩:=S
 clear l1 u1 l2 u2 l3_ u3 l4 u4 l5 u5 l0 u0 k1 k2 k3 k4 k5 k0 hs1 hs2 hs3 hs4 hs5 hs6 hs9 he1 he2 he3 he4 he5 he6
 have hwb:Below wb.heap.size wb w6:=(by repeat (first|exact Below.refl _ _|with_reducible apply zlN|with_reducible apply zlA|refine below_step ?_ (Aside0.out (by assumption))))
 have hh_:=zm hAll;clear hAll;have hAll:=hh_;clear hh_;have hh_:=zm hAp;clear hAp;have hAp:=hh_;clear hh_
 go_wp2_with (first|((with_reducible refine gate_dst (N:=69) rfl ?_);refine ps_made (fun g=>.slice (some ⟨g,0,none⟩) 1 1) rfl (by apply ps_mk1 <;> rfl) ?_;rintro gm hgm wm hbk hb;have hh_:=zm hbk;clear hbk;have hbk:=hh_;clear hh_;have hh_:=zm hb;clear hb;have hb:=hh_;clear hh_;have hh_:=zm hgm;clear hgm;have hgm:=hh_;clear hh_)|((with_reducible refine gate_ (.load 25 _) rfl ?_);refine Kd.event_run rfl (ps_ld rfl rfl (zbB (Aside0.out (by assumption)) (by repeat (first|exact Below.refl _ _|with_reducible apply zlN|with_reducible apply zlA|refine below_step ?_ (Aside0.out (by assumption)))))) ?_)|((with_reducible refine gate_dst (N:=75) rfl ?_);refine ps_made (fun g=>.slice (some ⟨g,0,none⟩) 5 5) rfl (cs:=_) (t:=25) (by first|(go_simp;done)|(go_simp;rfl)) ?_;rintro g5 hg5 w5_ hb5 hb;have hh_:=zm hb5;clear hb5;have hb5:=hh_;clear hh_;have hh_:=zm hb;clear hb;have hb:=hh_;clear hh_;have hh_:=zm hg5;clear hg5;have hg5:=hh_;clear hh_))
 have hb5':=hb5.out
 have hbm':=(show wm.heap[gm]?=_ from hbk.out)
 rw [← a1r,← a1w,← a2r,← a2w,← a3r,← a3w,← a4r,← a4w,← a5r,← a5w] at hb5'
 rw [← a0r,← a0w] at hbm'
 have hw65:Below w6.heap.size w6 w5_:=(by repeat (first|exact Below.refl _ _|with_reducible apply zlN|with_reducible apply zlA|refine below_step ?_ (Aside0.out (by assumption))))
 have hm5:=(show w5_.heap[gm]?=_ from zbB hbm' (by repeat (first|exact Below.refl _ _|with_reducible apply zlN|with_reducible apply zlA|refine below_step ?_ (Aside0.out (by assumption)))))
 have hgm5:gm < g5:=by rw [hg5.out];exact blk_lt hbm'
 have o0:=PEnt.one ((hAll.out) E0 (by simp)).1
 have hR0:=zm (ps_R1 (base:=w6.heap.size) (ok:=fun k=>k≠g5) hm5 (Nat.le_of_eq hgm.out.symm) (Nat.ne_of_lt hgm5) o0.1 o0.2)
 clear hb5 hm5 hbm' hbk
 have hb5:=zm hb5'
 clear hb5' o0
 go_loopw [20,77] (fun u v wr=>∃ q:Nat,v=.int .i64 (q:Int)∧Aside0 (q≤5)∧Aside0 ((Kd.raw 2).R 25 wr w6.heap.size (fun k=>k≠g5) u ((madeE E0 ((five E1 E2 E3 E4 E5 i1 i2 i3 i4 i5).take q)).map PEnt.row))∧Aside0 (Below w6.heap.size w6 wr)∧Aside0 (wr.heap[g5]?=some (.cells #[E1.vr,E1.vw,E2.vr,E2.vw,E3.vr,E3.vw,E4.vr,E4.vw,E5.vr,E5.vw] 25 (0,0)))) (fun _ v _=>5 - (intOf v).toNat)
 case atStart=>exact ⟨0,rfl,⟨Nat.zero_le _⟩,hR0,⟨hw65⟩,hb5⟩
 case round =>
  clear hR0 hb5
  obtain ⟨q,rfl,hq,hR,hbr,hb5⟩:=hrel
  by_cases hlt:q < 5
  ·have hd:decide ((q:Int) < 5)=true:=decide_eq_true (by omega)
   obtain ⟨E,i,hEi,x0,x1,xi⟩:=ps_five (i1:=i1) (i2:=i2) (i3:=i3) (i4:=i4) (i5:=i5) hlt hb5.out
   have hEok:=(hAll.out E (five_mem hEi)).1
   have eo:=PEnt.one hEok
   obtain ⟨Ar,cr,er⟩:=Kd.R_slice hEok.1
   obtain ⟨Aw,cw,ew⟩:=Kd.R_slice hEok.2
   have erow:E.row=[.slice Ar E.rs.length cr,.slice Aw E.ws.length cw]:=by unfold PEnt.row;rw [er,ew]
   rw [er] at x0
   rw [ew] at x1
   have hml:=madeE_len (e0:=E0) ((five E1 E2 E3 E4 E5 i1 i2 i3 i4 i5).take q)
   have htk:=five_take hEi
   obtain ⟨Av,cv,rfl⟩:=Kd.R_slice hR.out
   rw [List.length_map] at hR
   generalize hxs:madeE E0 ((five E1 E2 E3 E4 E5 i1 i2 i3 i4 i5).take q)=xs at hR hml ⊢
   have hxl:xs.length≤6:=by
    rw [List.length_take] at hml
    omega
   have hh_:=zm x0;clear x0;have x0:=hh_;clear hh_;have hh_:=zm x1;clear x1;have x1:=hh_;clear hh_;have hh_:=zm xi;clear xi;have xi:=hh_;clear hh_
   have hjn:0≤(q:Int):=Int.natCast_nonneg q
   have hj3:(q:Int) < 5:=by omega
   by_cases hi0:i=0
   ·have hib:(i == 0)=true:=beq_iff_eq.mpr hi0
    go_wp2_with (first|((with_reducible refine gate_dst (N:=81) rfl ?_);refine Kd.event_run rfl (by apply ps_ldj;exact rfl;exact rfl;exact x0.out;exact x1.out) ?_)|((with_reducible refine gate_ (.alloc 25) rfl ?_);refine box_event rfl rfl (ps_new rfl) ?_;rintro g22 hg w1 hbk hb;have hge22:Aside0 (wr.heap.size≤g22):=⟨by rw [hg];exact below_size (by repeat (first|exact Below.refl _ _|with_reducible apply zlN|with_reducible apply zlA|refine below_step ?_ (Aside0.out (by assumption))))⟩;clear hg;have hh_:=zm hbk;clear hbk;have hbk:=hh_;clear hh_;have hh_:=zm hb;clear hb;have hb:=hh_;clear hh_)|((with_reducible refine gate_ (.store 25 (.tmp 22) _) rfl ?_);refine Cw.put_event (g:=g22) (ys:=[.slice Ar E.rs.length cr,.slice Aw E.ws.length cw]) rfl rfl rfl (by apply ps_st;exact rfl;exact rfl;exact rfl;exact (zbB (Aside0.out (by assumption)) (by repeat (first|exact Below.refl _ _|with_reducible apply zlN|with_reducible apply zlA|refine below_step ?_ (Aside0.out (by assumption)))))) ?_;rintro w2 hw2;have hb2:Aside0 (Below wr.heap.size wr w2):=⟨by rw [hw2];exact Cw.setL_below hge22.out _ _ _ (by repeat (first|exact Below.refl _ _|with_reducible apply zlN|with_reducible apply zlA|refine below_step ?_ (Aside0.out (by assumption))))⟩;have hzz:Aside0 (w2.heap[g22]?=some (.cells #[.slice Ar E.rs.length cr,.slice Aw E.ws.length cw] 25 (0,0))):=⟨by rw [hw2];exact Cw.setL_full [.slice Ar E.rs.length cr,.slice Aw E.ws.length cw] (show _=some (Obj.cells #[.slice none 0 0,.slice none 0 0] 25 (0,0)) from (zbB (Aside0.out (by assumption)) (by repeat (first|exact Below.refl _ _|with_reducible apply zlN|with_reducible apply zlA|refine below_step ?_ (Aside0.out (by assumption)))))) rfl⟩;clear hw2 hbk)|((with_reducible refine gate_dst (N:=87) rfl ?_);refine ps_made (fun g=>.slice (some ⟨g,0,none⟩) 5 5) rfl (cs:=#[.int .i64 i1,.int .i64 i2,.int .i64 i3,.int .i64 i4,.int .i64 i5]) (t:=28) (by first|(go_simp;done)|(go_simp;rfl)) ?_;rintro g87 hg w1 hbk hb;clear hg;have hh_:=zm hbk;clear hbk;have hbk:=hh_;clear hh_;have hh_:=zm hb;clear hb;have hb:=hh_;clear hh_)|((with_reducible refine gate_dst (N:=90) rfl ?_);refine Kd.event_run rfl (by apply ps_c28;exact rfl;exact rfl;exact (zbB (Aside0.out (by assumption)) (by repeat (first|exact Below.refl _ _|with_reducible apply zlN|with_reducible apply zlA|refine below_step ?_ (Aside0.out (by assumption)))));exact xi.out) ?_)|((with_reducible refine gate_ (.load 25 _) rfl ?_);refine Kd.event_run rfl (ps_ld rfl rfl (zbB (Aside0.out (by assumption)) (by repeat (first|exact Below.refl _ _|with_reducible apply zlN|with_reducible apply zlA|refine below_step ?_ (Aside0.out (by assumption)))))) ?_)|((with_reducible refine gate_dst (N:=94) rfl ?_);refine ps_made (fun g=>.slice (some ⟨g,0,none⟩) 1 1) rfl (cs:=#[.slice Ar E.rs.length cr,.slice Aw E.ws.length cw]) (t:=25) (by first|(go_simp;done)|(go_simp;rfl)) ?_;rintro g94 hg w1 hbk hb;clear hg;have hh_:=zm hbk;clear hbk;have hbk:=hh_;clear hh_;have hh_:=zm hb;clear hb;have hb:=hh_;clear hh_)|((with_reducible refine gate_builtin (b:=.append) (xs:=#[.tmp 92,.tmp 94]) rfl ?_);at_builtin;refine Kd.R_append_rows (Kd.raw 2) (w0:=w6) w6.heap.size rfl (.tmp 92) (.tmp 94) 58 25 (.agg #[.slice none 0 0,.slice none 0 0]) 48 rfl Try.underlying58 ps_info25 rfl (by decide) (by omega) _ (xs.map PEnt.row) [[.slice Ar E.rs.length cr,.slice Aw E.ws.length cw]] _ _ _ (fun k=>k≠g5) (fun _=>False) rfl rfl (Kd.R_below hR.out (by repeat (first|exact Below.refl _ _|with_reducible apply zlN|with_reducible apply zlA|refine below_step ?_ (Aside0.out (by assumption))))) (ps_one (zbB (Aside0.out (by assumption)) (by repeat (first|exact Below.refl _ _|with_reducible apply zlN|with_reducible apply zlA|refine below_step ?_ (Aside0.out (by assumption))))) rfl rfl) (fun _ _ h=>h) (fun _ h=>h.elim) (fun k hk=>Nat.ne_of_gt (Nat.lt_of_lt_of_le (blk_lt (show _=_ from zbB hb5.out (by repeat (first|exact Below.refl _ _|with_reducible apply zlN|with_reducible apply zlA|refine below_step ?_ (Aside0.out (by assumption)))))) hk)) (by repeat (first|exact Below.refl _ _|with_reducible apply zlN|with_reducible apply zlA|refine below_step ?_ (Aside0.out (by assumption)))) (below_size (by repeat (first|exact Below.refl _ _|with_reducible apply zlN|with_reducible apply zlA|refine below_step ?_ (Aside0.out (by assumption))))) (by rw [List.length_map];omega) ?_;intro v' w' ho hb hg hat;clear hat))
    rw [← erow] at ho
    have hb5n:=zm ((hg.block g5 (blk_lt (show _=_ from zbB hb5.out (by repeat (first|exact Below.refl _ _|with_reducible apply zlN|with_reducible apply zlA|refine below_step ?_ (Aside0.out (by assumption)))))) (fun e=>(Kd.R_below hR.out (by repeat (first|exact Below.refl _ _|with_reducible apply zlN|with_reducible apply zlA|refine below_step ?_ (Aside0.out (by assumption))))).1 g5 e.symm rfl)).trans (zbB hb5.out (by repeat (first|exact Below.refl _ _|with_reducible apply zlN|with_reducible apply zlA|refine below_step ?_ (Aside0.out (by assumption))))))
    go_roundw
    case rel=>exact ⟨q + 1,by first|rfl|rw [ps_w (show q≤300 by omega)],⟨by omega⟩,⟨by rw [htk,madeE_snoc,if_pos hi0,hxs,List.map_append];exact ho⟩,⟨hb⟩,hb5n⟩
    case measure=>first|exact ps_m hlt|(rw [ps_w (show q≤300 by omega)];exact ps_m hlt)
   ·have hib:(i == 0)=false:=beq_eq_false_iff_ne.mpr hi0
    go_wp2_with (first|((with_reducible refine gate_dst (N:=81) rfl ?_);refine Kd.event_run rfl (by apply ps_ldj;exact rfl;exact rfl;exact x0.out;exact x1.out) ?_)|((with_reducible refine gate_ (.alloc 25) rfl ?_);refine box_event rfl rfl (ps_new rfl) ?_;rintro g22 hg w1 hbk hb;have hge22:Aside0 (wr.heap.size≤g22):=⟨by rw [hg];exact below_size (by repeat (first|exact Below.refl _ _|with_reducible apply zlN|with_reducible apply zlA|refine below_step ?_ (Aside0.out (by assumption))))⟩;clear hg;have hh_:=zm hbk;clear hbk;have hbk:=hh_;clear hh_;have hh_:=zm hb;clear hb;have hb:=hh_;clear hh_)|((with_reducible refine gate_ (.store 25 (.tmp 22) _) rfl ?_);refine Cw.put_event (g:=g22) (ys:=[.slice Ar E.rs.length cr,.slice Aw E.ws.length cw]) rfl rfl rfl (by apply ps_st;exact rfl;exact rfl;exact rfl;exact (zbB (Aside0.out (by assumption)) (by repeat (first|exact Below.refl _ _|with_reducible apply zlN|with_reducible apply zlA|refine below_step ?_ (Aside0.out (by assumption)))))) ?_;rintro w2 hw2;have hb2:Aside0 (Below wr.heap.size wr w2):=⟨by rw [hw2];exact Cw.setL_below hge22.out _ _ _ (by repeat (first|exact Below.refl _ _|with_reducible apply zlN|with_reducible apply zlA|refine below_step ?_ (Aside0.out (by assumption))))⟩;have hzz:Aside0 (w2.heap[g22]?=some (.cells #[.slice Ar E.rs.length cr,.slice Aw E.ws.length cw] 25 (0,0))):=⟨by rw [hw2];exact Cw.setL_full [.slice Ar E.rs.length cr,.slice Aw E.ws.length cw] (show _=some (Obj.cells #[.slice none 0 0,.slice none 0 0] 25 (0,0)) from (zbB (Aside0.out (by assumption)) (by repeat (first|exact Below.refl _ _|with_reducible apply zlN|with_reducible apply zlA|refine below_step ?_ (Aside0.out (by assumption)))))) rfl⟩;clear hw2 hbk)|((with_reducible refine gate_dst (N:=87) rfl ?_);refine ps_made (fun g=>.slice (some ⟨g,0,none⟩) 5 5) rfl (cs:=#[.int .i64 i1,.int .i64 i2,.int .i64 i3,.int .i64 i4,.int .i64 i5]) (t:=28) (by first|(go_simp;done)|(go_simp;rfl)) ?_;rintro g87 hg w1 hbk hb;clear hg;have hh_:=zm hbk;clear hbk;have hbk:=hh_;clear hh_;have hh_:=zm hb;clear hb;have hb:=hh_;clear hh_)|((with_reducible refine gate_dst (N:=90) rfl ?_);refine Kd.event_run rfl (by apply ps_c28;exact rfl;exact rfl;exact (zbB (Aside0.out (by assumption)) (by repeat (first|exact Below.refl _ _|with_reducible apply zlN|with_reducible apply zlA|refine below_step ?_ (Aside0.out (by assumption)))));exact xi.out) ?_)|((with_reducible refine gate_ (.load 25 _) rfl ?_);refine Kd.event_run rfl (ps_ld rfl rfl (zbB (Aside0.out (by assumption)) (by repeat (first|exact Below.refl _ _|with_reducible apply zlN|with_reducible apply zlA|refine below_step ?_ (Aside0.out (by assumption)))))) ?_))
    go_roundw
    case rel=>exact ⟨q + 1,by first|rfl|rw [ps_w (show q≤300 by omega)],⟨by omega⟩,⟨by rw [htk,madeE_snoc,if_neg hi0,hxs];exact Kd.R_below hR.out (by repeat (first|exact Below.refl _ _|with_reducible apply zlN|with_reducible apply zlA|refine below_step ?_ (Aside0.out (by assumption))))⟩,⟨(by repeat (first|exact Below.refl _ _|with_reducible apply zlN|with_reducible apply zlA|refine below_step ?_ (Aside0.out (by assumption))))⟩,⟨(zbB (Aside0.out (by assumption)) (by repeat (first|exact Below.refl _ _|with_reducible apply zlN|with_reducible apply zlA|refine below_step ?_ (Aside0.out (by assumption)))))⟩⟩
    case measure=>first|exact ps_m hlt|(rw [ps_w (show q≤300 by omega)];exact ps_m hlt)
  ·obtain rfl:q=5:=by have:=hq.out;omega
   rw [show ((5:Nat):Int)=5 from rfl]
   have hd:decide ((5:Int) < 5)=false:=rfl
   have e5:(five E1 E2 E3 E4 E5 i1 i2 i3 i4 i5).take 5=five E1 E2 E3 E4 E5 i1 i2 i3 i4 i5:=rfl
   rw [e5] at hR
   have hMem:∀ e ∈ madeE E0 (five E1 E2 E3 E4 E5 i1 i2 i3 i4 i5),e.ok w6∧wb.heap.size≤e.lo∧e.hi≤w6.heap.size:=fun e he=>hAll.out e (madeE_mem he)
   have hPair:(madeE E0 (five E1 E2 E3 E4 E5 i1 i2 i3 i4 i5)).Pairwise PEnt.apart:=madeE_apart hAp.out
   have hFx:=ps_facts (F:=five E1 E2 E3 E4 E5 i1 i2 i3 i4 i5) a0s a0t (by unfold five;simp only [List.map_cons,List.map_nil,a1s,a1t,a2s,a2t,a3s,a3t,a4s,a4t,a5s,a5t]) F9.out hfine.out.1
   have hM0:0 < (madeE E0 (five E1 E2 E3 E4 E5 i1 i2 i3 i4 i5)).length:=by unfold madeE;simp
   have hM6:(madeE E0 (five E1 E2 E3 E4 E5 i1 i2 i3 i4 i5)).length≤6:=madeE_len _
   obtain ⟨Av,cv,rfl⟩:=Kd.R_slice hR.out
   rw [List.length_map] at hR ⊢
   generalize madeE E0 (five E1 E2 E3 E4 E5 i1 i2 i3 i4 i5)=M at hR hMem hPair hFx hM0 hM6 ⊢
   obtain ⟨gM,capM,heM,hgeM,_,_⟩:=Kd.R_form hR.out (by rw [List.length_map];exact hM0)
   injection heM with heM1 heM2 heM3
   subst heM1
   have hRm0:=zm (Kd.R_mono (Kd.R_bound hR.out) (fun k hk=>hk.2.1))
   have hE0:=zm (show ∀ j,0≤j → ∀ e,M[j]?=some e → e.ok wr from fun j _ e he=>PEnt.below (hMem e (List.mem_of_getElem? he)).1 hbr.out)
   have hB0:=zm (show Below wb.heap.size wb wr from below_step hwb hbr.out)
   have hw6:=hwb.size
   clear hb5 a1r a1w a1s a1t a2r a2w a2s a2t a3r a3w a3s a3t a4r a4w a4s a4t a5r a5w a5s a5t a0r a0w a0s a0t hAll hAp F9 hR heM2 heM3 hbr hw65
   go_wp2
   go_loopw [99] (fun v wq=>∃ n:Nat,v=.int .i64 (n:Int)∧Aside0 (n≤M.length)∧Aside0 (∀ j,n≤j → ∀ e,M[j]?=some e → e.ok wq)∧Aside0 ((Kd.raw 2).R 25 wq w6.heap.size (fun k=>w6.heap.size≤k) (.slice (some ⟨gM,0,none⟩) M.length cv) (M.map PEnt.row))∧Aside0 (Below wb.heap.size wb wq)) (fun v _=>M.length - (intOf v).toNat)
   case atStart=>exact ⟨0,rfl,⟨Nat.zero_le _⟩,hE0,hRm0,hB0⟩
   case round =>
    clear hE0 hRm0 hB0
    obtain ⟨n,rfl,hn,hEs,hRm,hbw⟩:=hrel
    by_cases hnl:n < M.length
    ·have hd:decide ((n:Int) < (M.length:Int))=true:=decide_eq_true (by omega)
     obtain ⟨E,hE⟩:∃ E,M[n]?=some E:=⟨_,List.getElem?_eq_getElem hnl⟩
     have hEm:=hMem E (List.mem_of_getElem? hE)
     obtain ⟨hck,hlen,hbad⟩:=hFx E (List.mem_of_getElem? hE)
     have hEok:=hEs.out n (Nat.le_refl _) E hE
     obtain ⟨Ar,cr,er⟩:=Kd.R_slice hEok.1
     obtain ⟨Aw,cw,ew⟩:=Kd.R_slice hEok.2
     have hRr:=hEok.1
     have hRw:=hEok.2
     rw [er] at hRr
     rw [ew] at hRw
     obtain ⟨gE,capE,heE,hgE,hltE,_⟩:=Kd.R_form hRr (by rw [hlen];exact hfine.out.2.1)
     injection heE with heE1 heE2 heE3
     subst heE1
     clear heE2 heE3
     have hgE2:=hRr.1 gE rfl
     have erow:E.row=[.slice (some ⟨gE,0,none⟩) E.rs.length cr,.slice Aw E.ws.length cw]:=by unfold PEnt.row;rw [er,ew]
     obtain ⟨x0,x1⟩:=ps_row hRm.out hE hnl erow
     have hCr:=zm (Kd.R_reads' hRr).2.2
     have hDr:=zm (Kd.R_reads' hRr).2.1
     have hCw:=zm (Kd.R_reads' hRw).2.2
     have hDw:=zm (Kd.R_reads' hRw).2.1
     have hlb:((E.rs.length:Int) != (s0.length:Int))=false:=by rw [hlen];simp
     have hOth:=zm (show ∀ j,n < j → ∀ e,M[j]?=some e → e.ok wr from fun j hj e he=>hEs.out j (Nat.le_of_lt hj) e he)
     have hjn:0≤(n:Int):=Int.natCast_nonneg n
     have hj3:(n:Int) < (M.length:Int):=by omega
     have hh_:=zm x0;clear x0;have x0:=hh_;clear hh_;have hh_:=zm x1;clear x1;have x1:=hh_;clear hh_;have hh_:=zm hRr;clear hRr;have hRr:=hh_;clear hh_;have hh_:=zm hlen;clear hlen;have hlen:=hh_;clear hh_
     clear hEok hRw hEs erow
     go_wp2_with (first|((with_reducible refine gate_dst (N:=102) rfl ?_);refine Kd.event_run rfl (by apply ps_ldj;exact rfl;exact rfl;exact x0.out;exact x1.out) ?_)|((with_reducible refine gate_ (.alloc 25) rfl ?_);refine Cw.box_store rfl rfl rfl rfl rfl rfl (by first|(go_simp;done)|(go_simp;rfl)) (by first|(go_simp;done)|(go_simp;rfl)) ?_;rintro g24 hg wg hbk hb;have hge24:Aside0 (wr.heap.size≤g24):=⟨by rw [hg];exact below_size (by repeat (first|exact Below.refl _ _|with_reducible apply zlN|with_reducible apply zlA|refine below_step ?_ (Aside0.out (by assumption))))⟩;clear hg;have hh_:=zm hbk;clear hbk;have hbk:=hh_;clear hh_;have hh_:=zm hb;clear hb;have hb:=hh_;clear hh_)|((with_reducible refine gate_ (.load 25 _) rfl ?_);refine Kd.event_run rfl (ps_ld rfl rfl (zbB (Aside0.out (by assumption)) (by repeat (first|exact Below.refl _ _|with_reducible apply zlN|with_reducible apply zlA|refine below_step ?_ (Aside0.out (by assumption)))))) ?_))
     refine (pool_Check.calls k _ _ E.rs _ _ E.ws _ _ (Kd.C_below (Aside0.out (by assumption)) (by repeat (first|exact Below.refl _ _|with_reducible apply zlN|with_reducible apply zlA|refine below_step ?_ (Aside0.out (by assumption))))) (Aside0.out (by assumption)) (Kd.C_below (Aside0.out (by assumption)) (by repeat (first|exact Below.refl _ _|with_reducible apply zlN|with_reducible apply zlA|refine below_step ?_ (Aside0.out (by assumption))))) (Aside0.out (by assumption)) hck).mono ?_
     rintro e wc ⟨rfl,hb⟩
     have hh_:=zm hb;clear hb;have hb:=hh_;clear hh_
     have hc24:wc.cell? ⟨g24,0,none⟩=some (.slice (some ⟨gE,0,none⟩) E.rs.length cr):=(blk_cell (show wc.heap[g24]?=some (.cells #[.slice (some ⟨gE,0,none⟩) E.rs.length cr,.slice Aw E.ws.length cw] 25 (0,0)) from (zbB (Aside0.out (by assumption)) (by repeat (first|exact Below.refl _ _|with_reducible apply zlN|with_reducible apply zlA|refine below_step ?_ (Aside0.out (by assumption)))))) 0).trans rfl
     have hc9:wc.cell? ⟨g9,0,none⟩=some (.slice A90 s0.length c90):=(blk_cell (show wc.heap[g9]?=some (.cells #[.slice A90 s0.length c90,.slice A91 s1.length c91] 25 (0,0)) from (zbB (Aside0.out (by assumption)) (by repeat (first|exact Below.refl _ _|with_reducible apply zlN|with_reducible apply zlA|refine below_step ?_ (Aside0.out (by assumption)))))) 0).trans rfl
     go_wp2
     have hR1:=zm (show (Kd.int .i64).R 3 wc E.lo (fun k=>E.lo≤k∧k < E.hi) (.slice (some ⟨gE,0,none⟩) E.rs.length cr) (List.replicate 0 99 ++ E.rs.drop 0) from by rw [List.drop_zero];exact Kd.R_below hRr.out (by repeat (first|exact Below.refl _ _|with_reducible apply zlN|with_reducible apply zlA|refine below_step ?_ (Aside0.out (by assumption)))))
     have hO1:=zm (show ∀ j,n < j → ∀ e,M[j]?=some e → e.ok wc from fun j hj e he=>PEnt.below (hOth.out j hj e he) (by repeat (first|exact Below.refl _ _|with_reducible apply zlN|with_reducible apply zlA|refine below_step ?_ (Aside0.out (by assumption)))))
     have hM1:=zm (Kd.R_below (w1:=wc) hRm.out (by repeat (first|exact Below.refl _ _|with_reducible apply zlN|with_reducible apply zlA|refine below_step ?_ (Aside0.out (by assumption)))))
     have hK1:=zm (show wc.heap[g24]?=some (.cells #[.slice (some ⟨gE,0,none⟩) E.rs.length cr,.slice Aw E.ws.length cw] 25 (0,0)) from (zbB (Aside0.out (by assumption)) (by repeat (first|exact Below.refl _ _|with_reducible apply zlN|with_reducible apply zlA|refine below_step ?_ (Aside0.out (by assumption))))))
     have hB1:=zm (show Below wb.heap.size wb wc from (by repeat (first|exact Below.refl _ _|with_reducible apply zlN|with_reducible apply zlA|refine below_step ?_ (Aside0.out (by assumption)))))
     have hgt:gE < g24:=Nat.lt_of_lt_of_le hltE hge24.out
     have hwbE:wb.heap.size≤gE:=Nat.le_trans hEm.2.1 hgE
     have hEw6:gE < w6.heap.size:=Nat.lt_of_lt_of_le hgE2.2 hEm.2.2
     have hPr:=fun j (hj:n < j) e (he:M[j]?=some e)=>ps_pair hPair hE he hj hgE2
     clear hb hRr hOth hRm hbw hc24 hc9 hge24 hbk x0 x1 hCr hDr hCw hDw hck hlb hd
     go_loopw [118] (fun v wi=>∃ q:Nat,v=.int .i64 (q:Int)∧Aside0 (q≤E.rs.length)∧Aside0 ((Kd.int .i64).R 3 wi E.lo (fun k=>E.lo≤k∧k < E.hi) (.slice (some ⟨gE,0,none⟩) E.rs.length cr) (List.replicate q 99 ++ E.rs.drop q))∧Aside0 (∀ j,n < j → ∀ e,M[j]?=some e → e.ok wi)∧Aside0 ((Kd.raw 2).R 25 wi w6.heap.size (fun k=>w6.heap.size≤k) (.slice (some ⟨gM,0,none⟩) M.length cv) (M.map PEnt.row))∧Aside0 (Below wb.heap.size wb wi)∧Aside0 (wi.heap[g24]?=some (.cells #[.slice (some ⟨gE,0,none⟩) E.rs.length cr,.slice Aw E.ws.length cw] 25 (0,0)))) (fun v _=>E.rs.length - (intOf v).toNat)
     case atStart=>exact ⟨0,rfl,⟨Nat.zero_le _⟩,hR1,hO1,hM1,hB1,hK1⟩
     case round =>
      clear hR1 hO1 hM1 hB1 hK1
      obtain ⟨q,rfl,hq,hR,hO,hRm,hbw,hK⟩:=hrel
      by_cases hql:q < E.rs.length
      ·have hd:decide ((q:Int) < (E.rs.length:Int))=true:=decide_eq_true (by omega)
       have hc24:wr.cell? ⟨g24,0,none⟩=some (.slice (some ⟨gE,0,none⟩) E.rs.length cr):=(blk_cell hK.out 0).trans rfl
       have hc9:wr.cell? ⟨g9,0,none⟩=some (.slice A90 s0.length c90):=(blk_cell (show wr.heap[g9]?=some (.cells #[.slice A90 s0.length c90,.slice A91 s1.length c91] 25 (0,0)) from (zbB (Aside0.out (by assumption)) (by repeat (first|exact Below.refl _ _|with_reducible apply zlN|with_reducible apply zlA|refine below_step ?_ (Aside0.out (by assumption)))))) 0).trans rfl
       have hqs:q < s0.length:=by rw [← hlen.out];exact hql
       have hq0:0≤(q:Int):=Int.natCast_nonneg q
       have hq3:(q:Int) < (E.rs.length:Int):=Int.ofNat_lt.mpr hql
       have hq4:(q:Int) < (s0.length:Int):=Int.ofNat_lt.mpr hqs
       obtain ⟨ad9,hA9,hx9⟩:=Kd.at_int (show (Kd.int .i64).C wr A90 s0.length s0 from (Kd.C_below (Aside0.out (by assumption)) (by repeat (first|exact Below.refl _ _|with_reducible apply zlN|with_reducible apply zlA|refine below_step ?_ (Aside0.out (by assumption)))))) (q:Int) hq0 hq4
       subst hA9
       rw [Int.toNat_natCast] at hx9
       obtain ⟨cE,lcE,mE,rE,zE⟩:=Kd.R_elem hR.out 0 (q:Int) hq0 hq3
       rw [Int.toNat_natCast] at mE rE zE
       rw [ps_99g hql,ps_gD hql] at mE
       have hxE:=rE 0 _ (by rw [ps_int1 mE];rfl)
       have e1:q * (Kd.int .i64).sz + 0=q:=Nat.mul_one q
       rw [e1] at hxE
       clear lcE mE rE zE e1
       have hwq:=ps_w (show q≤300 by have:=hfine.out.2.2;omega)
       have hb6:=hbad q hqs
       have e9:rd s0 (q:Int)=s0[q]:=by unfold rd;rw [Int.toNat_natCast];exact ps_gD hqs
       rw [e9] at hx9
       rw [ps_gD hqs,ps_gD hql] at hb6
       by_cases h6:s0[q]=6
       ·have hb1:(s0[q] == 6)=true:=beq_iff_eq.mpr h6
        have hb2:(E.rs[q] != 6)=false:=by rw [hb6 h6];rfl
        go_wp2_with (first|((with_reducible refine gate_ (.store 3 _ _) rfl ?_);refine ps_put (g:=gE) (i:=q) rfl rfl rfl rfl hR.out hql ?_;rintro w2 hR2 hg2;rw [ps_99 hql] at hR2;have hh_:=zm hR2;clear hR2;have hR2:=hh_;clear hh_))
        have hO2:=zm (show ∀ j,n < j → ∀ e,M[j]?=some e → e.ok w2 from fun j hj e he=>PEnt.step (hO.out j hj e he) hg2 (hPr j hj e he))
        have hM2:=zm (Kd.R_step (w1:=w2) hRm.out (fun k hk hlt=>hg2.block k hlt (fun e=>Nat.lt_irrefl _ (Nat.lt_of_lt_of_le hEw6 (Nat.le_trans hk (Nat.le_of_eq (Option.some.inj e)))))))
        have hBw2:=zm (Below.grown hbw.out hg2 (below_size hbw.out) (fun k hk=>by rw [← Option.some.inj hk];exact hwbE))
        have hK2:=zm ((hg2.block g24 (blk_lt hK.out) (fun e=>Nat.ne_of_gt hgt (Option.some.inj e))).trans hK.out)
        clear hg2
        go_roundw
        case rel=>exact ⟨q + 1,by first|rfl|rw [hwq],⟨hql⟩,hR2,hO2,hM2,hBw2,hK2⟩
        case measure=>first|exact ps_m hql|(rw [hwq];exact ps_m hql)
       ·have hb1:(s0[q] == 6)=false:=beq_eq_false_iff_ne.mpr h6
        go_wp2_with (first|((with_reducible refine gate_ (.store 3 _ _) rfl ?_);refine ps_put (g:=gE) (i:=q) rfl rfl rfl rfl hR.out hql ?_;rintro w2 hR2 hg2;rw [ps_99 hql] at hR2;have hh_:=zm hR2;clear hR2;have hR2:=hh_;clear hh_))
        have hO2:=zm (show ∀ j,n < j → ∀ e,M[j]?=some e → e.ok w2 from fun j hj e he=>PEnt.step (hO.out j hj e he) hg2 (hPr j hj e he))
        have hM2:=zm (Kd.R_step (w1:=w2) hRm.out (fun k hk hlt=>hg2.block k hlt (fun e=>Nat.lt_irrefl _ (Nat.lt_of_lt_of_le hEw6 (Nat.le_trans hk (Nat.le_of_eq (Option.some.inj e)))))))
        have hBw2:=zm (Below.grown hbw.out hg2 (below_size hbw.out) (fun k hk=>by rw [← Option.some.inj hk];exact hwbE))
        have hK2:=zm ((hg2.block g24 (blk_lt hK.out) (fun e=>Nat.ne_of_gt hgt (Option.some.inj e))).trans hK.out)
        clear hg2
        go_roundw
        case rel=>exact ⟨q + 1,by first|rfl|rw [hwq],⟨hql⟩,hR2,hO2,hM2,hBw2,hK2⟩
        case measure=>first|exact ps_m hql|(rw [hwq];exact ps_m hql)
      ·obtain rfl:q=E.rs.length:=by have:=hq.out;omega
       have hd:decide ((E.rs.length:Int) < (E.rs.length:Int))=false:=decide_eq_false (by omega)
       go_wp2
       have hwn:=ps_w (show n≤300 by omega)
       go_roundw
       case rel=>exact ⟨n + 1,by first|with_reducible rfl|rw [hwn]|(simp;done),⟨hnl⟩,⟨fun j hj e he=>hO.out j hj e he⟩,hRm,hbw⟩
       case measure=>first|exact ps_m hnl|(rw [hwn];exact ps_m hnl)
    ·obtain rfl:n=M.length:=by have:=hn.out;omega
     have hd:decide ((M.length:Int) < (M.length:Int))=false:=decide_eq_false (by omega)
     go_wp2_with fail
     clear hEs hRm hMem hPair hFx hd
     refine Cw.dstart (by as_aux_lemma=>kernel_rfl) rfl (fun wd hb=>?_)
     have hh_:=zm hb;clear hb;have hb:=hh_;clear hh_
     refine Cw.dtk (i:=0) (v:=?_) (a':=?_) (by simp only [List.getElem?_toArray,List.getElem?_cons_succ,List.getElem?_cons_zero];rfl) rfl (by as_aux_lemma=>kernel_rfl) (by rfl) (by exact fun _ _ _ h=>h) ?_ (by repeat (first|exact Below.refl _ _|with_reducible apply zlN|with_reducible apply zlA|refine below_step ?_ (Aside0.out (by assumption)))) ?_ ?_
     rotate_left
     ·intro w' hs_
      have hs:=zm hs_
      clear hs_
      apply Eq.trans
      ·apply ps_ld
       ·rfl
       ·rfl
       ·exact (zbB (Aside0.out (by assumption)) (by repeat (first|exact Below.refl _ _|with_reducible apply zlN|with_reducible apply zlA|refine below_step ?_ (Aside0.out (by assumption)))))
      ·rfl
     rotate_left
     ·simp only [Act.put,List.setIfInBounds_toArray,List.set_cons_zero,List.set_cons_succ,i64_w,i32_w]
      rfl
     refine Cw.dtk (i:=1) (v:=?_) (a':=?_) (by simp only [List.getElem?_toArray,List.getElem?_cons_succ,List.getElem?_cons_zero];rfl) rfl (by as_aux_lemma=>kernel_rfl) (by rfl) (by exact fun _ _ _ h=>h) ?_ (by repeat (first|exact Below.refl _ _|with_reducible apply zlN|with_reducible apply zlA|refine below_step ?_ (Aside0.out (by assumption)))) ?_ ?_
     rotate_left
     ·intro w' hs_
      have hs:=zm hs_
      clear hs_
      apply Eq.trans
      ·apply ps_ld
       ·rfl
       ·rfl
       ·exact (zbB (Aside0.out (by assumption)) (by repeat (first|exact Below.refl _ _|with_reducible apply zlN|with_reducible apply zlA|refine below_step ?_ (Aside0.out (by assumption)))))
      ·rfl
     rotate_left
     ·simp only [Act.put,List.setIfInBounds_toArray,List.set_cons_zero,List.set_cons_succ,i64_w,i32_w]
      rfl
     refine Cw.done1 (i:=2) (N:=some 143) (by simp only [List.getElem?_toArray,List.getElem?_cons_succ,List.getElem?_cons_zero];rfl) rfl (by as_aux_lemma=>kernel_rfl) (fun K hK=>?_)
     refine goes_ Try.func15 (by as_aux_lemma=>kernel_rfl) rfl _ (by rfl) rfl rfl (by go_simp;rfl) ?_
     refine (slipwayref04_Same.calls k _ _ _ _ _ _ _ _ _ _ _ _ _ _ (Kd.C_below (Aside0.out (by assumption)) (by repeat (first|exact Below.refl _ _|with_reducible apply zlN|with_reducible apply zlA|refine below_step ?_ (Aside0.out (by assumption))))) (Aside0.out (by assumption)) (Kd.C_below (Aside0.out (by assumption)) (by repeat (first|exact Below.refl _ _|with_reducible apply zlN|with_reducible apply zlA|refine below_step ?_ (Aside0.out (by assumption))))) (Aside0.out (by assumption)) (Kd.C_below (Aside0.out (by assumption)) (by repeat (first|exact Below.refl _ _|with_reducible apply zlN|with_reducible apply zlA|refine below_step ?_ (Aside0.out (by assumption))))) (Aside0.out (by assumption)) (Kd.C_below (Aside0.out (by assumption)) (by repeat (first|exact Below.refl _ _|with_reducible apply zlN|with_reducible apply zlA|refine below_step ?_ (Aside0.out (by assumption))))) (Aside0.out (by assumption)) F10.out).mono ?_
     rintro e w1 ⟨rfl,hb⟩
     have hh_:=zm hb;clear hb;have hb:=hh_;clear hh_
     refine ⟨_,rfl,?_⟩
     refine hK.out _ _ (by repeat (first|exact Below.refl _ _|with_reducible apply zlN|with_reducible apply zlA|refine below_step ?_ (Aside0.out (by assumption)))) (fun _=>?_)
     clear hK K
     refine norm_ (a':=?_) ?_ ?_
     rotate_left
     ·show Act.put _ (some 143) _=_
      simp only [Act.put,List.setIfInBounds_toArray,List.set_cons_zero,List.set_cons_succ,i64_w,i32_w]
      rfl
     refine Cw.dpu (i:=3) (v:=?_) (a':=?_) (by simp only [List.getElem?_toArray,List.getElem?_cons_succ,List.getElem?_cons_zero];rfl) rfl (by as_aux_lemma=>kernel_rfl) (by rfl) (by exact fun _ _ _ h=>h) ?_ ?_ ?_
     rotate_left
     ·intro w'
      go_simp
      with_reducible rfl
     rotate_left
     ·simp only [Act.put,List.setIfInBounds_toArray,List.set_cons_zero,List.set_cons_succ,i64_w,i32_w]
      rfl
     refine Cw.dtk (i:=4) (v:=?_) (a':=?_) (by simp only [List.getElem?_toArray,List.getElem?_cons_succ,List.getElem?_cons_zero];rfl) rfl (by as_aux_lemma=>kernel_rfl) (by rfl) (by exact fun _ _ _ h=>h) ?_ (by repeat (first|exact Below.refl _ _|with_reducible apply zlN|with_reducible apply zlA|refine below_step ?_ (Aside0.out (by assumption)))) ?_ ?_
     rotate_left
     ·intro w' hs_
      have hs:=zm hs_
      clear hs_
      apply Eq.trans
      ·apply ps_ld
       ·rfl
       ·rfl
       ·exact (zbB (Aside0.out (by assumption)) (by repeat (first|exact Below.refl _ _|with_reducible apply zlN|with_reducible apply zlA|refine below_step ?_ (Aside0.out (by assumption)))))
      ·rfl
     rotate_left
     ·simp only [Act.put,List.setIfInBounds_toArray,List.set_cons_zero,List.set_cons_succ,i64_w,i32_w]
      rfl
     refine Cw.dtk (i:=5) (v:=?_) (a':=?_) (by simp only [List.getElem?_toArray,List.getElem?_cons_succ,List.getElem?_cons_zero];rfl) rfl (by as_aux_lemma=>kernel_rfl) (by rfl) (by exact fun _ _ _ h=>h) ?_ (by repeat (first|exact Below.refl _ _|with_reducible apply zlN|with_reducible apply zlA|refine below_step ?_ (Aside0.out (by assumption)))) ?_ ?_
     rotate_left
     ·intro w' hs_
      have hs:=zm hs_
      clear hs_
      apply Eq.trans
      ·apply ps_ld
       ·rfl
       ·rfl
       ·exact (zbB (Aside0.out (by assumption)) (by repeat (first|exact Below.refl _ _|with_reducible apply zlN|with_reducible apply zlA|refine below_step ?_ (Aside0.out (by assumption)))))
      ·rfl
     rotate_left
     ·simp only [Act.put,List.setIfInBounds_toArray,List.set_cons_zero,List.set_cons_succ,i64_w,i32_w]
      rfl
     refine Cw.done1 (i:=6) (N:=some 147) (by simp only [List.getElem?_toArray,List.getElem?_cons_succ,List.getElem?_cons_zero];rfl) rfl (by as_aux_lemma=>kernel_rfl) (fun K hK=>?_)
     refine goes_ Try.func17 (by as_aux_lemma=>kernel_rfl) rfl _ (by rfl) rfl rfl (by go_simp;rfl) ?_
     refine (pool_Same.calls k _ _ _ _ _ _ _ _ _ _ _ _ _ _ (Kd.C_below (Aside0.out (by assumption)) (by repeat (first|exact Below.refl _ _|with_reducible apply zlN|with_reducible apply zlA|refine below_step ?_ (Aside0.out (by assumption))))) (Aside0.out (by assumption)) (Kd.C_below (Aside0.out (by assumption)) (by repeat (first|exact Below.refl _ _|with_reducible apply zlN|with_reducible apply zlA|refine below_step ?_ (Aside0.out (by assumption))))) (Aside0.out (by assumption)) (Kd.C_below (Aside0.out (by assumption)) (by repeat (first|exact Below.refl _ _|with_reducible apply zlN|with_reducible apply zlA|refine below_step ?_ (Aside0.out (by assumption))))) (Aside0.out (by assumption)) (Kd.C_below (Aside0.out (by assumption)) (by repeat (first|exact Below.refl _ _|with_reducible apply zlN|with_reducible apply zlA|refine below_step ?_ (Aside0.out (by assumption))))) (Aside0.out (by assumption)) F11.out).mono ?_
     rintro e w1 ⟨rfl,hb⟩
     have hh_:=zm hb;clear hb;have hb:=hh_;clear hh_
     refine ⟨_,rfl,?_⟩
     refine hK.out _ _ (by repeat (first|exact Below.refl _ _|with_reducible apply zlN|with_reducible apply zlA|refine below_step ?_ (Aside0.out (by assumption)))) (fun _=>?_)
     clear hK K
     refine norm_ (a':=?_) ?_ ?_
     rotate_left
     ·show Act.put _ (some 147) _=_
      simp only [Act.put,List.setIfInBounds_toArray,List.set_cons_zero,List.set_cons_succ,i64_w,i32_w]
      rfl
     refine Cw.dpu (i:=7) (v:=?_) (a':=?_) (by simp only [List.getElem?_toArray,List.getElem?_cons_succ,List.getElem?_cons_zero];rfl) rfl (by as_aux_lemma=>kernel_rfl) (by rfl) (by exact fun _ _ _ h=>h) ?_ ?_ ?_
     rotate_left
     ·intro w'
      go_simp
      with_reducible rfl
     rotate_left
     ·simp only [Act.put,List.setIfInBounds_toArray,List.set_cons_zero,List.set_cons_succ,i64_w,i32_w]
      rfl
     refine Cw.dpu (i:=8) (v:=?_) (a':=?_) (by simp only [List.getElem?_toArray,List.getElem?_cons_succ,List.getElem?_cons_zero];rfl) rfl (by as_aux_lemma=>kernel_rfl) (by rfl) (by exact fun _ _ _ h=>h) ?_ ?_ ?_
     rotate_left
     ·intro w'
      go_simp
      with_reducible rfl
     rotate_left
     ·simp only [Act.put,List.setIfInBounds_toArray,List.set_cons_zero,List.set_cons_succ,i64_w,i32_w]
      rfl
     refine Cw.dtk (i:=9) (v:=?_) (a':=?_) (by simp only [List.getElem?_toArray,List.getElem?_cons_succ,List.getElem?_cons_zero];rfl) rfl (by as_aux_lemma=>kernel_rfl) (by rfl) (by exact fun _ _ _ h=>h) ?_ (by repeat (first|exact Below.refl _ _|with_reducible apply zlN|with_reducible apply zlA|refine below_step ?_ (Aside0.out (by assumption)))) ?_ ?_
     rotate_left
     ·intro w' hs_
      have hs:=zm hs_
      clear hs_
      apply Eq.trans
      ·apply ps_ld
       ·rfl
       ·rfl
       ·exact (zbB (Aside0.out (by assumption)) (by repeat (first|exact Below.refl _ _|with_reducible apply zlN|with_reducible apply zlA|refine below_step ?_ (Aside0.out (by assumption)))))
      ·rfl
     rotate_left
     ·simp only [Act.put,List.setIfInBounds_toArray,List.set_cons_zero,List.set_cons_succ,i64_w,i32_w]
      rfl
     refine Cw.dtk (i:=11) (v:=?_) (a':=?_) (by simp only [List.getElem?_toArray,List.getElem?_cons_succ,List.getElem?_cons_zero];rfl) rfl (by as_aux_lemma=>kernel_rfl) (by rfl) (by exact fun _ _ _ h=>h) ?_ (by repeat (first|exact Below.refl _ _|with_reducible apply zlN|with_reducible apply zlA|refine below_step ?_ (Aside0.out (by assumption)))) ?_ ?_
     rotate_left
     ·intro w' hs_
      have hs:=zm hs_
      clear hs_
      apply Eq.trans
      ·apply ps_ld
       ·rfl
       ·rfl
       ·exact (zbB (Aside0.out (by assumption)) (by repeat (first|exact Below.refl _ _|with_reducible apply zlN|with_reducible apply zlA|refine below_step ?_ (Aside0.out (by assumption)))))
      ·rfl
     rotate_left
     ·simp only [Act.put,List.setIfInBounds_toArray,List.set_cons_zero,List.set_cons_succ,i64_w,i32_w]
      rfl
     refine Cw.done1 (i:=10) (N:=some 151) (by simp only [List.getElem?_toArray,List.getElem?_cons_succ,List.getElem?_cons_zero];rfl) rfl (by as_aux_lemma=>kernel_rfl) (fun K hK=>?_)
     refine goes_ Try.func34 (by as_aux_lemma=>kernel_rfl) rfl _ (by rfl) rfl rfl (by go_simp;rfl) ?_
     refine (pool_Clone.calls _ _ _ _ _ _ _ _ _ (Kd.C_below (Aside0.out (by assumption)) (by repeat (first|exact Below.refl _ _|with_reducible apply zlN|with_reducible apply zlA|refine below_step ?_ (Aside0.out (by assumption))))) (Aside0.out (by assumption)) (Kd.C_below (Aside0.out (by assumption)) (by repeat (first|exact Below.refl _ _|with_reducible apply zlN|with_reducible apply zlA|refine below_step ?_ (Aside0.out (by assumption))))) (Aside0.out (by assumption)) F8.out).mono ?_
     rintro e w1 ⟨v0,v1,rfl,ho0,ho1,hb⟩
     obtain ⟨A_0,c_0,rfl,hc_0,hr_0⟩:=Kd.R_reads ho0;clear ho0;have hh_:=zm hc_0;clear hc_0;have hc_0:=hh_;clear hh_;have hh_:=zm hr_0;clear hr_0;have hr_0:=hh_;clear hh_;obtain ⟨A_1,c_1,rfl,hc_1,hr_1⟩:=Kd.R_reads ho1;clear ho1;have hh_:=zm hc_1;clear hc_1;have hc_1:=hh_;clear hh_;have hh_:=zm hr_1;clear hr_1;have hr_1:=hh_;clear hh_
     have hh_:=zm hb;clear hb;have hb:=hh_;clear hh_
     refine ⟨_,rfl,?_⟩
     refine hK.out _ _ (by repeat (first|exact Below.refl _ _|with_reducible apply zlN|with_reducible apply zlA|refine below_step ?_ (Aside0.out (by assumption)))) (fun _=>?_)
     clear hK K
     refine norm_ (a':=?_) ?_ ?_
     rotate_left
     ·show Act.put _ (some 151) _=_
      simp only [Act.put,List.setIfInBounds_toArray,List.set_cons_zero,List.set_cons_succ,i64_w,i32_w]
      rfl
     refine Cw.done1 (i:=12) (N:=some 153) (by simp only [List.getElem?_toArray,List.getElem?_cons_succ,List.getElem?_cons_zero];rfl) rfl (by as_aux_lemma=>kernel_rfl) (fun K hK=>?_)
     refine goes_ Try.func15 (by as_aux_lemma=>kernel_rfl) rfl _ (by rfl) rfl rfl (by go_simp;rfl) ?_
     refine (slipwayref04_Same.calls k _ _ _ _ _ _ _ _ _ _ _ _ _ _ (Kd.C_below (Aside0.out (by assumption)) (by repeat (first|exact Below.refl _ _|with_reducible apply zlN|with_reducible apply zlA|refine below_step ?_ (Aside0.out (by assumption))))) (Aside0.out (by assumption)) (Kd.C_below (Aside0.out (by assumption)) (by repeat (first|exact Below.refl _ _|with_reducible apply zlN|with_reducible apply zlA|refine below_step ?_ (Aside0.out (by assumption))))) (Aside0.out (by assumption)) (Kd.C_below (Aside0.out (by assumption)) (by repeat (first|exact Below.refl _ _|with_reducible apply zlN|with_reducible apply zlA|refine below_step ?_ (Aside0.out (by assumption))))) (Aside0.out (by assumption)) (Kd.C_below (Aside0.out (by assumption)) (by repeat (first|exact Below.refl _ _|with_reducible apply zlN|with_reducible apply zlA|refine below_step ?_ (Aside0.out (by assumption))))) (Aside0.out (by assumption)) F10.out).mono ?_
     rintro e w1 ⟨rfl,hb⟩
     have hh_:=zm hb;clear hb;have hb:=hh_;clear hh_
     refine ⟨_,rfl,?_⟩
     refine hK.out _ _ (by repeat (first|exact Below.refl _ _|with_reducible apply zlN|with_reducible apply zlA|refine below_step ?_ (Aside0.out (by assumption)))) (fun _=>?_)
     clear hK K
     refine norm_ (a':=?_) ?_ ?_
     rotate_left
     ·show Act.put _ (some 153) _=_
      simp only [Act.put,List.setIfInBounds_toArray,List.set_cons_zero,List.set_cons_succ,i64_w,i32_w]
      rfl
     refine Cw.dpu (i:=13) (v:=?_) (a':=?_) (by simp only [List.getElem?_toArray,List.getElem?_cons_succ,List.getElem?_cons_zero];rfl) rfl (by as_aux_lemma=>kernel_rfl) (by rfl) (by exact fun _ _ _ h=>h) ?_ ?_ ?_
     rotate_left
     ·intro w'
      go_simp
      with_reducible rfl
     rotate_left
     ·simp only [Act.put,List.setIfInBounds_toArray,List.set_cons_zero,List.set_cons_succ,i64_w,i32_w]
      rfl
     refine Cw.dpu (i:=14) (v:=?_) (a':=?_) (by simp only [List.getElem?_toArray,List.getElem?_cons_succ,List.getElem?_cons_zero];rfl) rfl (by as_aux_lemma=>kernel_rfl) (by rfl) (by exact fun _ _ _ h=>h) ?_ ?_ ?_
     rotate_left
     ·intro w'
      go_simp
      with_reducible rfl
     rotate_left
     ·simp only [Act.put,List.setIfInBounds_toArray,List.set_cons_zero,List.set_cons_succ,i64_w,i32_w]
      rfl
     refine done_ (by as_aux_lemma=>kernel_rfl) ?_
     go_wp2
     go_ret
     exact ⟨rfl,(by repeat (first|exact Below.refl _ _|with_reducible apply zlN|with_reducible apply zlA|refine below_step ?_ (Aside0.out (by assumption))))⟩
def slipwaylaw04_PoolStays.Pure:Prop:=∀ (l0_0:List Int) (l0_1:List Int) (a1:Int) (a2:Int) (l3:List Int),(l0_0.length≤maxLen∧l0_0.length * 8≤140737488351232∧∀ x ∈ l0_0,(Lit.int .i64 x).wf=true) → (l0_1.length≤maxLen∧l0_1.length * 8≤140737488351232∧∀ x ∈ l0_1,(Lit.int .i64 x).wf=true) → (Lit.int .i64 a1).wf=true → (Lit.int .i64 a2).wf=true → (l3.length≤maxLen∧l3.length * 8≤140737488351232∧∀ x ∈ l3,(Lit.int .i64 x).wf=true) → ∃ k,slipwaylaw04_PoolStays.f k l0_0 l0_1 a1 a2 l3=some true
theorem slipwaylaw04_PoolStays.walk (P:slipwaylaw04_PoolStays.Pure) (A0_0:Option Addr) (c0_0:Nat) (l0_0:List Int) (A0_1:Option Addr) (c0_1:Nat) (l0_1:List Int) (a1:Int) (a2:Int) (A3:Option Addr) (c3:Nat) (l3:List Int) (w:World) (hr0_0:Kd.C (Kd.int .i64) w A0_0 l0_0.length l0_0) (hc0_0:l0_0.length≤c0_0) (hr0_1:Kd.C (Kd.int .i64) w A0_1 l0_1.length l0_1) (hc0_1:l0_1.length≤c0_1) (hr3:Kd.C (Kd.int .i64) w A3 l3.length l3) (hc3:l3.length≤c3) (w0_0:(l0_0.length≤maxLen∧l0_0.length * 8≤140737488351232∧∀ x ∈ l0_0,(Lit.int .i64 x).wf=true)) (w0_1:(l0_1.length≤maxLen∧l0_1.length * 8≤140737488351232∧∀ x ∈ l0_1,(Lit.int .i64 x).wf=true)) (w1:(Lit.int .i64 a1).wf=true) (w2:(Lit.int .i64 a2).wf=true) (w3:(l3.length≤maxLen∧l3.length * 8≤140737488351232∧∀ x ∈ l3,(Lit.int .i64 x).wf=true)) :
  Calls Try.prog 7 #[.agg #[.slice A0_0 l0_0.length c0_0,.slice A0_1 l0_1.length c0_1],.int .i64 a1,.int .i64 a2,.slice A3 l3.length c3] w fun e w'=>e=.returned (.bool true)∧Below w.heap.size w w':=by
 obtain ⟨k,h⟩:=P l0_0 l0_1 a1 a2 l3 w0_0 w0_1 w1 w2 w3
 refine (slipwaylaw04_PoolStays.calls k A0_0 c0_0 l0_0 A0_1 c0_1 l0_1 a1 a2 A3 c3 l3 true w hr0_0 hc0_0 hr0_1 hc0_1 hr3 hc3 h).mono ?_
 rintro e w' ⟨rfl,hd⟩
 exact ⟨rfl,hd⟩
end Go.Proofs.Ytlegmnpngcadhaa.Print
end
