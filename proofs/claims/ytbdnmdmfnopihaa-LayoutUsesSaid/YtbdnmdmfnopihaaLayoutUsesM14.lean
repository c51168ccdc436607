/- Texts of the proof of LayoutUses, part 14. -/
import Derived.Test.YtbdnmdmfnopihaaLayoutUsesMA
import Derived.Test.YtbdnmdmfnopihaaLayoutUsesM13
import Derived.Maps.OwnSet
import Derived.Maps.Keyed
import Derived.DeepKeys4
import Derived.MapViews
import Derived.RangeFuncNested
import Derived.RangeFuncBox
import Derived.RangeFuncLeaves
import Derived.Shelf.Abstract
import Derived.WalkKit
import Derived.OwnWalkIn
import Derived.TacticsInMore
import Derived.LoopNIn
import Derived.LoopIn
import Derived.Stop.RegionWithIn
import Derived.Maps.AppendAt
section
namespace Go.Proofs.Ytbdnmdmfnopihaa.Print
open Go.RowKit Go.Proofs.YtbdnmdmfnopihaaW.PrintWords Go.Proofs.YtbdnmdmfnopihaaW.PrintLast Go.Proofs.YtbdnmdmfnopihaaW.PrintMore
attribute [local go_sem] max2_int min2_int max_two min_two max_three min_three max_four min_four   -- for this text's walks alone
attribute [local go_sem ↓] Go.Proofs.Ytbdnmdmfnopihaa.Sem.isSome_setCell
attribute [local go_sem] Go.Instr.field Go.asAgg
set_option linter.unusedVariables false
set_option linter.unusedSimpArgs false
-- MAPS
-- RANGEFUNC
namespace Uses
open Go.Maps (Keyed int_keyed keyOf_int_mk)
theorem us_u46:Try.prog.underlying 46=some (.map 3 3):=by kernel_rfl
theorem us_u3:Try.prog.underlying 3=some (.int .i64):=by kernel_rfl
theorem us_keyed:Keyed Try.prog 3:=int_keyed us_u3
theorem us_zero (w:World):(zeroValue 3).run Try.prog w=.ok (.int .i64 0) w:=by kernel_rfl
def us_cn (L:List Int) (k:Int):Int:=(L.count k:Int)
theorem us_cn_le (L:List Int) (k:Int):0≤us_cn L k∧us_cn L k≤L.length:=by
 unfold us_cn
 have:=List.count_le_length (a:=k) (l:=L)
 omega
def us_ok (k:Int):Prop:=0≤k∧k < 100
theorem us_wf {b:Int} (h:-100000≤b) (h2:b≤100000):(Lit.int .i64 b).wf=true:=by simp [Lit.wf,IntKind.min,IntKind.max,IntKind.signed,IntKind.bits];omega
def UsCnt (w:World) (g:Nat) (L:List Int):Prop :=
 ∃ D n,w.ownsMap Try.prog 3 (plainElem (H:=Unit) Try.prog 3) g n D∧n≤L.length∧∀ k,us_ok k → D.atKey (.int .i64 k) (.lit (.int .i64 0))=.lit (.int .i64 (us_cn L k))
theorem UsCnt.made (w:World):UsCnt (w.alloc (.map #[] 0)) w.heap.size [] :=
 ⟨.map [],0,World.ownsMap_made w _ _ _,Nat.le_refl _,fun k _=>rfl⟩
theorem UsCnt.below {w w1:World} {g:Nat} {L:List Int} (h:UsCnt w g L) (hb:Below w.heap.size w w1):UsCnt w1 g L:=by
 obtain ⟨D,n,h,r⟩:=h
 exact ⟨D,n,h.kept (grown_of_below hb none) (by simp),r⟩
theorem UsCnt.drew {w:World} {g:Nat} {L:List Int} (h:UsCnt w g L):UsCnt w.drew g L:=by
 obtain ⟨D,n,h,r⟩:=h
 exact ⟨D,n,h.drew,r⟩
theorem UsCnt.look {w:World} {g:Nat} {L:List Int} (h:UsCnt w g L) {k:Int} (hk:us_ok k):(Instr.lookup 46 (.map (some g)) (.int .i64 k) false).run Try.prog w=.ok (.int .i64 (us_cn L k)) w:=by
 obtain ⟨D,n,h,_,ha⟩:=h
 have kw:keyOf Try.prog 3 (.int .i64 k)=some (.int .i64 k):=keyOf_int_mk us_u3 (us_wf (by have:=hk.1;omega) (by have:=hk.2;omega))
 obtain ⟨c,h1,h2,_⟩:=h.lookup_int us_keyed us_u46 us_u3 (us_zero w) kw
 rw [ha k hk] at h2
 simp at h2
 rw [h1,h2]
theorem UsCnt.put {w:World} {g:Nat} {L:List Int} (h:UsCnt w g L) {k:Int} (hk:us_ok k) (hs:L.length < 100000):∃ w',(Instr.mapUpdate 46 (.map (some g)) (.int .i64 k) (.int .i64 (wrap64 (us_cn L k + 1)))).run Try.prog w=.ok () w'∧UsCnt w' g (k :: L)∧w.grownBy w' (some g):=by
 obtain ⟨D,n,h,hle,ha⟩:=h
 have hc:=us_cn_le L k
 have hw:wrap64 (us_cn L k + 1)=us_cn L k + 1:=by unfold wrap64;omega
 have kw:∀ k',us_ok k' → keyOf Try.prog 3 (.int .i64 k')=some (.int .i64 k'):=fun k' hk'=>keyOf_int_mk us_u3 (us_wf (by have:=hk'.1;omega) (by have:=hk'.2;omega))
 obtain ⟨w',h1,h2,h3⟩:=h.update us_keyed us_u46 (by unfold maxLen;omega) (kw k hk) (plainElem_int us_u3 (a:=wrap64 (us_cn L k + 1)) (us_wf (by omega) (by omega)))
 refine ⟨w',h1,⟨_,n + 1,h2,by simp;omega,fun k' hk'=>?_⟩,h3⟩
 by_cases e:k'=k
 ·subst e
  rw [Maps.atKey_put_same h.isMap (us_keyed.key (kw k' hk)),hw]
  have:us_cn (k' :: L) k'=us_cn L k' + 1:=by unfold us_cn;rw [List.count_cons_self];omega
  rw [this]
 ·rw [Maps.atKey_put_other (fun k0=>e (by cases k0;rfl)),ha k' hk']
  have:us_cn (k :: L) k'=us_cn L k':=by unfold us_cn;rw [List.count_cons_of_ne (Ne.symm e)]
  rw [this]
section
variable {ops : Array Oper} {rest : List Oper} {o : Oper} {a : Act} {Q : Exit → Act → World → Prop} {W : World} {g : Nat} {L : List Int}
theorem us_map_event (hgd:o.guard=none) (hop:o.op=.makeMap 46 none) (h:∀ g,g=W.heap.size → ∀ w1,UsCnt w1 g [] → Below W.heap.size W w1 → wpList Try.prog ops Q rest (a.put o.dst (.map (some g))) w1):wpList Try.prog ops Q (o :: rest) a W :=
 Kd.event_run hgd (w1:=W.alloc (.map #[] 0)) (by simp [execOp,hop,run_makeMap,Result.andThen]) (h _ rfl _ (UsCnt.made W) (zlA (Below.refl _ _) _))
theorem us_look_run (m x:Operand) (hop:o.op=.lookup 46 m x false) (hm:a.eval m=.map (some g)) {k:Int} (hx:a.eval x=.int .i64 k) (hs:UsCnt W g L) (hk:us_ok k):(execOp a.eval o).run Try.prog W=.ok (.value (.int .i64 (us_cn L k))) W:=by
 simp [execOp,hop,hm,hx,hs.look hk,Result.andThen]
theorem us_look_event (hgd:o.guard=none) (m x:Operand) (hop:o.op=.lookup 46 m x false) (hm:a.eval m=.map (some g)) {k:Int} (hx:a.eval x=.int .i64 k) (hs:UsCnt W g L) (hk:us_ok k) (h:wpList Try.prog ops Q rest (a.put o.dst (.int .i64 (us_cn L k))) W):wpList Try.prog ops Q (o :: rest) a W :=
 Kd.event_run hgd (us_look_run m x hop hm hx hs hk) h
theorem us_put_event (hgd:o.guard=none) (m x v:Operand) (hop:o.op=.mapUpdate 46 m x v) (hm:a.eval m=.map (some g)) {k:Int} (hx:a.eval x=.int .i64 k) (hv:a.eval v=.int .i64 (wrap64 (us_cn L k + 1))) (hs:UsCnt W g L) (hk:us_ok k) (hl:L.length < 100000) (h:∀ w1,UsCnt w1 g (k :: L) → W.grownBy w1 (some g) → wpList Try.prog ops Q rest (a.put o.dst undef) w1):wpList Try.prog ops Q (o :: rest) a W:=by
 obtain ⟨w1,h1,h2,h3⟩:=hs.put hk hl
 refine wpList_plain hgd fun K' hK'=>?_
 unfold Oper.wp
 simp [execOp,hop,hm,hx,hv,h1,Result.andThen]
 exact hK' _ _ (h w1 h2 h3)
end
end Uses
section
open Go.Shelf
attribute [local go_sem] Oper.semAt_some
namespace Uses
open Cap
def us_st:List (Nat × T6) → Int × Int:=List.foldl (fun s x=>(wrap64 (s.1 + x.2.2.1),wrap64 (s.2 + 1))) (0,0)
theorem us_st_snoc (pre:List (Nat × T6)) (x:Nat × T6):us_st (pre ++ [x])=(wrap64 ((us_st pre).1 + x.2.2.1),wrap64 ((us_st pre).2 + 1)):=by simp [us_st]
def us_good (s:Int × Int) (x:Nat × T6):Prop:=(x.1:Int)=s.2∧x.2.1=s.1∧¬ x.2.2.1 < 16∧¬ x.2.2.2.2.2.2 > wrap64 (s.1 + x.2.2.1)
instance (s:Int × Int) (x:Nat × T6):Decidable (us_good s x):=by unfold us_good;infer_instance
def us_okl:Int × Int → List (Nat × T6) → Bool
 | _,[]=>true
 | s,x :: r=>decide (us_good s x) && us_okl (wrap64 (s.1 + x.2.2.1),wrap64 (s.2 + 1)) r
theorem us_okl_spec:∀ (r pre:List (Nat × T6)),us_okl (us_st pre) r=true → ∀ (p:List (Nat × T6)) (x:Nat × T6) (q:List (Nat × T6)),r=p ++ x :: q → us_good (us_st (pre ++ p)) x
 | [],pre,h,p,x,q,e=>by cases p <;> cases e
 | y :: r,pre,h,p,x,q,e=>by
  simp only [us_okl,Bool.and_eq_true,decide_eq_true_eq] at h
  cases p with
  | nil =>
   simp only [List.nil_append,List.cons.injEq] at e
   rw [List.append_nil,← e.1]
   exact h.1
  | cons z p =>
   simp only [List.cons_append,List.cons.injEq] at e
   have:=us_okl_spec r (pre ++ [y]) (by rw [us_st_snoc];exact h.2) p x q e.2
   rw [← e.1]
   simpa using this
set_option maxRecDepth 100000 in
set_option maxHeartbeats 4000000 in
theorem us_all_stops (k:Nat) (b j:Int) (N:Nat) (hN:N≤64) (gs:Nat → T6) (hG:layout_Groups.f k b j=some (N:Int)) (hg:∀ i,i < N → layout_group.f k b j (i:Int)=some (gs i))
  (n:Nat) (hn:1≤n) (Bs:Nat) (w:World) (hBs:w.heap[Bs]?=some (.cells #[.int .i64 b,.int .i64 j] 24 (0,0))) :
  SeqStopsK Fence.wide n Try.prog 48 #[.pointer (some ⟨Bs,0,none⟩)] Cap.encs (KpB Bs b j) (fun xs=>xs=upto (fun i=>(i,gs i)) N) (fun xs=>∃ q,q < N∧xs=upto (fun i=>(i,gs i)) (q + 1)) N w:=fun l J Jx W hW hJ hJx hY h0=>by
 have hlt:Bs < w.heap.size:=(Array.getElem?_eq_some_iff.1 hBs).1
 have hbx:W.heap[Bs]?=some (.cells #[.int .i64 b,.int .i64 j] 24 (0,0)):=(hW.block Bs hlt).trans hBs
 have hc0:W.cell? ⟨Bs,0,none⟩=some (.int .i64 b):=(blk_cell hbx 0).trans rfl
 have hc1:W.cell? ⟨Bs,1,none⟩=some (.int .i64 j):=(blk_cell hbx 1).trans rfl
 have hu24:=Try.underlying24
 refine callsIn_of_wp Try.func48 rfl (by trivial) ?_ rfl
 simp only [Try.ntmps48,List.size_toArray,List.length_cons,List.length_nil,Nat.reduceAdd,Nat.reduceSub,Array.replicate_succ,Array.replicate_zero,List.push_toArray,List.append_toArray,List.nil_append,List.cons_append]
 gi_wp2
 refine ⟨trivial,(callsIn_wide.mpr (layout_Groups.calls k b j (N:Int) _ hG)).mono ?_⟩
 rintro e w1 ⟨rfl,hb1⟩
 simp only []
 gi_wp2
 have hJ1:=hJ [] W w1 none h0 (below_grown hb1) (fun r e=>by cases e)
 have hbx1:w1.heap[Bs]?=some (.cells #[.int .i64 b,.int .i64 j] 24 (0,0)):=(hb1.block Bs ((Array.getElem?_eq_some_iff.1 hbx).1)).trans hbx
 clear hc0 hc1
 gi_loopw [6] (fun i wr=>∃ q:Nat,q≤N∧i=.int .i64 q∧J (upto (fun i=>(i,gs i)) q) wr∧wr.heap[Bs]?=some (.cells #[.int .i64 b,.int .i64 j] 24 (0,0)))
  (fun i _=>N - (intOf i).toNat)
 case atStart=>exact ⟨0,Nat.zero_le _,rfl,hJ1,hbx1⟩
 case round =>
  obtain ⟨q,hq,rfl,hJs,hbr⟩:=hrel
  have hc0:wr.cell? ⟨Bs,0,none⟩=some (.int .i64 b):=(blk_cell hbr 0).trans rfl
  have hc1:wr.cell? ⟨Bs,1,none⟩=some (.int .i64 j):=(blk_cell hbr 1).trans rfl
  by_cases hlt:q < N
  ·gi_wp2
   refine ⟨trivial,(callsIn_wide.mpr (layout_group.calls k b j (q:Int) (gs q).1 (gs q).2.1 (gs q).2.2.1 (gs q).2.2.2.1 (gs q).2.2.2.2.1 (gs q).2.2.2.2.2 _ (hg q hlt))).mono ?_⟩
   rintro e w2 ⟨rfl,hb2⟩
   simp only []
   have hJ2:=hJ _ wr w2 none hJs (below_grown hb2) (fun r e=>by cases e)
   have hbx2:w2.heap[Bs]?=some (.cells #[.int .i64 b,.int .i64 j] 24 (0,0)):=(hb2.block Bs ((Array.getElem?_eq_some_iff.1 hbr).1)).trans hbr
   obtain ⟨fn,tmps,assign,body,hy,hR⟩:=hY _ (q,gs q) w2 hJ2 (by rw [upto_length];exact hlt)
   dsimp only [Cap.encs,val6] at hy
   gi_wp2
   refine hR.mono ?_
   rintro e w3 (⟨rfl,hJ3,hk3⟩|⟨rfl,hx3⟩)
   ·gi_wp2
    go_roundw
    case rel=>exact ⟨q + 1,by omega,by simp,by rw [upto_succ];exact hJ3,hk3 hbx2⟩
    case measure=>simp [intOf];omega
   ·gi_wp2
    refine bodyPost_ret (results_none rfl _ _ _) rfl ?_
    exact ⟨⟨_,rfl⟩,.inr ⟨_,⟨q,hlt,(upto_succ _ _).symm⟩,hx3⟩⟩
  ·obtain rfl:q=N:=by omega
   gi_wp2
   go_end0
   exact ⟨⟨_,rfl⟩,.inl ⟨_,rfl,hJs⟩⟩
end Uses
end
def slipwaylaw11_LayoutUses.l0:Nat → List Int → Int → Int → Int → Int → Int → Option (Bool)
 | 0,_,_,_,_,_,_=>none
 | k + 1,x13,x71,x0,x1,x8,x9=>if x71 < x0 then ((layout_Kind.f k x0 x1 x71).bind fun t266=>(if 0≤t266∧t266 < 100∧x13.length < 100000 then (slipwaylaw11_LayoutUses.l0 k (t266 :: x13) (wrap64 (x71 + 1)) x0 x1 x8 x9) else (none))) else ((layout_Groups.f k x0 x1).bind fun t267=>((layout_Descs.f k x0 x1).bind fun t268=>((layout_Capacity.f k x0 x1).bind fun t269=>((layout_Kind.f k x0 x1 x0).bind fun t270=>(if x8=x0∧x9=t267∧Uses.us_cn x13 1=1∧Uses.us_cn x13 2=t268∧Uses.us_cn x13 3=x9∧Uses.us_cn x13 4=x9∧Uses.us_cn x13 5=wrap64 (x9 * 4)∧Uses.us_cn x13 6=x1∧Uses.us_cn x13 7=t269∧wrap64 (Uses.us_cn x13 7 + wrap64 (wrap64 (wrap64 (wrap64 (wrap64 (Uses.us_cn x13 1 + Uses.us_cn x13 2) + Uses.us_cn x13 3) + Uses.us_cn x13 4) + Uses.us_cn x13 5) + Uses.us_cn x13 6))=x0∧Uses.us_cn x13 7 > 0 then (some (t270 == 8)) else (none))))))
open Cap in
def slipwaylaw11_LayoutUses.grp (k:Nat) (b j:Int):Option (Int × Int):=(layout_Groups.f k b j).bind fun n=>if 0≤n∧n≤64 then (layout_Capacity.lst k b j n.toNat).bind fun l=>(if Uses.us_okl (0,0) l=true then some (Uses.us_st l) else none) else none
def slipwaylaw11_LayoutUses.f (k:Nat) (a0:Int) (a1:Int):Option (Bool):=(slipwaylaw11_live.f k).bind fun t257=>(if t257=true then ((layout_Plan.f k (wrap64 ((wrap64 (Int.tmod a0 1500)) + 1)) (wrap64 ((wrap64 (Int.tmod a1 49)) + 16))).bind fun bt258=>(if bt258.2.2=0 then ((slipwaylaw11_LayoutUses.grp k bt258.1 bt258.2.1).bind fun bt264=>(slipwaylaw11_LayoutUses.l0 k [] 0 bt258.1 bt258.2.1 bt264.1 bt264.2)) else (some true))) else (none))
theorem Uses.us_nil (g:Nat) (w:World):(binOp BinOp.eql 44 (Value.func (Fn.func 48) #[] #[.pointer (some ⟨g,0,none⟩)]) Value.nilFunc).run Try.prog w=.ok (.bool false) w:=by
 kernel_rfl
theorem Uses.us_all_calls (b j:Int) (W:World):Calls Try.prog 27 #[.agg #[.int .i64 b,.int .i64 j]] W fun e w'=>∃ g:Nat,e=.returned (.func (.func 48) #[] #[.pointer (some ⟨g,0,none⟩)])∧g=W.heap.size∧w'.heap[g]?=some (.cells #[.int .i64 b,.int .i64 j] 24 (0,0))∧Below W.heap.size W w':=by
 refine (callsIn_wide.mp (Cap.all_in 3 b j W)).mono ?_
 rintro e w' ⟨rfl,rfl⟩
 exact ⟨_,rfl,rfl,blk_new W _,zlA (Below.refl _ _) _⟩
theorem Uses.us_world_gen {c:Code} {n:Nat} {P:Program} {Q:Exit → Act → World → Prop} {a:Act} {W:World} (F:World → Prop) (hF:F W) (h:∀ W0,F W0 → c.wpIn Fence.wide n P Q a W0):c.wpIn Fence.wide n P Q a W:=h _ hF
theorem Uses.us_results_bool {fn:Func} (h:fn.results=#[.cell 4 4]) (tmps:Array Value) (w:World) (g:Nat) (b:Bool) (hp:tmps.getD 4 undef=.pointer (some ⟨g,0,none⟩)) (hc:w.cell? ⟨g,0,none⟩=some (.bool b)):(results fn tmps).run Try.prog w=.ok (.bool b) w:=by
 have hu:Try.prog.underlying 4=some .bool:=by kernel_rfl
 have hp':tmps[4]?.getD undef=.pointer (some ⟨g,0,none⟩):=by simpa using hp
 simp [results,h,hp',asAddr,hu,hc,go_sem]
def Uses.us_onlyN (G:Exit → Act → World → Prop):Exit → Act → World → Prop
 | .normal,a,w=>G .normal a w
 | _,_,_=>False
theorem Uses.us_only_normal_wp {P:Program} {c:Code} {a:Act} {w:World} {G:Exit → Act → World → Prop} (h:c.wp P (Uses.us_onlyN G) a w):c.wp P G a w :=
 (wpIn_wide (n:=1)).mp (wpIn_mono ((wpIn_wide (n:=1)).mpr h) (fun e a w hq=>by cases e <;> first|exact hq|exact hq.elim))
theorem Uses.UsCnt.set {w:World} {g:Nat} {L:List Int} (h:Uses.UsCnt w g L) {a:Addr} (ha:g≠a.block) (u:Value):Uses.UsCnt (w.setCell a u) g L:=by
 obtain ⟨D,n,h,r⟩:=h
 exact ⟨D,n,h.setCell ha u,r⟩
theorem us_blk_farO {w:World} {g:Nat} {o:Obj} (h:w.heap[g]?=some o) {p:Addr} (hp:g≠p.block) (u:Value):(w.setCell p u).heap[g]?=some o:=(RowKit.Below.heap_setCell _ _ _ _ hp).trans h
def slipwaylaw11_LayoutUses.T25:Bool × List (List Nat × List Nat):=(true,[([],[]),([],[]),([1],[1]),([0,2],[0,2]),([3],[3]),([4],[4]),([4],[4]),([6,4,4],[4,6]),([5,7,4],[4,5,7]),([4,8],[4,8]),([9,7],[9]),([10],[10]),([11,10],[10,11]),([12,10],[10,12]),([10,13],[10,13]),([14,10],[14]),([15],[15]),([16,15],[15,16]),([15],[15]),([18,15,15],[15,18]),([17,19,15],[15,17,19]),([15,20],[15,20]),([21,19],[21]),([22],[22]),([23,22],[22,23]),([22],[22]),([24,25,22],[22,24,25]),([22,26],[22,26]),([27,22],[27]),([28],[28]),([29,28],[28,29]),([28],[28]),([30,31,28],[28,30,31]),([28,32],[28,32]),([33,28],[33]),([34],[34]),([35,34],[34,35]),([34],[34]),([37,34],[34,37]),([36,38,34],[34,36,38]),([34,39],[34,39]),([40,34],[40]),([41],[41]),([42,41],[41,42]),([41],[41]),([44,41],[41,44]),([43,45,41],[41,43,45]),([41,46],[41,46]),([47,41],[47]),([48],[48]),([48],[48]),([50,48,48],[48,50]),([49,51,48],[48,49,51]),([48,52],[48,52]),([53,51],[53]),([54],[54]),([54],[54]),([55,56,54],[54,55,56]),([54],[54]),([58,54],[54,58]),([57,59,54],[54,57,59]),([54,60],[54,60]),([61,54],[61]),([62],[62]),([63,62],[62,63]),([62,64],[62,64]),([65,62],[65]),([66],[66]),([66],[66]),([68,66],[66,68]),([67,69,66,66],[66,67,69]),([70,66],[66,70]),([66,71],[66,71]),([72,70,0,1,2,3,4,5,6,7,8,9,10,11,12,13,14,15,16,17,18,19,20,21,22,23,24,25,26,27,28,29,30,31,32,33,34,35,36,37,38,39,40,41,42,43,44,45,46,47,48,49,50,51,52,53,54,55,56,57,58,59,60,61,62,63,64,65,66,67,68,69,70,71,72],[72])])
def slipwaylaw11_LayoutUses.B25:List Nat:=[0,0,2,7,15,31,31,95,255,511,1023,2047,4095,8191,16383,32767,65535,131071,65535,327679,1048575,2097151,4194303,8388607,16777215,8388607,67108863,134217727,268435455,536870911,1073741823,536870911,4294967295,8589934591,17179869183,34359738367,68719476735,34359738367,171798691839,549755813887,1099511627775,2199023255551,4398046511103,8796093022207,4398046511103,21990232555519,70368744177663,140737488355327,281474976710655,562949953421311,562949953421311,1688849860263935,4503599627370495,9007199254740991,18014398509481983,36028797018963967,36028797018963967,144115188075855871,36028797018963967,324259173170675711,1152921504606846975,2305843009213693951,4611686018427387903,9223372036854775807,18446744073709551615,36893488147419103231,73786976294838206463,147573952589676412927,147573952589676412927,442721857769029238783,1180591620717411303423,2361183241434822606847,4722366482869645213695,9444732965739290427391]
theorem slipwaylaw11_LayoutUses.tab25:rtab .any (opsOf Try.f5 25)=slipwaylaw11_LayoutUses.T25:=by kernel_rfl
theorem slipwaylaw11_LayoutUses.bits25:waitsOk slipwaylaw11_LayoutUses.T25.2 slipwaylaw11_LayoutUses.B25=true:=by kernel_rfl
section
open Go.Shelf
attribute [local go_sem] Oper.semAt_some
attribute [local go_sem] Uses.us_nil
set_option maxHeartbeats 8000000 in
set_option maxRecDepth 100000 in
theorem slipwaylaw11_LayoutUses.calls (k:Nat) (a0:Int) (a1:Int) (r:Bool) (w:World) (h:slipwaylaw11_LayoutUses.f k a0 a1=some r) :
  Calls Try.prog 5 #[.int .u16 a0,.int .u8 a1] w fun e w'=>e=.returned (.bool r)∧Below w.heap.size w w':=by
 have hu24:=Try.underlying24
 have hu30:=Try.underlying30
 have HB:=zm (Below.refl w.heap.size w)
 unfold slipwaylaw11_LayoutUses.f at h
 obtain ⟨t257,A30,H⟩:=Option.bind_eq_some_iff.mp h
 clear h
 have A3:=zm A30
 clear A30
 by_cases c4:t257=true
 ·subst c4
  rw [if_pos rfl] at H
  obtain ⟨⟨t258,t259,t260⟩,A50,H⟩:=Option.bind_eq_some_iff.mp H
  have A5:=zm A50
  clear A50
  simp only [] at H
  by_cases c6:t260=0
  ·rw [if_pos c6] at H
   have c6b0:(t260 == 0)=true:=beq_iff_eq.mpr c6
   have c6b1:(t260 != 0)=false:=bne_eq_false_iff_eq.mpr c6
   clear c6
   obtain ⟨⟨t264,t265⟩,A80,H⟩:=Option.bind_eq_some_iff.mp H
   simp only [] at H
   unfold slipwaylaw11_LayoutUses.grp at A80
   obtain ⟨nn,hG,A80⟩:=Option.bind_eq_some_iff.mp A80
   by_cases cnq:0≤nn∧nn≤64
   ·rw [if_pos cnq] at A80
    obtain ⟨l,hl,A80⟩:=Option.bind_eq_some_iff.mp A80
    obtain ⟨N,rfl⟩:=Int.eq_ofNat_of_zero_le cnq.1
    rw [Int.toNat_natCast] at hl
    obtain ⟨gs,hgs,rfl⟩:=layout_Capacity.lst_spec k t258 t259 N l hl
    by_cases co:Uses.us_okl (0,0) (Cap.upto (fun i=>(i,gs i)) N)=true
    ·rw [if_pos co] at A80
     have eN:=zm (Option.some.inj A80)
     clear A80 hl
     have hG:=zm hG
     have hgs:=zm hgs
     have co:=zm co
     have cnq:=zm cnq
     have H':=zm H
     clear H
     refine (callsIn_wide (n:=3)).mp ?_
     refine callsIn_of_wp_marks Try.func5 rfl (by trivial) ?_ rfl
     refine wpIn_wide.mpr ?_
     simp only [Try.ntmps5,List.size_toArray,List.length_cons,List.length_nil,Nat.reduceAdd,Nat.reduceSub,Array.replicate_succ,Array.replicate_zero,List.push_toArray,List.append_toArray,List.nil_append,List.cons_append]
     go_wp2_with (first|((with_reducible refine gate_dst (N:=4) rfl ?_);refine box_event ?hg (N:=4) ?hd (cs:=#[.bool false]) (t:=4) ?hr ?_;(case hd=>rfl);(case hg=>rfl);(case hr=>first|(go_simp;done)|(go_simp;rfl));intro gb256 hg w10 hbox hb;have n0_:=zm (below_step (by repeat (first|(with_reducible first|exact HB.out|apply zlA|apply zlN|apply zlD)|exact HB.out)) hb);have n1_:=zm (hbox);have n2_:=zm ((by rw [hg];exact (below_size (by repeat (first|(with_reducible first|exact HB.out|apply zlA|apply zlN|apply zlD)|exact HB.out))):w.heap.size≤gb256));have n3_:=zm ((by rw [hg];exact (below_size (by repeat (first|(with_reducible first|exact HB.out|apply zlA|apply zlN|apply zlD)|exact HB.out))):w.heap.size≤gb256));clear HB;have HB:=n0_;have BK256:=n1_;have GW256:=n2_;have GE256:=n3_;clear n0_ n1_ n2_ n3_;clear hb hbox hg)|((with_reducible refine gate_callee (f:=10) rfl ?_);refine goesL_ (some 16) rfl rfl Try.func10 (by kernel_rfl) rfl #[] rfl (by (try simp only [List.map_toArray,List.map_cons,List.map_nil]);first|done|rfl|(simp only [List.length_drop,List.length_take];rfl)) ?_;(with_reducible refine (slipwaylaw11_live.calls k  true _ A3.out).mono ?_);rintro e w11 ⟨rfl,hb⟩;refine ⟨_,rfl,?_⟩;have n0_:=zm (zbB (g:=gb256) (o:=.cells #[.bool false] 4 (0,0)) (by (with_reducible repeat (first|refine zbN ?_ _|refine zbD ?_|refine zbA ?_ _));exact BK256.out) hb);have n1_:=zm (below_step (by repeat (first|(with_reducible first|exact HB.out|apply zlA|apply zlN|apply zlD|refine zlS ?_ GE256.out)|exact HB.out)) hb);clear BK256 HB;have BK256:=n0_;have HB:=n1_;clear n0_ n1_;(try clear hb);(try clear hb2);(try clear hk);(try clear hi))|((with_reducible refine gate_callee (f:=11) rfl ?_);refine goesL_ (some 27) rfl rfl Try.func11 (by kernel_rfl) rfl #[.int .i64 (wrap64 ((wrap64 (Int.tmod a0 1500)) + 1)),.int .i64 (wrap64 ((wrap64 (Int.tmod a1 49)) + 16))] rfl (by (try simp only [List.map_toArray,List.map_cons,List.map_nil]);first|done|rfl|(simp only [List.length_drop,List.length_take];rfl)) ?_;(with_reducible refine (layout_Plan.calls k (wrap64 ((wrap64 (Int.tmod a0 1500)) + 1)) (wrap64 ((wrap64 (Int.tmod a1 49)) + 16)) t258 t259 t260 _ A5.out).mono ?_);rintro e w12 ⟨rfl,hb⟩;refine ⟨_,rfl,?_⟩;have n0_:=zm (zbB (g:=gb256) (o:=.cells #[.bool false] 4 (0,0)) (by (with_reducible repeat (first|refine zbN ?_ _|refine zbD ?_|refine zbA ?_ _));exact BK256.out) hb);have n1_:=zm (below_step (by repeat (first|(with_reducible first|exact HB.out|apply zlA|apply zlN|apply zlD|refine zlS ?_ GE256.out)|exact HB.out)) hb);clear BK256 HB;have BK256:=n0_;have HB:=n1_;clear n0_ n1_;(try clear hb);(try clear hb2);(try clear hk);(try clear hi))|((with_reducible refine gate_dst (N:=5) rfl ?_);refine box_event ?hg (N:=5) ?hd (cs:=#[.int .i64 0,.int .i64 0]) (t:=24) ?hr ?_;(case hd=>rfl);(case hg=>rfl);(case hr=>first|(go_simp;done)|(go_simp;rfl));intro gb261 hg w13 hbox hb;have n0_:=zm (zbB (g:=gb256) (o:=.cells #[.bool false] 4 (0,0)) (by (with_reducible repeat (first|refine zbN ?_ _|refine zbD ?_|refine zbA ?_ _));exact BK256.out) hb);have n1_:=zm (below_step (by repeat (first|(with_reducible first|exact HB.out|apply zlA|apply zlN|apply zlD|refine zlS ?_ GE256.out)|exact HB.out)) hb);have n2_:=zm (hbox);have n3_:=zm ((by rw [hg];exact (below_size (by repeat (first|(with_reducible first|exact HB.out|apply zlA|apply zlN|apply zlD|refine zlS ?_ GE256.out)|exact HB.out))):w.heap.size≤gb261));have n4_:=zm ((by rw [hg];exact (below_size (by repeat (first|(with_reducible first|exact HB.out|apply zlA|apply zlN|apply zlD|refine zlS ?_ GE256.out)|exact HB.out))):w.heap.size≤gb261));have n5_:=zm ((by rw [hg];exact Nat.ne_of_lt (blk_lt (g:=gb256) (o:=.cells #[.bool false] 4 (0,0)) (by (with_reducible repeat (first|refine zbN ?_ _|refine zbD ?_|refine zbA ?_ _));exact BK256.out)):gb256≠gb261));have n6_:=zm ((by rw [hg];exact Nat.ne_of_gt (blk_lt (g:=gb256) (o:=.cells #[.bool false] 4 (0,0)) (by (with_reducible repeat (first|refine zbN ?_ _|refine zbD ?_|refine zbA ?_ _));exact BK256.out)):gb261≠gb256));clear BK256 HB;have BK256:=n0_;have HB:=n1_;have BK261:=n2_;have GW261:=n3_;have GE261:=n4_;have NB256_261:=n5_;have NB261_256:=n6_;clear n0_ n1_ n2_ n3_ n4_ n5_ n6_;clear hb hbox hg;have hnb14:=NB261_256.out;have hnc14:=NB256_261.out;have hcz15_0:w13.cell? ⟨gb261,0,none⟩=some (.int .i64 0):=(blk_cell BK261.out 0).trans rfl;have hcz15_1:w13.cell? ⟨gb261,1,none⟩=some (.int .i64 0):=(blk_cell BK261.out 1).trans rfl;have hfz15_0:=blk_frozen BK261.out 0;have hfz15_1:=blk_frozen BK261.out 1)|((with_reducible refine gate_callee (f:=27) rfl ?_);refine goesL_ (some 33) rfl rfl Try.func27 (by kernel_rfl) rfl #[.agg #[.int .i64 t258,.int .i64 t259]] rfl (by (try simp only [List.map_toArray,List.map_cons,List.map_nil]);first|done|rfl) ?_;(with_reducible refine (Uses.us_all_calls t258 t259 _).mono ?_);rintro e w19 ⟨gbA,rfl,hgA,hbA,hb⟩;refine ⟨_,rfl,?_⟩;have n0_:=zm (zbB (g:=gb256) (o:=.cells #[.bool false] 4 (0,0)) (by (with_reducible repeat (first|refine zbN ?_ _|refine zbD ?_|refine zbA ?_ _));refine blk_far ?_ NB256_261.out _;(with_reducible repeat (first|refine zbN ?_ _|refine zbD ?_|refine zbA ?_ _));refine blk_far ?_ NB256_261.out _;(with_reducible repeat (first|refine zbN ?_ _|refine zbD ?_|refine zbA ?_ _));exact BK256.out) hb);have n1_:=zm (zbB (g:=gb261) (o:=.cells #[.int .i64 t258,.int .i64 t259] 24 (0,0)) (by (with_reducible repeat (first|refine zbN ?_ _|refine zbD ?_|refine zbA ?_ _));refine blk_put (cs:=#[.int .i64 t258,.int .i64 0]) ?_ 1 _ rfl;(with_reducible repeat (first|refine zbN ?_ _|refine zbD ?_|refine zbA ?_ _));refine blk_put (cs:=#[.int .i64 0,.int .i64 0]) ?_ 0 _ rfl;(with_reducible repeat (first|refine zbN ?_ _|refine zbD ?_|refine zbA ?_ _));exact BK261.out) hb);have n2_:=zm (below_step (by repeat (first|(with_reducible first|exact HB.out|apply zlA|apply zlN|apply zlD|refine zlS ?_ GE256.out|refine zlS ?_ GE261.out)|exact HB.out)) hb);have n3_:=zm ((by rw [hgA];exact (below_size (by repeat (first|(with_reducible first|exact HB.out|apply zlA|apply zlN|apply zlD|refine zlS ?_ GE256.out|refine zlS ?_ GE261.out)|exact HB.out)))):w.heap.size≤gbA);have n4_:=zm (show gb256 < gbA by rw [hgA];exact blk_lt (g:=gb256) (o:=.cells #[.bool false] 4 (0,0)) (by (with_reducible repeat (first|refine zbN ?_ _|refine zbD ?_|refine zbA ?_ _));refine blk_far ?_ NB256_261.out _;(with_reducible repeat (first|refine zbN ?_ _|refine zbD ?_|refine zbA ?_ _));refine blk_far ?_ NB256_261.out _;(with_reducible repeat (first|refine zbN ?_ _|refine zbD ?_|refine zbA ?_ _));exact BK256.out));have n5_:=zm (show gb261 < gbA by rw [hgA];exact blk_lt (g:=gb261) (o:=.cells #[.int .i64 t258,.int .i64 t259] 24 (0,0)) (by (with_reducible repeat (first|refine zbN ?_ _|refine zbD ?_|refine zbA ?_ _));refine blk_put (cs:=#[.int .i64 t258,.int .i64 0]) ?_ 1 _ rfl;(with_reducible repeat (first|refine zbN ?_ _|refine zbD ?_|refine zbA ?_ _));refine blk_put (cs:=#[.int .i64 0,.int .i64 0]) ?_ 0 _ rfl;(with_reducible repeat (first|refine zbN ?_ _|refine zbD ?_|refine zbA ?_ _));exact BK261.out));clear BK256 BK261 HB;have BK256:=n0_;have BK261:=n1_;have HB:=n2_;have GEA:=n3_;have LA256:=n4_;have LA261:=n5_;have BKA:=zm hbA;clear n0_ n1_ n2_ n3_ n4_ n5_ hb hbA hgA)|((with_reducible refine gate_dst (N:=8) rfl ?_);refine box_event ?hg (N:=8) ?hd (cs:=#[.int .i64 0]) (t:=3) ?hr ?_;(case hd=>rfl);(case hg=>rfl);(case hr=>first|(go_simp;done)|(go_simp;rfl));intro gb262 hg wgb262 hbox hb;have n0_:=zm (zbB (g:=gb256) (o:=.cells #[.bool false] 4 (0,0)) BK256.out hb);have Lgb262_gb256:=zm (show gb256 < gb262 by rw [hg];exact blk_lt (g:=gb256) (o:=.cells #[.bool false] 4 (0,0)) BK256.out);have n1_:=zm (zbB (g:=gb261) (o:=.cells #[.int .i64 t258,.int .i64 t259] 24 (0,0)) BK261.out hb);have Lgb262_gb261:=zm (show gb261 < gb262 by rw [hg];exact blk_lt (g:=gb261) (o:=.cells #[.int .i64 t258,.int .i64 t259] 24 (0,0)) BK261.out);have n2_:=zm (zbB (g:=gbA) (o:=.cells #[.int .i64 t258,.int .i64 t259] 24 (0,0)) BKA.out hb);have Lgb262_gbA:=zm (show gbA < gb262 by rw [hg];exact blk_lt (g:=gbA) (o:=.cells #[.int .i64 t258,.int .i64 t259] 24 (0,0)) BKA.out);have m0_:=zm (below_step HB.out hb);have m1_:=zm ((by rw [hg];exact (below_size HB.out)):w.heap.size≤gb262);clear BK256 BK261 BKA HB;have BK256:=n0_;have BK261:=n1_;have BKA:=n2_;have HB:=m0_;have GE262:=m1_;have BK262:=zm hbox;clear hb hbox hg n0_ n1_ n2_ m0_ m1_)|((with_reducible refine gate_dst (N:=9) rfl ?_);refine box_event ?hg (N:=9) ?hd (cs:=#[.int .i64 0]) (t:=3) ?hr ?_;(case hd=>rfl);(case hg=>rfl);(case hr=>first|(go_simp;done)|(go_simp;rfl));intro gb263 hg wgb263 hbox hb;have n0_:=zm (zbB (g:=gb256) (o:=.cells #[.bool false] 4 (0,0)) BK256.out hb);have Lgb263_gb256:=zm (show gb256 < gb263 by rw [hg];exact blk_lt (g:=gb256) (o:=.cells #[.bool false] 4 (0,0)) BK256.out);have n1_:=zm (zbB (g:=gb261) (o:=.cells #[.int .i64 t258,.int .i64 t259] 24 (0,0)) BK261.out hb);have Lgb263_gb261:=zm (show gb261 < gb263 by rw [hg];exact blk_lt (g:=gb261) (o:=.cells #[.int .i64 t258,.int .i64 t259] 24 (0,0)) BK261.out);have n2_:=zm (zbB (g:=gbA) (o:=.cells #[.int .i64 t258,.int .i64 t259] 24 (0,0)) BKA.out hb);have Lgb263_gbA:=zm (show gbA < gb263 by rw [hg];exact blk_lt (g:=gbA) (o:=.cells #[.int .i64 t258,.int .i64 t259] 24 (0,0)) BKA.out);have n3_:=zm (zbB (g:=gb262) (o:=.cells #[.int .i64 0] 3 (0,0)) BK262.out hb);have Lgb263_gb262:=zm (show gb262 < gb263 by rw [hg];exact blk_lt (g:=gb262) (o:=.cells #[.int .i64 0] 3 (0,0)) BK262.out);have m0_:=zm (below_step HB.out hb);have m1_:=zm ((by rw [hg];exact (below_size HB.out)):w.heap.size≤gb263);clear BK256 BK261 BKA BK262 HB;have BK256:=n0_;have BK261:=n1_;have BKA:=n2_;have BK262:=n3_;have HB:=m0_;have GE263:=m1_;have BK263:=zm hbox;clear hb hbox hg n0_ n1_ n2_ n3_ m0_ m1_;have hczp:wgb263.cell? ⟨gb262,0,none⟩=some (.int .i64 0):=(blk_cell BK262.out 0).trans rfl;have hfzp:=blk_frozen BK262.out 0;have hczq:wgb263.cell? ⟨gb263,0,none⟩=some (.int .i64 0):=(blk_cell BK263.out 0).trans rfl;have hfzq:=blk_frozen BK263.out 0;have hnp:gb262≠gb263:=Nat.ne_of_lt Lgb263_gb262.out;have hnq:gb263≠gb262:=Nat.ne_of_gt Lgb263_gb262.out))
     refine (wpIn_wide (n:=3)).mp ?_
     refine Uses.us_world_gen (fun W0=>W0.heap[gb256]?=some (.cells #[.bool false] 4 (0,0))∧W0.heap[gb261]?=some (.cells #[.int .i64 t258,.int .i64 t259] 24 (0,0))∧W0.heap[gbA]?=some (.cells #[.int .i64 t258,.int .i64 t259] 24 (0,0))∧W0.heap[gb262]?=some (.cells #[.int .i64 0] 3 (0,0))∧W0.heap[gb263]?=some (.cells #[.int .i64 0] 3 (0,0))∧Below w.heap.size w W0) ⟨blk_far (blk_far BK256.out (Nat.ne_of_lt Lgb262_gb256.out) _) (Nat.ne_of_lt Lgb263_gb256.out) _,blk_far (blk_far BK261.out (Nat.ne_of_lt Lgb262_gb261.out) _) (Nat.ne_of_lt Lgb263_gb261.out) _,blk_far (blk_far BKA.out (Nat.ne_of_lt Lgb262_gbA.out) _) (Nat.ne_of_lt Lgb263_gbA.out) _,blk_far (blk_put BK262.out 0 _ rfl) (Nat.ne_of_lt Lgb263_gb262.out) _,blk_put (blk_far BK263.out (Nat.ne_of_gt Lgb263_gb262.out) _) 0 _ rfl,zlS (zlS HB.out GE262.out) GE263.out⟩ ?_
     rintro W0 ⟨K256,K261,KA,K262,K263,KB⟩
     clear BK256 BK261 BKA BK262 BK263 HB hczp hfzp hczq hfzq hnp hnq
     (try clear hcz15_0 hcz15_1 hfz15_0 hfz15_1)
     have s256:gb256 < W0.heap.size:=blk_lt K256
     have s261:gb261 < W0.heap.size:=blk_lt K261
     have sA:gbA < W0.heap.size:=blk_lt KA
     have s262:gb262 < W0.heap.size:=blk_lt K262
     have s263:gb263 < W0.heap.size:=blk_lt K263
     have l1:=LA256.out
     have l2:=LA261.out
     have l3:=Lgb262_gbA.out
     have l4:=Lgb263_gb262.out
     have l5:=NB256_261.out
     have l6:=GE256.out
     have l7:=GE261.out
     have cnN:=cnq.out.2
     refine wpIn_rangeFunc_ownH (F:=Fence.wide) rfl (by decide) (gf:=48) (lb:=#[.pointer (some ⟨gbA,0,none⟩)]) rfl (by trivial) (enters_of Try.func48 (by kernel_rfl) rfl) (Uses.us_all_stops k t258 t259 N (by omega) gs hG.out hgs.out 2 (by decide) gbA W0 KA)
      (fun h1 h2 h=>h2 (h1 h)) (fun W l o o' hl ho hc _ h=>by rw [World.putObj_heap_other (by omega)];exact h) (Below.refl _ _) (fun _=>rfl)
      (fun pre W=>W.heap[gb256]?=some (.cells #[.bool false] 4 (0,0))∧W.heap[gb261]?=some (.cells #[.int .i64 t258,.int .i64 t259] 24 (0,0))∧W.heap[gb262]?=some (.cells #[.int .i64 (Uses.us_st pre).1] 3 (0,0))∧W.heap[gb263]?=some (.cells #[.int .i64 (Uses.us_st pre).2] 3 (0,0))∧Below w.heap.size w W∧W0.heap.size≤W.heap.size)
      (fun c pre W=>c=.ret∧∃ p x,pre=p ++ [x]∧¬ Uses.us_good (Uses.us_st p) x)
      (fun s A B row hs hg' hr=>by
       have blk:∀ (g:Nat) (o:Obj),g < W0.heap.size → A.heap[g]?=some o → B.heap[g]?=some o:=fun g o hl h=>(hg'.block _ (Array.getElem?_eq_some_iff.1 h).1 (fun e=>by have:=(hr _ e.symm).1;omega)).trans h
       exact ⟨blk _ _ s256 hs.1,blk _ _ s261 hs.2.1,blk _ _ s262 hs.2.2.1,blk _ _ s263 hs.2.2.2.1,hs.2.2.2.2.1.grown hg' hs.2.2.2.2.1.size (fun q e=>by have:=(hr q e).1;have:=KB.size;omega),Nat.le_trans hs.2.2.2.2.2 hg'.size⟩)
      (fun _ _ _ _ _ hs _ _=>hs)
      ⟨K256,K261,K262,K263,KB,Nat.le_refl _⟩
      (fun x a' W=>∃ g5:Nat,W.heap[g5]?=some (.cells #[.int .i64 x.2.1,.int .i64 x.2.2.1,.int .i64 x.2.2.2.1,.int .i64 x.2.2.2.2.1,.int .i64 x.2.2.2.2.2.1,.int .i64 x.2.2.2.2.2.2] 30 (0,0))∧W0.heap.size≤g5∧a'={ tmps:=#[Value.int .u16 a0,Value.int .u8 a1,undef,undef,Value.pointer (some ⟨gb256,0,none⟩),Value.pointer (some ⟨gb261,0,none⟩),Value.int .i64 t260,Value.func (Fn.func 48) #[] #[Value.pointer (some ⟨gbA,0,none⟩)],Value.pointer (some ⟨gb262,0,none⟩),Value.pointer (some ⟨gb263,0,none⟩),Value.int .i64 0,Value.int .i64 (x.1:Int),Value.pointer (some ⟨g5,0,none⟩),undef,undef,undef,Value.bool true,Value.bool false,Value.tuple #[Value.agg #[Value.int .i64 t258,Value.int .i64 t259],Value.int .i64 t260],Value.int .u16 a0,Value.int .u16 (a0.tmod 1500),Value.int .i64 (wrap64 (a0.tmod 1500)),Value.int .i64 (wrap64 (wrap64 (a0.tmod 1500) + 1)),Value.int .u8 a1,Value.int .u8 (a1.tmod 49),Value.int .i64 (wrap64 (a1.tmod 49)),Value.int .i64 (wrap64 (wrap64 (a1.tmod 49) + 16)),Value.tuple #[Value.agg #[Value.int .i64 t258,Value.int .i64 t259],Value.int .i64 t260],Value.agg #[Value.int .i64 t258,Value.int .i64 t259],Value.int .i64 t260,Value.int .i64 t260,Value.bool false,Value.agg #[Value.int .i64 t258,Value.int .i64 t259],Value.func (Fn.func 48) #[] #[Value.pointer (some ⟨gbA,0,none⟩)],Value.func (Fn.func 48) #[] #[Value.pointer (some ⟨gbA,0,none⟩)],Value.bool false,Value.func (Fn.func 48) #[] #[Value.pointer (some ⟨gbA,0,none⟩)],Value.int .i64 (x.1:Int),Cap.val6 x.2,undef,undef,undef,undef,undef,undef,undef,undef,undef,undef,undef,undef,undef,undef,undef,undef,undef,undef,undef,undef,undef,undef,undef,undef,undef,undef,undef,undef,undef,undef,undef,undef,undef,undef,undef,undef,undef,undef,undef,undef,undef,undef,undef,undef,undef,undef,undef,undef,undef,undef,undef,undef,undef,undef,undef,undef,undef,undef,undef,undef,undef,undef,undef,undef,undef,undef,undef,undef,undef,undef,undef,undef,undef,undef,undef,undef,undef,undef,undef,undef,undef,undef,undef,undef,undef,undef,undef,undef,undef,undef,undef,undef,undef,undef,undef,undef,undef,undef,undef,undef,undef,undef,undef,undef,undef,undef,undef,undef,undef,undef,undef,undef,undef,undef,undef,undef,undef,undef,undef,undef,undef,undef,undef,undef,undef,undef,undef,undef,undef,undef,undef,undef,undef,undef],defers:=[] })
      (fun x a' s A B row hs hg' hr=>by
       obtain ⟨g5,h5,hge,ha⟩:=hs
       refine ⟨g5,(hg'.block _ (Array.getElem?_eq_some_iff.1 h5).1 (fun e=>?_)).trans h5,hge,ha⟩
       obtain ⟨_,o,ho,hc⟩:=hr _ e.symm
       rw [h5] at ho
       cases ho
       cases hc)
      ?assign ?body ?done ?stop
     case assign =>
      intro l pre x W K hI hK
      gi_wp2
      exact hK _ _ ((KeepsOthers.alloc W _).from _) (fun h=>zbA h _) ⟨zbA hI.1 _,zbA hI.2.1 _,zbA hI.2.2.1 _,zbA hI.2.2.2.1 _,zlA hI.2.2.2.2.1 _,by rw [World.size_alloc];have:=hI.2.2.2.2.2;omega⟩ ⟨W.heap.size,World.alloc_heap_new W _,hI.2.2.2.2.2,rfl⟩
     case body =>
      rintro l pre x a' W hl hlr ⟨h256,h261,h262,h263,hBl,hsz⟩ ⟨g5,h5,hge,rfl⟩ _
      have hc5_0:W.cell? ⟨g5,0,none⟩=some (.int .i64 x.2.1):=(blk_cell h5 0).trans rfl
      have hc5_1:W.cell? ⟨g5,1,none⟩=some (.int .i64 x.2.2.1):=(blk_cell h5 1).trans rfl
      have hc5_5:W.cell? ⟨g5,5,none⟩=some (.int .i64 x.2.2.2.2.2.2):=(blk_cell h5 5).trans rfl
      have hct:W.cell? ⟨gb262,0,none⟩=some (.int .i64 (Uses.us_st pre).1):=(blk_cell h262 0).trans rfl
      have hcn:W.cell? ⟨gb263,0,none⟩=some (.int .i64 (Uses.us_st pre).2):=(blk_cell h263 0).trans rfl
      have hcr:W.cell? ⟨gb256,0,none⟩=some (.bool false):=(blk_cell h256 0).trans rfl
      have hf1:=blk_frozen h262 0
      have hf2:=blk_frozen h263 0
      have hf3:=blk_frozen h256 0
      have n1:gb262≠gb263:=by omega
      have n2:gb263≠gb262:=by omega
      have n3:g5≠gb262:=by omega
      have n4:g5≠gb263:=by omega
      have n5:gb262≠g5:=by omega
      have n6:gb263≠g5:=by omega
      have n7:gb256≠gb262:=by omega
      have n8:gb256≠gb263:=by omega
      have n9:gb261≠gb262:=by omega
      have n10:gb261≠gb263:=by omega
      by_cases g1:(x.1:Int)=(Uses.us_st pre).2
      ·have b1:((x.1:Int) != (Uses.us_st pre).2)=false:=bne_eq_false_iff_eq.mpr g1
       by_cases g2:x.2.1=(Uses.us_st pre).1
       ·have b2:(x.2.1 != (Uses.us_st pre).1)=false:=bne_eq_false_iff_eq.mpr g2
        by_cases g3:x.2.2.1 < 16
        ·have b3:decide (x.2.2.1 < 16)=true:=decide_eq_true g3
         have G:¬ Uses.us_good (Uses.us_st pre) x:=fun h=>h.2.2.1 g3
         clear g1 g2 g3
         gi_wp2
         exact ⟨(KeepsOthers.setCell _ _ _).from _,rfl,pre,x,rfl,G⟩
        ·have b3:decide (x.2.2.1 < 16)=false:=decide_eq_false g3
         by_cases g4:x.2.2.2.2.2.2 > wrap64 ((Uses.us_st pre).1 + x.2.2.1)
         ·have b4:decide (wrap64 ((Uses.us_st pre).1 + x.2.2.1) < x.2.2.2.2.2.2)=true:=decide_eq_true g4
          have G:¬ Uses.us_good (Uses.us_st pre) x:=fun h=>h.2.2.2 g4
          clear g1 g2 g3 g4
          gi_wp2
          exact ⟨(KeepsOthers.setCell _ _ _).from _,rfl,pre,x,rfl,G⟩
         ·have b4:decide (wrap64 ((Uses.us_st pre).1 + x.2.2.1) < x.2.2.2.2.2.2)=false:=decide_eq_false g4
          clear g1 g2 g3 g4
          gi_wp2
          exact ⟨((KeepsOthers.setCell _ _ _).trans (KeepsOthers.setCell _ _ _)).from _,fun h=>blk_far (blk_far h (show gbA≠gb262 by omega) _) (show gbA≠gb263 by omega) _,blk_far (blk_far h256 n7 _) n8 _,blk_far (blk_far h261 n9 _) n10 _,by rw [Uses.us_st_snoc];exact blk_far (blk_put h262 0 _ rfl) n1 _,by rw [Uses.us_st_snoc];exact blk_put (blk_far h263 n2 _) 0 _ rfl,zlS (zlS hBl (by omega)) (by omega),Nat.le_trans hsz (Nat.le_trans (KeepsOthers.setCell W _ _).size (KeepsOthers.setCell _ _ _).size)⟩
       ·have b2:(x.2.1 != (Uses.us_st pre).1)=true:=bne_iff_ne.mpr g2
        have G:¬ Uses.us_good (Uses.us_st pre) x:=fun h=>g2 h.2.1
        clear g1 g2
        gi_wp2
        exact ⟨(KeepsOthers.setCell _ _ _).from _,rfl,pre,x,rfl,G⟩
      ·have b1:((x.1:Int) != (Uses.us_st pre).2)=true:=bne_iff_ne.mpr g1
       have G:¬ Uses.us_good (Uses.us_st pre) x:=fun h=>g1 h.1
       clear g1
       gi_wp2
       exact ⟨(KeepsOthers.setCell _ _ _).from _,rfl,pre,x,rfl,G⟩
     case done =>
      rintro D xs W hD rfl ⟨h256,h261,h262,h263,hBl,hsz⟩ hK
      rw [eN.out] at h262 h263
      have BK256:=zm h256
      have BK261:=zm h261
      have BK262:=zm h262
      have BK263:=zm h263
      have BKD:=zm hK
      have HB:=zm hBl
      have hD1:W0.heap.size≤D:=hD
      have hDw:w.heap.size≤D:=Nat.le_trans KB.size hD
      have NB256_262:=zm (show gb256≠gb262 by omega)
      have NB262_256:=zm (show gb262≠gb256 by omega)
      have NB256_263:=zm (show gb256≠gb263 by omega)
      have NB263_256:=zm (show gb263≠gb256 by omega)
      clear h256 h261 h262 h263 hBl hK hsz K256 K261 K262 K263 KA
      have hcb:W.cell? ⟨gb261,0,none⟩=some (.int .i64 t258):=(blk_cell BK261.out 0).trans rfl
      have hcj:W.cell? ⟨gb261,1,none⟩=some (.int .i64 t259):=(blk_cell BK261.out 1).trans rfl
      go_wp2_with (first|((with_reducible refine gate_dst (N:=68) rfl ?_);refine Uses.us_map_event rfl rfl ?_;intro gm hgm wm hsn hb;have GM:=zm hgm;have n0_:=zm (zbB (g:=gb256) (o:=.cells #[.bool false] 4 (0,0)) BK256.out hb);have n1_:=zm (zbB (g:=gb261) (o:=.cells #[.int .i64 t258,.int .i64 t259] 24 (0,0)) BK261.out hb);have n2_:=zm (zbB (g:=gb262) (o:=.cells #[.int .i64 t264] 3 (0,0)) BK262.out hb);have n3_:=zm (zbB (g:=gb263) (o:=.cells #[.int .i64 t265] 3 (0,0)) BK263.out hb);have n4_:=zm (zbB (g:=D) (o:=.deferred (some [])) BKD.out hb);have m0_:=zm (below_step HB.out hb);have q0_:=zm (show gb256 < gm by rw [hgm];exact blk_lt BK256.out);have q1_:=zm (show gb261 < gm by rw [hgm];exact blk_lt BK261.out);have q2_:=zm (show gb262 < gm by rw [hgm];exact blk_lt BK262.out);have q3_:=zm (show gb263 < gm by rw [hgm];exact blk_lt BK263.out);have q4_:=zm (show D < gm by rw [hgm];exact blk_lt BKD.out);clear BK256 BK261 BK262 BK263 BKD HB;have BK256:=n0_;have BK261:=n1_;have BK262:=n2_;have BK263:=n3_;have BKD:=n4_;have HB:=m0_;have HSN:=zm hsn;clear n0_ n1_ n2_ n3_ n4_ m0_ hb hsn hgm GM;have hcb:wm.cell? ⟨gb261,0,none⟩=some (.int .i64 t258):=(blk_cell BK261.out 0).trans rfl;have hcj:wm.cell? ⟨gb261,1,none⟩=some (.int .i64 t259):=(blk_cell BK261.out 1).trans rfl))
      go_loopg [71] k (fun kq v71 w'=>∃ (x13_1:List Int) (x71_1:Int),v71=.int .i64 x71_1∧Aside0 (slipwaylaw11_LayoutUses.l0 kq x13_1 x71_1 t258 t259 t264 t265=some r)∧Aside0 (kq≤k)∧Aside0 (w'.heap[gb256]?=some (.cells #[.bool false] 4 (0,0)))∧Aside0 (w'.heap[gb261]?=some (.cells #[.int .i64 t258,.int .i64 t259] 24 (0,0)))∧Aside0 (w'.heap[gb262]?=some (.cells #[.int .i64 t264] 3 (0,0)))∧Aside0 (w'.heap[gb263]?=some (.cells #[.int .i64 t265] 3 (0,0)))∧Aside0 (w'.heap[D]?=some (.deferred (some [])))∧Aside0 (Below w.heap.size w w')∧Aside0 (Uses.UsCnt w' gm x13_1))
      case atStart=>exact ⟨[],(0),rfl,H',⟨Nat.le_refl _⟩,BK256,BK261,BK262,BK263,BKD,HB,HSN⟩
      case round =>
       clear H' BK256 BK261 BK262 BK263 BKD HB HSN hcb hcj
       obtain ⟨x13_1,x71_1,rfl,HA,HK1,BK256,BK261,BK262,BK263,BKD,HB,HSN⟩:=hrel
       cases gk with
       | zero=>exact absurd HA.out (by simp [slipwaylaw11_LayoutUses.l0])
       | succ k1 =>
        have H:=HA.out
        clear HA
        simp only [slipwaylaw11_LayoutUses.l0] at H
        by_cases c31:x71_1 < t258
        ·rw [if_pos c31] at H
         have c31b0:decide (x71_1 < t258)=true:=decide_eq_true c31
         clear c31
         obtain ⟨t266,A320,H⟩:=Option.bind_eq_some_iff.mp H
         have A32:=zm A320
         clear A320
         by_cases c33:0≤t266∧t266 < 100∧x13_1.length < 100000
         ·rw [if_pos c33] at H
          have C33:=zm (show Uses.us_ok t266 from ⟨c33.1,c33.2.1⟩)
          have C34:=zm c33.2.2
          clear c33
          have H':=zm H
          clear H
          have hcz36_0:wr.cell? ⟨gb261,0,none⟩=some (.int .i64 t258):=(blk_cell BK261.out 0).trans rfl
          have hcz36_1:wr.cell? ⟨gb261,1,none⟩=some (.int .i64 t259):=(blk_cell BK261.out 1).trans rfl
          go_wp2_with (first|((with_reducible refine gate_callee (f:=26) rfl ?_);refine goesL_ (some 77) rfl rfl Try.func26 (by kernel_rfl) rfl #[.agg #[.int .i64 t258,.int .i64 t259],.int .i64 x71_1] rfl (by (try simp only [List.map_toArray,List.map_cons,List.map_nil]);first|done|rfl|(simp only [List.length_drop,List.length_take];rfl)) ?_;(with_reducible refine (layout_Kind.calls k1 t258 t259 x71_1 t266 _ A32.out).mono ?_);rintro e w37 ⟨rfl,hb⟩;refine ⟨_,rfl,?_⟩;have n0_:=zm (zbB (g:=gb256) (o:=.cells #[.bool false] 4 (0,0)) BK256.out hb);have n1_:=zm (zbB (g:=gb261) (o:=.cells #[.int .i64 t258,.int .i64 t259] 24 (0,0)) BK261.out hb);have n2_:=zm (zbB (g:=gb262) (o:=.cells #[.int .i64 t264] 3 (0,0)) BK262.out hb);have n3_:=zm (zbB (g:=gb263) (o:=.cells #[.int .i64 t265] 3 (0,0)) BK263.out hb);have n4_:=zm (zbB (g:=D) (o:=.deferred (some [])) BKD.out hb);have m0_:=zm (below_step HB.out hb);have m1_:=zm (HSN.out.below hb);clear BK256 BK261 BK262 BK263 BKD HB HSN;have BK256:=n0_;have BK261:=n1_;have BK262:=n2_;have BK263:=n3_;have BKD:=n4_;have HB:=m0_;have HSN:=m1_;clear n0_ n1_ n2_ n3_ n4_ m0_ m1_ hb)|((with_reducible refine gate_dst (N:=78) rfl ?_);refine Uses.us_look_event (k:=t266) rfl _ _ rfl rfl rfl HSN.out C33.out ?_)|(at_mapUpdate;refine Uses.us_put_event (k:=t266) rfl _ _ _ rfl rfl rfl rfl HSN.out C33.out C34.out ?_;intro wn hsn hgr;have n0_:=zm ((hgr.block gb256 (blk_lt BK256.out) (by intro hk;cases hk;exact absurd q0_.out (Nat.lt_irrefl _))).trans BK256.out);have n1_:=zm ((hgr.block gb261 (blk_lt BK261.out) (by intro hk;cases hk;exact absurd q1_.out (Nat.lt_irrefl _))).trans BK261.out);have n2_:=zm ((hgr.block gb262 (blk_lt BK262.out) (by intro hk;cases hk;exact absurd q2_.out (Nat.lt_irrefl _))).trans BK262.out);have n3_:=zm ((hgr.block gb263 (blk_lt BK263.out) (by intro hk;cases hk;exact absurd q3_.out (Nat.lt_irrefl _))).trans BK263.out);have n4_:=zm ((hgr.block D (blk_lt BKD.out) (by intro hk;cases hk;exact absurd q4_.out (Nat.lt_irrefl _))).trans BKD.out);have m0_:=zm (pw_below_grown HB.out _ HB.out.size hgr (by intro k hk;cases hk;have:=q0_.out;have:=GE256.out;omega));clear BK256 BK261 BK262 BK263 BKD HB HSN;have BK256:=n0_;have BK261:=n1_;have BK262:=n2_;have BK263:=n3_;have BKD:=n4_;have HB:=m0_;have HSN:=zm hsn;clear n0_ n1_ n2_ n3_ n4_ m0_ hgr hsn))
          go_roundg k1
          case measure=>have:=HK1.out;omega
          case rel=>exact ⟨(t266 :: x13_1),(wrap64 (x71_1 + 1)),rfl,H',⟨by have:=HK1.out;omega⟩,BK256,BK261,BK262,BK263,BKD,HB,HSN⟩
         ·rw [if_neg c33] at H
          exact absurd H (by simp)
        ·rw [if_neg c31] at H
         have c31b0:decide (x71_1 < t258)=false:=decide_eq_false c31
         clear c31
         obtain ⟨t267,A390,H⟩:=Option.bind_eq_some_iff.mp H
         obtain ⟨t268,A420,H⟩:=Option.bind_eq_some_iff.mp H
         obtain ⟨t269,A470,H⟩:=Option.bind_eq_some_iff.mp H
         obtain ⟨t270,A510,H⟩:=Option.bind_eq_some_iff.mp H
         have A39:=zm A390
         have A42:=zm A420
         have A47:=zm A470
         have A51:=zm A510
         clear A390 A420 A470 A510
         by_cases CC:t264=t258∧t265=t267∧Uses.us_cn x13_1 1=1∧Uses.us_cn x13_1 2=t268∧Uses.us_cn x13_1 3=t265∧Uses.us_cn x13_1 4=t265∧Uses.us_cn x13_1 5=wrap64 (t265 * 4)∧Uses.us_cn x13_1 6=t259∧Uses.us_cn x13_1 7=t269∧wrap64 (Uses.us_cn x13_1 7 + wrap64 (wrap64 (wrap64 (wrap64 (wrap64 (Uses.us_cn x13_1 1 + Uses.us_cn x13_1 2) + Uses.us_cn x13_1 3) + Uses.us_cn x13_1 4) + Uses.us_cn x13_1 5) + Uses.us_cn x13_1 6))=t258∧Uses.us_cn x13_1 7 > 0
         ·rw [if_pos CC] at H
          obtain ⟨c38,c40,c41,c43,c44,c44x,c45,c46,c48,c49,c50⟩:=CC
          have c38b0:(t264 == t258)=true:=beq_iff_eq.mpr c38
          have c38b1:(t264 != t258)=false:=bne_eq_false_iff_eq.mpr c38
          clear c38
          have c40b0:(t265 == t267)=true:=beq_iff_eq.mpr c40
          have c40b1:(t265 != t267)=false:=bne_eq_false_iff_eq.mpr c40
          clear c40
          have c41b0:(Uses.us_cn x13_1 1 == 1)=true:=beq_iff_eq.mpr c41
          have c41b1:(Uses.us_cn x13_1 1 != 1)=false:=bne_eq_false_iff_eq.mpr c41
          clear c41
          have c43b0:(Uses.us_cn x13_1 2 == t268)=true:=beq_iff_eq.mpr c43
          have c43b1:(Uses.us_cn x13_1 2 != t268)=false:=bne_eq_false_iff_eq.mpr c43
          clear c43
          have c44b0:(Uses.us_cn x13_1 3 == t265)=true:=beq_iff_eq.mpr c44
          have c44b1:(Uses.us_cn x13_1 3 != t265)=false:=bne_eq_false_iff_eq.mpr c44
          clear c44
          have c44xb0:(Uses.us_cn x13_1 4 == t265)=true:=beq_iff_eq.mpr c44x
          have c44xb1:(Uses.us_cn x13_1 4 != t265)=false:=bne_eq_false_iff_eq.mpr c44x
          clear c44x
          have c45b0:(Uses.us_cn x13_1 5 == (wrap64 (t265 * 4)))=true:=beq_iff_eq.mpr c45
          have c45b1:(Uses.us_cn x13_1 5 != (wrap64 (t265 * 4)))=false:=bne_eq_false_iff_eq.mpr c45
          clear c45
          have c46b0:(Uses.us_cn x13_1 6 == t259)=true:=beq_iff_eq.mpr c46
          have c46b1:(Uses.us_cn x13_1 6 != t259)=false:=bne_eq_false_iff_eq.mpr c46
          clear c46
          have c48b0:(Uses.us_cn x13_1 7 == t269)=true:=beq_iff_eq.mpr c48
          have c48b1:(Uses.us_cn x13_1 7 != t269)=false:=bne_eq_false_iff_eq.mpr c48
          clear c48
          have c49b0:((wrap64 (Uses.us_cn x13_1 7 + wrap64 (wrap64 (wrap64 (wrap64 (wrap64 (Uses.us_cn x13_1 1 + Uses.us_cn x13_1 2) + Uses.us_cn x13_1 3) + Uses.us_cn x13_1 4) + Uses.us_cn x13_1 5) + Uses.us_cn x13_1 6))) == t258)=true:=beq_iff_eq.mpr c49
          have c49b1:((wrap64 (Uses.us_cn x13_1 7 + wrap64 (wrap64 (wrap64 (wrap64 (wrap64 (Uses.us_cn x13_1 1 + Uses.us_cn x13_1 2) + Uses.us_cn x13_1 3) + Uses.us_cn x13_1 4) + Uses.us_cn x13_1 5) + Uses.us_cn x13_1 6))) != t258)=false:=bne_eq_false_iff_eq.mpr c49
          clear c49
          have c50b0:decide (0 < Uses.us_cn x13_1 7)=true:=decide_eq_true c50
          clear c50
          obtain rfl:=Option.some.inj H
          clear H
          have hcz36_0:wr.cell? ⟨gb261,0,none⟩=some (.int .i64 t258):=(blk_cell BK261.out 0).trans rfl
          have hcz36_1:wr.cell? ⟨gb261,1,none⟩=some (.int .i64 t259):=(blk_cell BK261.out 1).trans rfl
          go_wp2_with (first|((with_reducible refine gate_dst (N:=82) rfl ?_);refine Uses.us_look_event (k:=7) rfl _ _ rfl rfl rfl HSN.out ⟨by decide,by decide⟩ ?_)|((with_reducible refine gate_dst (N:=84) rfl ?_);refine Uses.us_look_event (k:=1) rfl _ _ rfl rfl rfl HSN.out ⟨by decide,by decide⟩ ?_)|((with_reducible refine gate_dst (N:=86) rfl ?_);refine Uses.us_look_event (k:=2) rfl _ _ rfl rfl rfl HSN.out ⟨by decide,by decide⟩ ?_)|((with_reducible refine gate_dst (N:=89) rfl ?_);refine Uses.us_look_event (k:=3) rfl _ _ rfl rfl rfl HSN.out ⟨by decide,by decide⟩ ?_)|((with_reducible refine gate_dst (N:=92) rfl ?_);refine Uses.us_look_event (k:=4) rfl _ _ rfl rfl rfl HSN.out ⟨by decide,by decide⟩ ?_)|((with_reducible refine gate_dst (N:=95) rfl ?_);refine Uses.us_look_event (k:=5) rfl _ _ rfl rfl rfl HSN.out ⟨by decide,by decide⟩ ?_)|((with_reducible refine gate_dst (N:=98) rfl ?_);refine Uses.us_look_event (k:=6) rfl _ _ rfl rfl rfl HSN.out ⟨by decide,by decide⟩ ?_))
          clear hcz36_0 hcz36_1
          have n0_:=zm (zbD BK256.out)
          have n1_:=zm (zbD BK261.out)
          have n2_:=zm (zbD BK262.out)
          have n3_:=zm (zbD BK263.out)
          have n4_:=zm (zlD HB.out)
          have n5_:=zm (zbD BKD.out)
          have n6_:=zm HSN.out.drew
          clear BKD HSN BK256 BK261 BK262 BK263 HB
          have BK256:=n0_
          have BK261:=n1_
          have BK262:=n2_
          have BK263:=n3_
          have HB:=n4_
          have BKD:=n5_
          have HSN:=n6_
          clear n0_ n1_ n2_ n3_ n4_ n5_ n6_
          refine Uses.us_only_normal_wp ?_
          refine start_ (n:=74) (S:=fun w'=>w'.cell? ⟨gb262,0,none⟩=some (.int .i64 t264)∧w'.cell? ⟨gb261,0,none⟩=some (.int .i64 t258)∧w'.cell? ⟨gb261,1,none⟩=some (.int .i64 t259)∧w'.cell? ⟨gb263,0,none⟩=some (.int .i64 t265)∧Uses.UsCnt w' gm x13_1) (ds:=[]) #[false,false,false,false,false,false,false,false,false,false,false,false,false,false,false,false,false,false,false,false,false,false,false,false,false,false,false,false,false,false,false,false,false,false,false,false,false,false,false,false,false,false,false,false,false,false,false,false,false,false,false,false,false,false,false,false,false,false,false,false,false,false,false,false,false,false,false,false,false,false,false,false,false,false] (by kernel_rfl) rfl rfl ⟨(blk_cell BK262.out 0).trans rfl,(blk_cell BK261.out 0).trans rfl,(blk_cell BK261.out 1).trans rfl,(blk_cell BK263.out 0).trans rfl,HSN.out⟩ (fun hHeld=>?_);refine with_tabW slipwaylaw11_LayoutUses.tab25 slipwaylaw11_LayoutUses.bits25 (fun HT_ HW_=>?_)
          generalize wr.drew=w52 at BK256 BK261 BK262 BK263 BKD HB HSN hHeld ⊢
          refine pure_ (i:=1) (N:=some 101) (v:=?_) (a':=?_) #[false,true,false,false,false,false,false,false,false,false,false,false,false,false,false,false,false,false,false,false,false,false,false,false,false,false,false,false,false,false,false,false,false,false,false,false,false,false,false,false,false,false,false,false,false,false,false,false,false,false,false,false,false,false,false,false,false,false,false,false,false,false,false,false,false,false,false,false,false,false,false,false,false,false] rfl rfl (any_of HT_.out (by kernel_rfl)) (fun _ _ _ h=>h) (Or.inl ⟨by rfl,?_⟩) ?_ ?_
          rotate_left
          ·intro w'
           go_simp
           with_reducible rfl
          rotate_left
          ·simp only [Act.put,List.setIfInBounds_toArray,List.set_cons_zero,List.set_cons_succ,i64_w,i32_w]
           rfl
          refine take_ (i:=0) (N:=some 100) (v:=?_) (a':=?_) #[true,true,false,false,false,false,false,false,false,false,false,false,false,false,false,false,false,false,false,false,false,false,false,false,false,false,false,false,false,false,false,false,false,false,false,false,false,false,false,false,false,false,false,false,false,false,false,false,false,false,false,false,false,false,false,false,false,false,false,false,false,false,false,false,false,false,false,false,false,false,false,false,false,false] rfl rfl (take_ofW HT_.out HW_.out (by kernel_rfl)) (fun _ _ _ h=>h) (Or.inl ⟨by rfl,?_⟩) hHeld ?_ ?_
          rotate_left
          ·rintro w' ⟨s0,s1,s2,s3,s4⟩
           go_simp
           with_reducible rfl
          rotate_left
          ·simp only [Act.put,List.setIfInBounds_toArray,List.set_cons_zero,List.set_cons_succ,i64_w,i32_w]
           rfl
          refine take_ (i:=2) (N:=some 102) (v:=?_) (a':=?_) #[true,true,true,false,false,false,false,false,false,false,false,false,false,false,false,false,false,false,false,false,false,false,false,false,false,false,false,false,false,false,false,false,false,false,false,false,false,false,false,false,false,false,false,false,false,false,false,false,false,false,false,false,false,false,false,false,false,false,false,false,false,false,false,false,false,false,false,false,false,false,false,false,false,false] rfl rfl (take_ofW HT_.out HW_.out (by kernel_rfl)) (fun _ _ _ h=>h) (Or.inl ⟨by rfl,?_⟩) hHeld ?_ ?_
          rotate_left
          ·rintro w' ⟨s0,s1,s2,s3,s4⟩
           go_simp
           with_reducible rfl
          rotate_left
          ·simp only [Act.put,List.setIfInBounds_toArray,List.set_cons_zero,List.set_cons_succ,i64_w,i32_w]
           rfl
          refine pure_ (i:=3) (N:=some 103) (v:=?_) (a':=?_) #[true,true,true,true,false,false,false,false,false,false,false,false,false,false,false,false,false,false,false,false,false,false,false,false,false,false,false,false,false,false,false,false,false,false,false,false,false,false,false,false,false,false,false,false,false,false,false,false,false,false,false,false,false,false,false,false,false,false,false,false,false,false,false,false,false,false,false,false,false,false,false,false,false,false] rfl rfl (any_of HT_.out (by kernel_rfl)) (fun _ _ _ h=>h) (Or.inl ⟨by rfl,?_⟩) ?_ ?_
          rotate_left
          ·intro w'
           go_simp
           with_reducible rfl
          rotate_left
          ·simp only [Act.put,List.setIfInBounds_toArray,List.set_cons_zero,List.set_cons_succ,i64_w,i32_w]
           rfl
          refine pure_ (i:=4) (N:=some 104) (v:=?_) (a':=?_) #[true,true,true,true,true,false,false,false,false,false,false,false,false,false,false,false,false,false,false,false,false,false,false,false,false,false,false,false,false,false,false,false,false,false,false,false,false,false,false,false,false,false,false,false,false,false,false,false,false,false,false,false,false,false,false,false,false,false,false,false,false,false,false,false,false,false,false,false,false,false,false,false,false,false] rfl rfl (any_of HT_.out (by kernel_rfl)) (fun _ _ _ h=>h) (Or.inl ⟨by rfl,?_⟩) ?_ ?_
          rotate_left
          ·intro w'
           go_simp
           with_reducible rfl
          rotate_left
          ·simp only [Act.put,List.setIfInBounds_toArray,List.set_cons_zero,List.set_cons_succ,i64_w,i32_w]
           rfl
          refine take_ (i:=5) (N:=some 105) (v:=?_) (a':=?_) #[true,true,true,true,true,true,false,false,false,false,false,false,false,false,false,false,false,false,false,false,false,false,false,false,false,false,false,false,false,false,false,false,false,false,false,false,false,false,false,false,false,false,false,false,false,false,false,false,false,false,false,false,false,false,false,false,false,false,false,false,false,false,false,false,false,false,false,false,false,false,false,false,false,false] rfl rfl (take_ofW HT_.out HW_.out (by kernel_rfl)) (fun _ _ _ h=>h) (Or.inl ⟨by rfl,?_⟩) hHeld ?_ ?_
          rotate_left
          ·rintro w' ⟨s0,s1,s2,s3,s4⟩
           go_simp
           with_reducible rfl
          rotate_left
          ·simp only [Act.put,List.setIfInBounds_toArray,List.set_cons_zero,List.set_cons_succ,i64_w,i32_w]
           rfl
          refine take_ (i:=6) (N:=some 106) (v:=?_) (a':=?_) #[true,true,true,true,true,true,true,false,false,false,false,false,false,false,false,false,false,false,false,false,false,false,false,false,false,false,false,false,false,false,false,false,false,false,false,false,false,false,false,false,false,false,false,false,false,false,false,false,false,false,false,false,false,false,false,false,false,false,false,false,false,false,false,false,false,false,false,false,false,false,false,false,false,false] rfl rfl (take_ofW HT_.out HW_.out (by kernel_rfl)) (fun _ _ _ h=>h) (Or.inl ⟨by rfl,?_⟩) hHeld ?_ ?_
          rotate_left
          ·rintro w' ⟨s0,s1,s2,s3,s4⟩
           go_simp
           with_reducible rfl
          rotate_left
          ·simp only [Act.put,List.setIfInBounds_toArray,List.set_cons_zero,List.set_cons_succ,i64_w,i32_w]
           rfl
          refine one_ (i:=7) (N:=some 107) #[true,true,true,true,true,true,true,true,false,false,false,false,false,false,false,false,false,false,false,false,false,false,false,false,false,false,false,false,false,false,false,false,false,false,false,false,false,false,false,false,false,false,false,false,false,false,false,false,false,false,false,false,false,false,false,false,false,false,false,false,false,false,false,false,false,false,false,false,false,false,false,false,false,false] rfl rfl (one_of HT_.out (by kernel_rfl)) (by decide) (fun K hK=>?_)
          refine goes_ Try.func17 (by kernel_rfl) rfl #[.agg #[.int .i64 t258,.int .i64 t259]] (by rfl) rfl rfl (by (try simp only [List.map_toArray,List.map_cons,List.map_nil]);first|done|rfl|(simp only [List.length_drop,List.length_take];rfl)) ?_
          with_reducible refine (layout_Groups.calls k1 t258 t259 t267 _ A39.out).mono ?_
          rintro e w53 ⟨rfl,hb⟩
          refine ⟨_,rfl,?_⟩
          have n0_:=zm (zbB (g:=gb256) (o:=.cells #[.bool false] 4 (0,0)) (by (with_reducible repeat (first|refine zbN ?_ _|refine zbD ?_|refine zbA ?_ _));exact BK256.out) hb)
          have n1_:=zm (zbB (g:=gb261) (o:=.cells #[.int .i64 t258,.int .i64 t259] 24 (0,0)) (by (with_reducible repeat (first|refine zbN ?_ _|refine zbD ?_|refine zbA ?_ _));exact BK261.out) hb)
          have n2_:=zm (zbB (g:=gb262) (o:=.cells #[.int .i64 t264] 3 (0,0)) (by (with_reducible repeat (first|refine zbN ?_ _|refine zbD ?_|refine zbA ?_ _));exact BK262.out) hb)
          have n3_:=zm (zbB (g:=gb263) (o:=.cells #[.int .i64 t265] 3 (0,0)) (by (with_reducible repeat (first|refine zbN ?_ _|refine zbD ?_|refine zbA ?_ _));exact BK263.out) hb)
          have n4_:=zm (below_step (by repeat (first|(with_reducible first|exact HB.out|apply zlA|apply zlN|apply zlD|refine zlS ?_ GE256.out|refine zlS ?_ GE261.out|refine zlS ?_ GE262.out|refine zlS ?_ GE263.out)|exact HB.out)) hb)
          have n5_:=zm (zbB (g:=D) (o:=.deferred (some [])) BKD.out hb)
          have n6_:=zm (HSN.out.below hb)
          clear BKD HSN BK256 BK261 BK262 BK263 HB
          have BK256:=n0_
          have BK261:=n1_
          have BK262:=n2_
          have BK263:=n3_
          have HB:=n4_
          have BKD:=n5_
          have HSN:=n6_
          clear n0_ n1_ n2_ n3_ n4_ n5_ n6_
          (try clear hb)
          (try clear hb2)
          (try clear hk)
          (try clear hi)
          refine hK.out _ _ ⟨(blk_cell BK262.out 0).trans rfl,(blk_cell BK261.out 0).trans rfl,(blk_cell BK261.out 1).trans rfl,(blk_cell BK263.out 0).trans rfl,HSN.out⟩ (fun hHeld=>?_)
          clear hK K
          refine norm_ (a':=?_) ?_ ?_
          rotate_left
          ·show Act.put _ (some 107) _=_
           simp only [Act.put,List.setIfInBounds_toArray,List.set_cons_zero,List.set_cons_succ,i64_w,i32_w]
           rfl
          refine pure_ (i:=8) (N:=some 108) (v:=?_) (a':=?_) #[true,true,true,true,true,true,true,true,true,false,false,false,false,false,false,false,false,false,false,false,false,false,false,false,false,false,false,false,false,false,false,false,false,false,false,false,false,false,false,false,false,false,false,false,false,false,false,false,false,false,false,false,false,false,false,false,false,false,false,false,false,false,false,false,false,false,false,false,false,false,false,false,false,false] rfl rfl (any_of HT_.out (by kernel_rfl)) (fun _ _ _ h=>h) (Or.inl ⟨by rfl,?_⟩) ?_ ?_
          rotate_left
          ·intro w'
           go_simp
           with_reducible rfl
          rotate_left
          ·simp only [Act.put,List.setIfInBounds_toArray,List.set_cons_zero,List.set_cons_succ,i64_w,i32_w]
           rfl
          refine pure_ (i:=9) (N:=some 109) (v:=?_) (a':=?_) #[true,true,true,true,true,true,true,true,true,true,false,false,false,false,false,false,false,false,false,false,false,false,false,false,false,false,false,false,false,false,false,false,false,false,false,false,false,false,false,false,false,false,false,false,false,false,false,false,false,false,false,false,false,false,false,false,false,false,false,false,false,false,false,false,false,false,false,false,false,false,false,false,false,false] rfl rfl (any_of HT_.out (by kernel_rfl)) (fun _ _ _ h=>h) (Or.inl ⟨by rfl,?_⟩) ?_ ?_
          rotate_left
          ·intro w'
           go_simp
           with_reducible rfl
          rotate_left
          ·simp only [Act.put,List.setIfInBounds_toArray,List.set_cons_zero,List.set_cons_succ,i64_w,i32_w]
           rfl
          refine pure_ (i:=10) (N:=some 110) (v:=?_) (a':=?_) #[true,true,true,true,true,true,true,true,true,true,true,false,false,false,false,false,false,false,false,false,false,false,false,false,false,false,false,false,false,false,false,false,false,false,false,false,false,false,false,false,false,false,false,false,false,false,false,false,false,false,false,false,false,false,false,false,false,false,false,false,false,false,false,false,false,false,false,false,false,false,false,false,false,false] rfl rfl (any_of HT_.out (by kernel_rfl)) (fun _ _ _ h=>h) (Or.inl ⟨by rfl,?_⟩) ?_ ?_
          rotate_left
          ·intro w'
           go_simp
           with_reducible rfl
          rotate_left
          ·simp only [Act.put,List.setIfInBounds_toArray,List.set_cons_zero,List.set_cons_succ,i64_w,i32_w]
           rfl
          refine pure_ (i:=11) (N:=some 111) (v:=?_) (a':=?_) #[true,true,true,true,true,true,true,true,true,true,true,true,false,false,false,false,false,false,false,false,false,false,false,false,false,false,false,false,false,false,false,false,false,false,false,false,false,false,false,false,false,false,false,false,false,false,false,false,false,false,false,false,false,false,false,false,false,false,false,false,false,false,false,false,false,false,false,false,false,false,false,false,false,false] rfl rfl (any_of HT_.out (by kernel_rfl)) (fun _ _ _ h=>h) (Or.inl ⟨by rfl,?_⟩) ?_ ?_
          rotate_left
          ·intro w'
           go_simp
           with_reducible rfl
          rotate_left
          ·simp only [Act.put,List.setIfInBounds_toArray,List.set_cons_zero,List.set_cons_succ,i64_w,i32_w]
           rfl
          refine take_ (i:=12) (N:=some 112) (v:=?_) (a':=?_) #[true,true,true,true,true,true,true,true,true,true,true,true,true,false,false,false,false,false,false,false,false,false,false,false,false,false,false,false,false,false,false,false,false,false,false,false,false,false,false,false,false,false,false,false,false,false,false,false,false,false,false,false,false,false,false,false,false,false,false,false,false,false,false,false,false,false,false,false,false,false,false,false,false,false] rfl rfl (take_ofW HT_.out HW_.out (by kernel_rfl)) (fun _ _ _ h=>h) (Or.inl ⟨by rfl,?_⟩) hHeld ?_ ?_
          rotate_left
          ·rintro w' ⟨s0,s1,s2,s3,s4⟩
           refine Uses.us_look_run (k:=1) ?_ ?_ ?hop ?hm ?hx s4 ⟨by decide,by decide⟩
           case hop=>rfl
           case hm=>rfl
           case hx=>rfl
          rotate_left
          ·simp only [Act.put,List.setIfInBounds_toArray,List.set_cons_zero,List.set_cons_succ,i64_w,i32_w]
           rfl
          refine pure_ (i:=13) (N:=some 113) (v:=?_) (a':=?_) #[true,true,true,true,true,true,true,true,true,true,true,true,true,true,false,false,false,false,false,false,false,false,false,false,false,false,false,false,false,false,false,false,false,false,false,false,false,false,false,false,false,false,false,false,false,false,false,false,false,false,false,false,false,false,false,false,false,false,false,false,false,false,false,false,false,false,false,false,false,false,false,false,false,false] rfl rfl (any_of HT_.out (by kernel_rfl)) (fun _ _ _ h=>h) (Or.inl ⟨by rfl,?_⟩) ?_ ?_
          rotate_left
          ·intro w'
           go_simp
           with_reducible rfl
          rotate_left
          ·simp only [Act.put,List.setIfInBounds_toArray,List.set_cons_zero,List.set_cons_succ,i64_w,i32_w]
           rfl
          refine pure_ (i:=14) (N:=some 114) (v:=?_) (a':=?_) #[true,true,true,true,true,true,true,true,true,true,true,true,true,true,true,false,false,false,false,false,false,false,false,false,false,false,false,false,false,false,false,false,false,false,false,false,false,false,false,false,false,false,false,false,false,false,false,false,false,false,false,false,false,false,false,false,false,false,false,false,false,false,false,false,false,false,false,false,false,false,false,false,false,false] rfl rfl (any_of HT_.out (by kernel_rfl)) (fun _ _ _ h=>h) (Or.inl ⟨by rfl,?_⟩) ?_ ?_
          rotate_left
          ·intro w'
           go_simp
           with_reducible rfl
          rotate_left
          ·simp only [Act.put,List.setIfInBounds_toArray,List.set_cons_zero,List.set_cons_succ,i64_w,i32_w]
           rfl
          refine pure_ (i:=15) (N:=some 115) (v:=?_) (a':=?_) #[true,true,true,true,true,true,true,true,true,true,true,true,true,true,true,true,false,false,false,false,false,false,false,false,false,false,false,false,false,false,false,false,false,false,false,false,false,false,false,false,false,false,false,false,false,false,false,false,false,false,false,false,false,false,false,false,false,false,false,false,false,false,false,false,false,false,false,false,false,false,false,false,false,false] rfl rfl (any_of HT_.out (by kernel_rfl)) (fun _ _ _ h=>h) (Or.inl ⟨by rfl,?_⟩) ?_ ?_
          rotate_left
          ·intro w'
           go_simp
           with_reducible rfl
          rotate_left
          ·simp only [Act.put,List.setIfInBounds_toArray,List.set_cons_zero,List.set_cons_succ,i64_w,i32_w]
           rfl
          refine pure_ (i:=16) (N:=some 116) (v:=?_) (a':=?_) #[true,true,true,true,true,true,true,true,true,true,true,true,true,true,true,true,true,false,false,false,false,false,false,false,false,false,false,false,false,false,false,false,false,false,false,false,false,false,false,false,false,false,false,false,false,false,false,false,false,false,false,false,false,false,false,false,false,false,false,false,false,false,false,false,false,false,false,false,false,false,false,false,false,false] rfl rfl (any_of HT_.out (by kernel_rfl)) (fun _ _ _ h=>h) (Or.inl ⟨by rfl,?_⟩) ?_ ?_
          rotate_left
          ·intro w'
           go_simp
           with_reducible rfl
          rotate_left
          ·simp only [Act.put,List.setIfInBounds_toArray,List.set_cons_zero,List.set_cons_succ,i64_w,i32_w]
           rfl
          refine take_ (i:=17) (N:=some 117) (v:=?_) (a':=?_) #[true,true,true,true,true,true,true,true,true,true,true,true,true,true,true,true,true,true,false,false,false,false,false,false,false,false,false,false,false,false,false,false,false,false,false,false,false,false,false,false,false,false,false,false,false,false,false,false,false,false,false,false,false,false,false,false,false,false,false,false,false,false,false,false,false,false,false,false,false,false,false,false,false,false] rfl rfl (take_ofW HT_.out HW_.out (by kernel_rfl)) (fun _ _ _ h=>h) (Or.inl ⟨by rfl,?_⟩) hHeld ?_ ?_
          rotate_left
          ·rintro w' ⟨s0,s1,s2,s3,s4⟩
           refine Uses.us_look_run (k:=2) ?_ ?_ ?hop ?hm ?hx s4 ⟨by decide,by decide⟩
           case hop=>rfl
           case hm=>rfl
           case hx=>rfl
          rotate_left
          ·simp only [Act.put,List.setIfInBounds_toArray,List.set_cons_zero,List.set_cons_succ,i64_w,i32_w]
           rfl
          refine take_ (i:=18) (N:=some 118) (v:=?_) (a':=?_) #[true,true,true,true,true,true,true,true,true,true,true,true,true,true,true,true,true,true,true,false,false,false,false,false,false,false,false,false,false,false,false,false,false,false,false,false,false,false,false,false,false,false,false,false,false,false,false,false,false,false,false,false,false,false,false,false,false,false,false,false,false,false,false,false,false,false,false,false,false,false,false,false,false,false] rfl rfl (take_ofW HT_.out HW_.out (by kernel_rfl)) (fun _ _ _ h=>h) (Or.inl ⟨by rfl,?_⟩) hHeld ?_ ?_
          rotate_left
          ·rintro w' ⟨s0,s1,s2,s3,s4⟩
           go_simp
           with_reducible rfl
          rotate_left
          ·simp only [Act.put,List.setIfInBounds_toArray,List.set_cons_zero,List.set_cons_succ,i64_w,i32_w]
           rfl
          refine one_ (i:=19) (N:=some 119) #[true,true,true,true,true,true,true,true,true,true,true,true,true,true,true,true,true,true,true,true,false,false,false,false,false,false,false,false,false,false,false,false,false,false,false,false,false,false,false,false,false,false,false,false,false,false,false,false,false,false,false,false,false,false,false,false,false,false,false,false,false,false,false,false,false,false,false,false,false,false,false,false,false,false] rfl rfl (one_of HT_.out (by kernel_rfl)) (by decide) (fun K hK=>?_)
          refine goes_ Try.func19 (by kernel_rfl) rfl #[.agg #[.int .i64 t258,.int .i64 t259]] (by rfl) rfl rfl (by (try simp only [List.map_toArray,List.map_cons,List.map_nil]);first|done|rfl|(simp only [List.length_drop,List.length_take];rfl)) ?_
          with_reducible refine (layout_Descs.calls k1 t258 t259 t268 _ A42.out).mono ?_
          rintro e w54 ⟨rfl,hb⟩
          refine ⟨_,rfl,?_⟩
          have n0_:=zm (zbB (g:=gb256) (o:=.cells #[.bool false] 4 (0,0)) (by (with_reducible repeat (first|refine zbN ?_ _|refine zbD ?_|refine zbA ?_ _));exact BK256.out) hb)
          have n1_:=zm (zbB (g:=gb261) (o:=.cells #[.int .i64 t258,.int .i64 t259] 24 (0,0)) (by (with_reducible repeat (first|refine zbN ?_ _|refine zbD ?_|refine zbA ?_ _));exact BK261.out) hb)
          have n2_:=zm (zbB (g:=gb262) (o:=.cells #[.int .i64 t264] 3 (0,0)) (by (with_reducible repeat (first|refine zbN ?_ _|refine zbD ?_|refine zbA ?_ _));exact BK262.out) hb)
          have n3_:=zm (zbB (g:=gb263) (o:=.cells #[.int .i64 t265] 3 (0,0)) (by (with_reducible repeat (first|refine zbN ?_ _|refine zbD ?_|refine zbA ?_ _));exact BK263.out) hb)
          have n4_:=zm (below_step (by repeat (first|(with_reducible first|exact HB.out|apply zlA|apply zlN|apply zlD|refine zlS ?_ GE256.out|refine zlS ?_ GE261.out|refine zlS ?_ GE262.out|refine zlS ?_ GE263.out)|exact HB.out)) hb)
          have n5_:=zm (zbB (g:=D) (o:=.deferred (some [])) BKD.out hb)
          have n6_:=zm (HSN.out.below hb)
          clear BKD HSN BK256 BK261 BK262 BK263 HB
          have BK256:=n0_
          have BK261:=n1_
          have BK262:=n2_
          have BK263:=n3_
          have HB:=n4_
          have BKD:=n5_
          have HSN:=n6_
          clear n0_ n1_ n2_ n3_ n4_ n5_ n6_
          (try clear hb)
          (try clear hb2)
          (try clear hk)
          (try clear hi)
          refine hK.out _ _ ⟨(blk_cell BK262.out 0).trans rfl,(blk_cell BK261.out 0).trans rfl,(blk_cell BK261.out 1).trans rfl,(blk_cell BK263.out 0).trans rfl,HSN.out⟩ (fun hHeld=>?_)
          clear hK K
          refine norm_ (a':=?_) ?_ ?_
          rotate_left
          ·show Act.put _ (some 119) _=_
           simp only [Act.put,List.setIfInBounds_toArray,List.set_cons_zero,List.set_cons_succ,i64_w,i32_w]
           rfl
          refine pure_ (i:=20) (N:=some 120) (v:=?_) (a':=?_) #[true,true,true,true,true,true,true,true,true,true,true,true,true,true,true,true,true,true,true,true,true,false,false,false,false,false,false,false,false,false,false,false,false,false,false,false,false,false,false,false,false,false,false,false,false,false,false,false,false,false,false,false,false,false,false,false,false,false,false,false,false,false,false,false,false,false,false,false,false,false,false,false,false,false] rfl rfl (any_of HT_.out (by kernel_rfl)) (fun _ _ _ h=>h) (Or.inl ⟨by rfl,?_⟩) ?_ ?_
          rotate_left
          ·intro w'
           go_simp
           with_reducible rfl
          rotate_left
          ·simp only [Act.put,List.setIfInBounds_toArray,List.set_cons_zero,List.set_cons_succ,i64_w,i32_w]
           rfl
          refine pure_ (i:=21) (N:=some 121) (v:=?_) (a':=?_) #[true,true,true,true,true,true,true,true,true,true,true,true,true,true,true,true,true,true,true,true,true,true,false,false,false,false,false,false,false,false,false,false,false,false,false,false,false,false,false,false,false,false,false,false,false,false,false,false,false,false,false,false,false,false,false,false,false,false,false,false,false,false,false,false,false,false,false,false,false,false,false,false,false,false] rfl rfl (any_of HT_.out (by kernel_rfl)) (fun _ _ _ h=>h) (Or.inl ⟨by rfl,?_⟩) ?_ ?_
          rotate_left
          ·intro w'
           go_simp
           with_reducible rfl
          rotate_left
          ·simp only [Act.put,List.setIfInBounds_toArray,List.set_cons_zero,List.set_cons_succ,i64_w,i32_w]
           rfl
          refine pure_ (i:=22) (N:=some 122) (v:=?_) (a':=?_) #[true,true,true,true,true,true,true,true,true,true,true,true,true,true,true,true,true,true,true,true,true,true,true,false,false,false,false,false,false,false,false,false,false,false,false,false,false,false,false,false,false,false,false,false,false,false,false,false,false,false,false,false,false,false,false,false,false,false,false,false,false,false,false,false,false,false,false,false,false,false,false,false,false,false] rfl rfl (any_of HT_.out (by kernel_rfl)) (fun _ _ _ h=>h) (Or.inl ⟨by rfl,?_⟩) ?_ ?_
          rotate_left
          ·intro w'
           go_simp
           with_reducible rfl
          rotate_left
          ·simp only [Act.put,List.setIfInBounds_toArray,List.set_cons_zero,List.set_cons_succ,i64_w,i32_w]
           rfl
          refine pure_ (i:=23) (N:=some 123) (v:=?_) (a':=?_) #[true,true,true,true,true,true,true,true,true,true,true,true,true,true,true,true,true,true,true,true,true,true,true,true,false,false,false,false,false,false,false,false,false,false,false,false,false,false,false,false,false,false,false,false,false,false,false,false,false,false,false,false,false,false,false,false,false,false,false,false,false,false,false,false,false,false,false,false,false,false,false,false,false,false] rfl rfl (any_of HT_.out (by kernel_rfl)) (fun _ _ _ h=>h) (Or.inl ⟨by rfl,?_⟩) ?_ ?_
          rotate_left
          ·intro w'
           go_simp
           with_reducible rfl
          rotate_left
          ·simp only [Act.put,List.setIfInBounds_toArray,List.set_cons_zero,List.set_cons_succ,i64_w,i32_w]
           rfl
          refine take_ (i:=24) (N:=some 124) (v:=?_) (a':=?_) #[true,true,true,true,true,true,true,true,true,true,true,true,true,true,true,true,true,true,true,true,true,true,true,true,true,false,false,false,false,false,false,false,false,false,false,false,false,false,false,false,false,false,false,false,false,false,false,false,false,false,false,false,false,false,false,false,false,false,false,false,false,false,false,false,false,false,false,false,false,false,false,false,false,false] rfl rfl (take_ofW HT_.out HW_.out (by kernel_rfl)) (fun _ _ _ h=>h) (Or.inl ⟨by rfl,?_⟩) hHeld ?_ ?_
          rotate_left
          ·rintro w' ⟨s0,s1,s2,s3,s4⟩
           refine Uses.us_look_run (k:=3) ?_ ?_ ?hop ?hm ?hx s4 ⟨by decide,by decide⟩
           case hop=>rfl
           case hm=>rfl
           case hx=>rfl
          rotate_left
          ·simp only [Act.put,List.setIfInBounds_toArray,List.set_cons_zero,List.set_cons_succ,i64_w,i32_w]
           rfl
          refine take_ (i:=25) (N:=some 125) (v:=?_) (a':=?_) #[true,true,true,true,true,true,true,true,true,true,true,true,true,true,true,true,true,true,true,true,true,true,true,true,true,true,false,false,false,false,false,false,false,false,false,false,false,false,false,false,false,false,false,false,false,false,false,false,false,false,false,false,false,false,false,false,false,false,false,false,false,false,false,false,false,false,false,false,false,false,false,false,false,false] rfl rfl (take_ofW HT_.out HW_.out (by kernel_rfl)) (fun _ _ _ h=>h) (Or.inl ⟨by rfl,?_⟩) hHeld ?_ ?_
          rotate_left
          ·rintro w' ⟨s0,s1,s2,s3,s4⟩
           go_simp
           with_reducible rfl
          rotate_left
          ·simp only [Act.put,List.setIfInBounds_toArray,List.set_cons_zero,List.set_cons_succ,i64_w,i32_w]
           rfl
          refine pure_ (i:=26) (N:=some 126) (v:=?_) (a':=?_) #[true,true,true,true,true,true,true,true,true,true,true,true,true,true,true,true,true,true,true,true,true,true,true,true,true,true,true,false,false,false,false,false,false,false,false,false,false,false,false,false,false,false,false,false,false,false,false,false,false,false,false,false,false,false,false,false,false,false,false,false,false,false,false,false,false,false,false,false,false,false,false,false,false,false] rfl rfl (any_of HT_.out (by kernel_rfl)) (fun _ _ _ h=>h) (Or.inl ⟨by rfl,?_⟩) ?_ ?_
          rotate_left
          ·intro w'
           go_simp
           with_reducible rfl
          rotate_left
          ·simp only [Act.put,List.setIfInBounds_toArray,List.set_cons_zero,List.set_cons_succ,i64_w,i32_w]
           rfl
          refine pure_ (i:=27) (N:=some 127) (v:=?_) (a':=?_) #[true,true,true,true,true,true,true,true,true,true,true,true,true,true,true,true,true,true,true,true,true,true,true,true,true,true,true,true,false,false,false,false,false,false,false,false,false,false,false,false,false,false,false,false,false,false,false,false,false,false,false,false,false,false,false,false,false,false,false,false,false,false,false,false,false,false,false,false,false,false,false,false,false,false] rfl rfl (any_of HT_.out (by kernel_rfl)) (fun _ _ _ h=>h) (Or.inl ⟨by rfl,?_⟩) ?_ ?_
          rotate_left
          ·intro w'
           go_simp
           with_reducible rfl
          rotate_left
          ·simp only [Act.put,List.setIfInBounds_toArray,List.set_cons_zero,List.set_cons_succ,i64_w,i32_w]
           rfl
          refine pure_ (i:=28) (N:=some 128) (v:=?_) (a':=?_) #[true,true,true,true,true,true,true,true,true,true,true,true,true,true,true,true,true,true,true,true,true,true,true,true,true,true,true,true,true,false,false,false,false,false,false,false,false,false,false,false,false,false,false,false,false,false,false,false,false,false,false,false,false,false,false,false,false,false,false,false,false,false,false,false,false,false,false,false,false,false,false,false,false,false] rfl rfl (any_of HT_.out (by kernel_rfl)) (fun _ _ _ h=>h) (Or.inl ⟨by rfl,?_⟩) ?_ ?_
          rotate_left
          ·intro w'
           go_simp
           with_reducible rfl
          rotate_left
          ·simp only [Act.put,List.setIfInBounds_toArray,List.set_cons_zero,List.set_cons_succ,i64_w,i32_w]
           rfl
          refine pure_ (i:=29) (N:=some 129) (v:=?_) (a':=?_) #[true,true,true,true,true,true,true,true,true,true,true,true,true,true,true,true,true,true,true,true,true,true,true,true,true,true,true,true,true,true,false,false,false,false,false,false,false,false,false,false,false,false,false,false,false,false,false,false,false,false,false,false,false,false,false,false,false,false,false,false,false,false,false,false,false,false,false,false,false,false,false,false,false,false] rfl rfl (any_of HT_.out (by kernel_rfl)) (fun _ _ _ h=>h) (Or.inl ⟨by rfl,?_⟩) ?_ ?_
          rotate_left
          ·intro w'
           go_simp
           with_reducible rfl
          rotate_left
          ·simp only [Act.put,List.setIfInBounds_toArray,List.set_cons_zero,List.set_cons_succ,i64_w,i32_w]
           rfl
          refine take_ (i:=30) (N:=some 130) (v:=?_) (a':=?_) #[true,true,true,true,true,true,true,true,true,true,true,true,true,true,true,true,true,true,true,true,true,true,true,true,true,true,true,true,true,true,true,false,false,false,false,false,false,false,false,false,false,false,false,false,false,false,false,false,false,false,false,false,false,false,false,false,false,false,false,false,false,false,false,false,false,false,false,false,false,false,false,false,false,false] rfl rfl (take_ofW HT_.out HW_.out (by kernel_rfl)) (fun _ _ _ h=>h) (Or.inl ⟨by rfl,?_⟩) hHeld ?_ ?_
          rotate_left
          ·rintro w' ⟨s0,s1,s2,s3,s4⟩
           refine Uses.us_look_run (k:=4) ?_ ?_ ?hop ?hm ?hx s4 ⟨by decide,by decide⟩
           case hop=>rfl
           case hm=>rfl
           case hx=>rfl
          rotate_left
          ·simp only [Act.put,List.setIfInBounds_toArray,List.set_cons_zero,List.set_cons_succ,i64_w,i32_w]
           rfl
          refine take_ (i:=31) (N:=some 131) (v:=?_) (a':=?_) #[true,true,true,true,true,true,true,true,true,true,true,true,true,true,true,true,true,true,true,true,true,true,true,true,true,true,true,true,true,true,true,true,false,false,false,false,false,false,false,false,false,false,false,false,false,false,false,false,false,false,false,false,false,false,false,false,false,false,false,false,false,false,false,false,false,false,false,false,false,false,false,false,false,false] rfl rfl (take_ofW HT_.out HW_.out (by kernel_rfl)) (fun _ _ _ h=>h) (Or.inl ⟨by rfl,?_⟩) hHeld ?_ ?_
          rotate_left
          ·rintro w' ⟨s0,s1,s2,s3,s4⟩
           go_simp
           with_reducible rfl
          rotate_left
          ·simp only [Act.put,List.setIfInBounds_toArray,List.set_cons_zero,List.set_cons_succ,i64_w,i32_w]
           rfl
          refine pure_ (i:=32) (N:=some 132) (v:=?_) (a':=?_) #[true,true,true,true,true,true,true,true,true,true,true,true,true,true,true,true,true,true,true,true,true,true,true,true,true,true,true,true,true,true,true,true,true,false,false,false,false,false,false,false,false,false,false,false,false,false,false,false,false,false,false,false,false,false,false,false,false,false,false,false,false,false,false,false,false,false,false,false,false,false,false,false,false,false] rfl rfl (any_of HT_.out (by kernel_rfl)) (fun _ _ _ h=>h) (Or.inl ⟨by rfl,?_⟩) ?_ ?_
          rotate_left
          ·intro w'
           go_simp
           with_reducible rfl
          rotate_left
          ·simp only [Act.put,List.setIfInBounds_toArray,List.set_cons_zero,List.set_cons_succ,i64_w,i32_w]
           rfl
          refine pure_ (i:=33) (N:=some 133) (v:=?_) (a':=?_) #[true,true,true,true,true,true,true,true,true,true,true,true,true,true,true,true,true,true,true,true,true,true,true,true,true,true,true,true,true,true,true,true,true,true,false,false,false,false,false,false,false,false,false,false,false,false,false,false,false,false,false,false,false,false,false,false,false,false,false,false,false,false,false,false,false,false,false,false,false,false,false,false,false,false] rfl rfl (any_of HT_.out (by kernel_rfl)) (fun _ _ _ h=>h) (Or.inl ⟨by rfl,?_⟩) ?_ ?_
          rotate_left
          ·intro w'
           go_simp
           with_reducible rfl
          rotate_left
          ·simp only [Act.put,List.setIfInBounds_toArray,List.set_cons_zero,List.set_cons_succ,i64_w,i32_w]
           rfl
          refine pure_ (i:=34) (N:=some 134) (v:=?_) (a':=?_) #[true,true,true,true,true,true,true,true,true,true,true,true,true,true,true,true,true,true,true,true,true,true,true,true,true,true,true,true,true,true,true,true,true,true,true,false,false,false,false,false,false,false,false,false,false,false,false,false,false,false,false,false,false,false,false,false,false,false,false,false,false,false,false,false,false,false,false,false,false,false,false,false,false,false] rfl rfl (any_of HT_.out (by kernel_rfl)) (fun _ _ _ h=>h) (Or.inl ⟨by rfl,?_⟩) ?_ ?_
          rotate_left
          ·intro w'
           go_simp
           with_reducible rfl
          rotate_left
          ·simp only [Act.put,List.setIfInBounds_toArray,List.set_cons_zero,List.set_cons_succ,i64_w,i32_w]
           rfl
          refine pure_ (i:=35) (N:=some 135) (v:=?_) (a':=?_) #[true,true,true,true,true,true,true,true,true,true,true,true,true,true,true,true,true,true,true,true,true,true,true,true,true,true,true,true,true,true,true,true,true,true,true,true,false,false,false,false,false,false,false,false,false,false,false,false,false,false,false,false,false,false,false,false,false,false,false,false,false,false,false,false,false,false,false,false,false,false,false,false,false,false] rfl rfl (any_of HT_.out (by kernel_rfl)) (fun _ _ _ h=>h) (Or.inl ⟨by rfl,?_⟩) ?_ ?_
          rotate_left
          ·intro w'
           go_simp
           with_reducible rfl
          rotate_left
          ·simp only [Act.put,List.setIfInBounds_toArray,List.set_cons_zero,List.set_cons_succ,i64_w,i32_w]
           rfl
          refine take_ (i:=36) (N:=some 136) (v:=?_) (a':=?_) #[true,true,true,true,true,true,true,true,true,true,true,true,true,true,true,true,true,true,true,true,true,true,true,true,true,true,true,true,true,true,true,true,true,true,true,true,true,false,false,false,false,false,false,false,false,false,false,false,false,false,false,false,false,false,false,false,false,false,false,false,false,false,false,false,false,false,false,false,false,false,false,false,false,false] rfl rfl (take_ofW HT_.out HW_.out (by kernel_rfl)) (fun _ _ _ h=>h) (Or.inl ⟨by rfl,?_⟩) hHeld ?_ ?_
          rotate_left
          ·rintro w' ⟨s0,s1,s2,s3,s4⟩
           refine Uses.us_look_run (k:=5) ?_ ?_ ?hop ?hm ?hx s4 ⟨by decide,by decide⟩
           case hop=>rfl
           case hm=>rfl
           case hx=>rfl
          rotate_left
          ·simp only [Act.put,List.setIfInBounds_toArray,List.set_cons_zero,List.set_cons_succ,i64_w,i32_w]
           rfl
          refine take_ (i:=37) (N:=some 137) (v:=?_) (a':=?_) #[true,true,true,true,true,true,true,true,true,true,true,true,true,true,true,true,true,true,true,true,true,true,true,true,true,true,true,true,true,true,true,true,true,true,true,true,true,true,false,false,false,false,false,false,false,false,false,false,false,false,false,false,false,false,false,false,false,false,false,false,false,false,false,false,false,false,false,false,false,false,false,false,false,false] rfl rfl (take_ofW HT_.out HW_.out (by kernel_rfl)) (fun _ _ _ h=>h) (Or.inl ⟨by rfl,?_⟩) hHeld ?_ ?_
          rotate_left
          ·rintro w' ⟨s0,s1,s2,s3,s4⟩
           go_simp
           with_reducible rfl
          rotate_left
          ·simp only [Act.put,List.setIfInBounds_toArray,List.set_cons_zero,List.set_cons_succ,i64_w,i32_w]
           rfl
          refine pure_ (i:=38) (N:=some 138) (v:=?_) (a':=?_) #[true,true,true,true,true,true,true,true,true,true,true,true,true,true,true,true,true,true,true,true,true,true,true,true,true,true,true,true,true,true,true,true,true,true,true,true,true,true,true,false,false,false,false,false,false,false,false,false,false,false,false,false,false,false,false,false,false,false,false,false,false,false,false,false,false,false,false,false,false,false,false,false,false,false] rfl rfl (any_of HT_.out (by kernel_rfl)) (fun _ _ _ h=>h) (Or.inl ⟨by rfl,?_⟩) ?_ ?_
          rotate_left
          ·intro w'
           go_simp
           with_reducible rfl
          rotate_left
          ·simp only [Act.put,List.setIfInBounds_toArray,List.set_cons_zero,List.set_cons_succ,i64_w,i32_w]
           rfl
          refine pure_ (i:=39) (N:=some 139) (v:=?_) (a':=?_) #[true,true,true,true,true,true,true,true,true,true,true,true,true,true,true,true,true,true,true,true,true,true,true,true,true,true,true,true,true,true,true,true,true,true,true,true,true,true,true,true,false,false,false,false,false,false,false,false,false,false,false,false,false,false,false,false,false,false,false,false,false,false,false,false,false,false,false,false,false,false,false,false,false,false] rfl rfl (any_of HT_.out (by kernel_rfl)) (fun _ _ _ h=>h) (Or.inl ⟨by rfl,?_⟩) ?_ ?_
          rotate_left
          ·intro w'
           go_simp
           with_reducible rfl
          rotate_left
          ·simp only [Act.put,List.setIfInBounds_toArray,List.set_cons_zero,List.set_cons_succ,i64_w,i32_w]
           rfl
          refine pure_ (i:=40) (N:=some 140) (v:=?_) (a':=?_) #[true,true,true,true,true,true,true,true,true,true,true,true,true,true,true,true,true,true,true,true,true,true,true,true,true,true,true,true,true,true,true,true,true,true,true,true,true,true,true,true,true,false,false,false,false,false,false,false,false,false,false,false,false,false,false,false,false,false,false,false,false,false,false,false,false,false,false,false,false,false,false,false,false,false] rfl rfl (any_of HT_.out (by kernel_rfl)) (fun _ _ _ h=>h) (Or.inl ⟨by rfl,?_⟩) ?_ ?_
          rotate_left
          ·intro w'
           go_simp
           with_reducible rfl
          rotate_left
          ·simp only [Act.put,List.setIfInBounds_toArray,List.set_cons_zero,List.set_cons_succ,i64_w,i32_w]
           rfl
          refine pure_ (i:=41) (N:=some 141) (v:=?_) (a':=?_) #[true,true,true,true,true,true,true,true,true,true,true,true,true,true,true,true,true,true,true,true,true,true,true,true,true,true,true,true,true,true,true,true,true,true,true,true,true,true,true,true,true,true,false,false,false,false,false,false,false,false,false,false,false,false,false,false,false,false,false,false,false,false,false,false,false,false,false,false,false,false,false,false,false,false] rfl rfl (any_of HT_.out (by kernel_rfl)) (fun _ _ _ h=>h) (Or.inl ⟨by rfl,?_⟩) ?_ ?_
          rotate_left
          ·intro w'
           go_simp
           with_reducible rfl
          rotate_left
          ·simp only [Act.put,List.setIfInBounds_toArray,List.set_cons_zero,List.set_cons_succ,i64_w,i32_w]
           rfl
          refine pure_ (i:=42) (N:=some 142) (v:=?_) (a':=?_) #[true,true,true,true,true,true,true,true,true,true,true,true,true,true,true,true,true,true,true,true,true,true,true,true,true,true,true,true,true,true,true,true,true,true,true,true,true,true,true,true,true,true,true,false,false,false,false,false,false,false,false,false,false,false,false,false,false,false,false,false,false,false,false,false,false,false,false,false,false,false,false,false,false,false] rfl rfl (any_of HT_.out (by kernel_rfl)) (fun _ _ _ h=>h) (Or.inl ⟨by rfl,?_⟩) ?_ ?_
          rotate_left
          ·intro w'
           go_simp
           with_reducible rfl
          rotate_left
          ·simp only [Act.put,List.setIfInBounds_toArray,List.set_cons_zero,List.set_cons_succ,i64_w,i32_w]
           rfl
          refine pure_ (i:=44) (N:=some 144) (v:=?_) (a':=?_) #[true,true,true,true,true,true,true,true,true,true,true,true,true,true,true,true,true,true,true,true,true,true,true,true,true,true,true,true,true,true,true,true,true,true,true,true,true,true,true,true,true,true,true,false,true,false,false,false,false,false,false,false,false,false,false,false,false,false,false,false,false,false,false,false,false,false,false,false,false,false,false,false,false,false] rfl rfl (any_of HT_.out (by kernel_rfl)) (fun _ _ _ h=>h) (Or.inl ⟨by rfl,?_⟩) ?_ ?_
          rotate_left
          ·intro w'
           go_simp
           with_reducible rfl
          rotate_left
          ·simp only [Act.put,List.setIfInBounds_toArray,List.set_cons_zero,List.set_cons_succ,i64_w,i32_w]
           rfl
          refine take_ (i:=43) (N:=some 143) (v:=?_) (a':=?_) #[true,true,true,true,true,true,true,true,true,true,true,true,true,true,true,true,true,true,true,true,true,true,true,true,true,true,true,true,true,true,true,true,true,true,true,true,true,true,true,true,true,true,true,true,true,false,false,false,false,false,false,false,false,false,false,false,false,false,false,false,false,false,false,false,false,false,false,false,false,false,false,false,false,false] rfl rfl (take_ofW HT_.out HW_.out (by kernel_rfl)) (fun _ _ _ h=>h) (Or.inl ⟨by rfl,?_⟩) hHeld ?_ ?_
          rotate_left
          ·rintro w' ⟨s0,s1,s2,s3,s4⟩
           refine Uses.us_look_run (k:=6) ?_ ?_ ?hop ?hm ?hx s4 ⟨by decide,by decide⟩
           case hop=>rfl
           case hm=>rfl
           case hx=>rfl
          rotate_left
          ·simp only [Act.put,List.setIfInBounds_toArray,List.set_cons_zero,List.set_cons_succ,i64_w,i32_w]
           rfl
          refine take_ (i:=45) (N:=some 145) (v:=?_) (a':=?_) #[true,true,true,true,true,true,true,true,true,true,true,true,true,true,true,true,true,true,true,true,true,true,true,true,true,true,true,true,true,true,true,true,true,true,true,true,true,true,true,true,true,true,true,true,true,true,false,false,false,false,false,false,false,false,false,false,false,false,false,false,false,false,false,false,false,false,false,false,false,false,false,false,false,false] rfl rfl (take_ofW HT_.out HW_.out (by kernel_rfl)) (fun _ _ _ h=>h) (Or.inl ⟨by rfl,?_⟩) hHeld ?_ ?_
          rotate_left
          ·rintro w' ⟨s0,s1,s2,s3,s4⟩
           go_simp
           with_reducible rfl
          rotate_left
          ·simp only [Act.put,List.setIfInBounds_toArray,List.set_cons_zero,List.set_cons_succ,i64_w,i32_w]
           rfl
          refine pure_ (i:=46) (N:=some 146) (v:=?_) (a':=?_) #[true,true,true,true,true,true,true,true,true,true,true,true,true,true,true,true,true,true,true,true,true,true,true,true,true,true,true,true,true,true,true,true,true,true,true,true,true,true,true,true,true,true,true,true,true,true,true,false,false,false,false,false,false,false,false,false,false,false,false,false,false,false,false,false,false,false,false,false,false,false,false,false,false,false] rfl rfl (any_of HT_.out (by kernel_rfl)) (fun _ _ _ h=>h) (Or.inl ⟨by rfl,?_⟩) ?_ ?_
          rotate_left
          ·intro w'
           go_simp
           with_reducible rfl
          rotate_left
          ·simp only [Act.put,List.setIfInBounds_toArray,List.set_cons_zero,List.set_cons_succ,i64_w,i32_w]
           rfl
          refine pure_ (i:=47) (N:=some 147) (v:=?_) (a':=?_) #[true,true,true,true,true,true,true,true,true,true,true,true,true,true,true,true,true,true,true,true,true,true,true,true,true,true,true,true,true,true,true,true,true,true,true,true,true,true,true,true,true,true,true,true,true,true,true,true,false,false,false,false,false,false,false,false,false,false,false,false,false,false,false,false,false,false,false,false,false,false,false,false,false,false] rfl rfl (any_of HT_.out (by kernel_rfl)) (fun _ _ _ h=>h) (Or.inl ⟨by rfl,?_⟩) ?_ ?_
          rotate_left
          ·intro w'
           go_simp
           with_reducible rfl
          rotate_left
          ·simp only [Act.put,List.setIfInBounds_toArray,List.set_cons_zero,List.set_cons_succ,i64_w,i32_w]
           rfl
          refine pure_ (i:=48) (N:=some 148) (v:=?_) (a':=?_) #[true,true,true,true,true,true,true,true,true,true,true,true,true,true,true,true,true,true,true,true,true,true,true,true,true,true,true,true,true,true,true,true,true,true,true,true,true,true,true,true,true,true,true,true,true,true,true,true,true,false,false,false,false,false,false,false,false,false,false,false,false,false,false,false,false,false,false,false,false,false,false,false,false,false] rfl rfl (any_of HT_.out (by kernel_rfl)) (fun _ _ _ h=>h) (Or.inl ⟨by rfl,?_⟩) ?_ ?_
          rotate_left
          ·intro w'
           go_simp
           with_reducible rfl
          rotate_left
          ·simp only [Act.put,List.setIfInBounds_toArray,List.set_cons_zero,List.set_cons_succ,i64_w,i32_w]
           rfl
          refine pure_ (i:=49) (N:=some 149) (v:=?_) (a':=?_) #[true,true,true,true,true,true,true,true,true,true,true,true,true,true,true,true,true,true,true,true,true,true,true,true,true,true,true,true,true,true,true,true,true,true,true,true,true,true,true,true,true,true,true,true,true,true,true,true,true,true,false,false,false,false,false,false,false,false,false,false,false,false,false,false,false,false,false,false,false,false,false,false,false,false] rfl rfl (any_of HT_.out (by kernel_rfl)) (fun _ _ _ h=>h) (Or.inl ⟨by rfl,?_⟩) ?_ ?_
          rotate_left
          ·intro w'
           go_simp
           with_reducible rfl
          rotate_left
          ·simp only [Act.put,List.setIfInBounds_toArray,List.set_cons_zero,List.set_cons_succ,i64_w,i32_w]
           rfl
          refine take_ (i:=50) (N:=some 150) (v:=?_) (a':=?_) #[true,true,true,true,true,true,true,true,true,true,true,true,true,true,true,true,true,true,true,true,true,true,true,true,true,true,true,true,true,true,true,true,true,true,true,true,true,true,true,true,true,true,true,true,true,true,true,true,true,true,true,false,false,false,false,false,false,false,false,false,false,false,false,false,false,false,false,false,false,false,false,false,false,false] rfl rfl (take_ofW HT_.out HW_.out (by kernel_rfl)) (fun _ _ _ h=>h) (Or.inl ⟨by rfl,?_⟩) hHeld ?_ ?_
          rotate_left
          ·rintro w' ⟨s0,s1,s2,s3,s4⟩
           go_simp
           with_reducible rfl
          rotate_left
          ·simp only [Act.put,List.setIfInBounds_toArray,List.set_cons_zero,List.set_cons_succ,i64_w,i32_w]
           rfl
          refine one_ (i:=51) (N:=some 151) #[true,true,true,true,true,true,true,true,true,true,true,true,true,true,true,true,true,true,true,true,true,true,true,true,true,true,true,true,true,true,true,true,true,true,true,true,true,true,true,true,true,true,true,true,true,true,true,true,true,true,true,true,false,false,false,false,false,false,false,false,false,false,false,false,false,false,false,false,false,false,false,false,false,false] rfl rfl (one_of HT_.out (by kernel_rfl)) (by decide) (fun K hK=>?_)
          refine goes_ Try.func28 (by kernel_rfl) rfl #[.agg #[.int .i64 t258,.int .i64 t259]] (by rfl) rfl rfl (by (try simp only [List.map_toArray,List.map_cons,List.map_nil]);first|done|rfl|(simp only [List.length_drop,List.length_take];rfl)) ?_
          with_reducible refine (layout_Capacity.calls k1 t258 t259 t269 _ A47.out).mono ?_
          rintro e w55 ⟨rfl,hb⟩
          refine ⟨_,rfl,?_⟩
          have n0_:=zm (zbB (g:=gb256) (o:=.cells #[.bool false] 4 (0,0)) (by (with_reducible repeat (first|refine zbN ?_ _|refine zbD ?_|refine zbA ?_ _));exact BK256.out) hb)
          have n1_:=zm (zbB (g:=gb261) (o:=.cells #[.int .i64 t258,.int .i64 t259] 24 (0,0)) (by (with_reducible repeat (first|refine zbN ?_ _|refine zbD ?_|refine zbA ?_ _));exact BK261.out) hb)
          have n2_:=zm (zbB (g:=gb262) (o:=.cells #[.int .i64 t264] 3 (0,0)) (by (with_reducible repeat (first|refine zbN ?_ _|refine zbD ?_|refine zbA ?_ _));exact BK262.out) hb)
          have n3_:=zm (zbB (g:=gb263) (o:=.cells #[.int .i64 t265] 3 (0,0)) (by (with_reducible repeat (first|refine zbN ?_ _|refine zbD ?_|refine zbA ?_ _));exact BK263.out) hb)
          have n4_:=zm (below_step (by repeat (first|(with_reducible first|exact HB.out|apply zlA|apply zlN|apply zlD|refine zlS ?_ GE256.out|refine zlS ?_ GE261.out|refine zlS ?_ GE262.out|refine zlS ?_ GE263.out)|exact HB.out)) hb)
          have n5_:=zm (zbB (g:=D) (o:=.deferred (some [])) BKD.out hb)
          have n6_:=zm (HSN.out.below hb)
          clear BKD HSN BK256 BK261 BK262 BK263 HB
          have BK256:=n0_
          have BK261:=n1_
          have BK262:=n2_
          have BK263:=n3_
          have HB:=n4_
          have BKD:=n5_
          have HSN:=n6_
          clear n0_ n1_ n2_ n3_ n4_ n5_ n6_
          (try clear hb)
          (try clear hb2)
          (try clear hk)
          (try clear hi)
          refine hK.out _ _ ⟨(blk_cell BK262.out 0).trans rfl,(blk_cell BK261.out 0).trans rfl,(blk_cell BK261.out 1).trans rfl,(blk_cell BK263.out 0).trans rfl,HSN.out⟩ (fun hHeld=>?_)
          clear hK K
          refine norm_ (a':=?_) ?_ ?_
          rotate_left
          ·show Act.put _ (some 151) _=_
           simp only [Act.put,List.setIfInBounds_toArray,List.set_cons_zero,List.set_cons_succ,i64_w,i32_w]
           rfl
          refine pure_ (i:=52) (N:=some 152) (v:=?_) (a':=?_) #[true,true,true,true,true,true,true,true,true,true,true,true,true,true,true,true,true,true,true,true,true,true,true,true,true,true,true,true,true,true,true,true,true,true,true,true,true,true,true,true,true,true,true,true,true,true,true,true,true,true,true,true,true,false,false,false,false,false,false,false,false,false,false,false,false,false,false,false,false,false,false,false,false,false] rfl rfl (any_of HT_.out (by kernel_rfl)) (fun _ _ _ h=>h) (Or.inl ⟨by rfl,?_⟩) ?_ ?_
          rotate_left
          ·intro w'
           go_simp
           with_reducible rfl
          rotate_left
          ·simp only [Act.put,List.setIfInBounds_toArray,List.set_cons_zero,List.set_cons_succ,i64_w,i32_w]
           rfl
          refine pure_ (i:=53) (N:=some 153) (v:=?_) (a':=?_) #[true,true,true,true,true,true,true,true,true,true,true,true,true,true,true,true,true,true,true,true,true,true,true,true,true,true,true,true,true,true,true,true,true,true,true,true,true,true,true,true,true,true,true,true,true,true,true,true,true,true,true,true,true,true,false,false,false,false,false,false,false,false,false,false,false,false,false,false,false,false,false,false,false,false] rfl rfl (any_of HT_.out (by kernel_rfl)) (fun _ _ _ h=>h) (Or.inl ⟨by rfl,?_⟩) ?_ ?_
          rotate_left
          ·intro w'
           go_simp
           with_reducible rfl
          rotate_left
          ·simp only [Act.put,List.setIfInBounds_toArray,List.set_cons_zero,List.set_cons_succ,i64_w,i32_w]
           rfl
          refine pure_ (i:=54) (N:=some 154) (v:=?_) (a':=?_) #[true,true,true,true,true,true,true,true,true,true,true,true,true,true,true,true,true,true,true,true,true,true,true,true,true,true,true,true,true,true,true,true,true,true,true,true,true,true,true,true,true,true,true,true,true,true,true,true,true,true,true,true,true,true,true,false,false,false,false,false,false,false,false,false,false,false,false,false,false,false,false,false,false,false] rfl rfl (any_of HT_.out (by kernel_rfl)) (fun _ _ _ h=>h) (Or.inl ⟨by rfl,?_⟩) ?_ ?_
          rotate_left
          ·intro w'
           go_simp
           with_reducible rfl
          rotate_left
          ·simp only [Act.put,List.setIfInBounds_toArray,List.set_cons_zero,List.set_cons_succ,i64_w,i32_w]
           rfl
          refine pure_ (i:=55) (N:=some 155) (v:=?_) (a':=?_) #[true,true,true,true,true,true,true,true,true,true,true,true,true,true,true,true,true,true,true,true,true,true,true,true,true,true,true,true,true,true,true,true,true,true,true,true,true,true,true,true,true,true,true,true,true,true,true,true,true,true,true,true,true,true,true,true,false,false,false,false,false,false,false,false,false,false,false,false,false,false,false,false,false,false] rfl rfl (any_of HT_.out (by kernel_rfl)) (fun _ _ _ h=>h) (Or.inl ⟨by rfl,?_⟩) ?_ ?_
          rotate_left
          ·intro w'
           go_simp
           with_reducible rfl
          rotate_left
          ·simp only [Act.put,List.setIfInBounds_toArray,List.set_cons_zero,List.set_cons_succ,i64_w,i32_w]
           rfl
          refine pure_ (i:=56) (N:=some 156) (v:=?_) (a':=?_) #[true,true,true,true,true,true,true,true,true,true,true,true,true,true,true,true,true,true,true,true,true,true,true,true,true,true,true,true,true,true,true,true,true,true,true,true,true,true,true,true,true,true,true,true,true,true,true,true,true,true,true,true,true,true,true,true,true,false,false,false,false,false,false,false,false,false,false,false,false,false,false,false,false,false] rfl rfl (any_of HT_.out (by kernel_rfl)) (fun _ _ _ h=>h) (Or.inl ⟨by rfl,?_⟩) ?_ ?_
          rotate_left
          ·intro w'
           go_simp
           with_reducible rfl
          rotate_left
          ·simp only [Act.put,List.setIfInBounds_toArray,List.set_cons_zero,List.set_cons_succ,i64_w,i32_w]
           rfl
          refine pure_ (i:=57) (N:=some 157) (v:=?_) (a':=?_) #[true,true,true,true,true,true,true,true,true,true,true,true,true,true,true,true,true,true,true,true,true,true,true,true,true,true,true,true,true,true,true,true,true,true,true,true,true,true,true,true,true,true,true,true,true,true,true,true,true,true,true,true,true,true,true,true,true,true,false,false,false,false,false,false,false,false,false,false,false,false,false,false,false,false] rfl rfl (any_of HT_.out (by kernel_rfl)) (fun _ _ _ h=>h) (Or.inl ⟨by rfl,?_⟩) ?_ ?_
          rotate_left
          ·intro w'
           go_simp
           with_reducible rfl
          rotate_left
          ·simp only [Act.put,List.setIfInBounds_toArray,List.set_cons_zero,List.set_cons_succ,i64_w,i32_w]
           rfl
          refine pure_ (i:=58) (N:=some 158) (v:=?_) (a':=?_) #[true,true,true,true,true,true,true,true,true,true,true,true,true,true,true,true,true,true,true,true,true,true,true,true,true,true,true,true,true,true,true,true,true,true,true,true,true,true,true,true,true,true,true,true,true,true,true,true,true,true,true,true,true,true,true,true,true,true,true,false,false,false,false,false,false,false,false,false,false,false,false,false,false,false] rfl rfl (any_of HT_.out (by kernel_rfl)) (fun _ _ _ h=>h) (Or.inl ⟨by rfl,?_⟩) ?_ ?_
          rotate_left
          ·intro w'
           go_simp
           with_reducible rfl
          rotate_left
          ·simp only [Act.put,List.setIfInBounds_toArray,List.set_cons_zero,List.set_cons_succ,i64_w,i32_w]
           rfl
          refine take_ (i:=59) (N:=some 159) (v:=?_) (a':=?_) #[true,true,true,true,true,true,true,true,true,true,true,true,true,true,true,true,true,true,true,true,true,true,true,true,true,true,true,true,true,true,true,true,true,true,true,true,true,true,true,true,true,true,true,true,true,true,true,true,true,true,true,true,true,true,true,true,true,true,true,true,false,false,false,false,false,false,false,false,false,false,false,false,false,false] rfl rfl (take_ofW HT_.out HW_.out (by kernel_rfl)) (fun _ _ _ h=>h) (Or.inl ⟨by rfl,?_⟩) hHeld ?_ ?_
          rotate_left
          ·rintro w' ⟨s0,s1,s2,s3,s4⟩
           go_simp
           with_reducible rfl
          rotate_left
          ·simp only [Act.put,List.setIfInBounds_toArray,List.set_cons_zero,List.set_cons_succ,i64_w,i32_w]
           rfl
          refine pure_ (i:=60) (N:=some 160) (v:=?_) (a':=?_) #[true,true,true,true,true,true,true,true,true,true,true,true,true,true,true,true,true,true,true,true,true,true,true,true,true,true,true,true,true,true,true,true,true,true,true,true,true,true,true,true,true,true,true,true,true,true,true,true,true,true,true,true,true,true,true,true,true,true,true,true,true,false,false,false,false,false,false,false,false,false,false,false,false,false] rfl rfl (any_of HT_.out (by kernel_rfl)) (fun _ _ _ h=>h) (Or.inl ⟨by rfl,?_⟩) ?_ ?_
          rotate_left
          ·intro w'
           go_simp
           with_reducible rfl
          rotate_left
          ·simp only [Act.put,List.setIfInBounds_toArray,List.set_cons_zero,List.set_cons_succ,i64_w,i32_w]
           rfl
          refine pure_ (i:=61) (N:=some 161) (v:=?_) (a':=?_) #[true,true,true,true,true,true,true,true,true,true,true,true,true,true,true,true,true,true,true,true,true,true,true,true,true,true,true,true,true,true,true,true,true,true,true,true,true,true,true,true,true,true,true,true,true,true,true,true,true,true,true,true,true,true,true,true,true,true,true,true,true,true,false,false,false,false,false,false,false,false,false,false,false,false] rfl rfl (any_of HT_.out (by kernel_rfl)) (fun _ _ _ h=>h) (Or.inl ⟨by rfl,?_⟩) ?_ ?_
          rotate_left
          ·intro w'
           go_simp
           with_reducible rfl
          rotate_left
          ·simp only [Act.put,List.setIfInBounds_toArray,List.set_cons_zero,List.set_cons_succ,i64_w,i32_w]
           rfl
          refine pure_ (i:=62) (N:=some 162) (v:=?_) (a':=?_) #[true,true,true,true,true,true,true,true,true,true,true,true,true,true,true,true,true,true,true,true,true,true,true,true,true,true,true,true,true,true,true,true,true,true,true,true,true,true,true,true,true,true,true,true,true,true,true,true,true,true,true,true,true,true,true,true,true,true,true,true,true,true,true,false,false,false,false,false,false,false,false,false,false,false] rfl rfl (any_of HT_.out (by kernel_rfl)) (fun _ _ _ h=>h) (Or.inl ⟨by rfl,?_⟩) ?_ ?_
          rotate_left
          ·intro w'
           go_simp
           with_reducible rfl
          rotate_left
          ·simp only [Act.put,List.setIfInBounds_toArray,List.set_cons_zero,List.set_cons_succ,i64_w,i32_w]
           rfl
          refine pure_ (i:=63) (N:=some 163) (v:=?_) (a':=?_) #[true,true,true,true,true,true,true,true,true,true,true,true,true,true,true,true,true,true,true,true,true,true,true,true,true,true,true,true,true,true,true,true,true,true,true,true,true,true,true,true,true,true,true,true,true,true,true,true,true,true,true,true,true,true,true,true,true,true,true,true,true,true,true,true,false,false,false,false,false,false,false,false,false,false] rfl rfl (any_of HT_.out (by kernel_rfl)) (fun _ _ _ h=>h) (Or.inl ⟨by rfl,?_⟩) ?_ ?_
          rotate_left
          ·intro w'
           go_simp
           with_reducible rfl
          rotate_left
          ·simp only [Act.put,List.setIfInBounds_toArray,List.set_cons_zero,List.set_cons_succ,i64_w,i32_w]
           rfl
          refine pure_ (i:=64) (N:=some 164) (v:=?_) (a':=?_) #[true,true,true,true,true,true,true,true,true,true,true,true,true,true,true,true,true,true,true,true,true,true,true,true,true,true,true,true,true,true,true,true,true,true,true,true,true,true,true,true,true,true,true,true,true,true,true,true,true,true,true,true,true,true,true,true,true,true,true,true,true,true,true,true,true,false,false,false,false,false,false,false,false,false] rfl rfl (any_of HT_.out (by kernel_rfl)) (fun _ _ _ h=>h) (Or.inl ⟨by rfl,?_⟩) ?_ ?_
          rotate_left
          ·intro w'
           go_simp
           with_reducible rfl
          rotate_left
          ·simp only [Act.put,List.setIfInBounds_toArray,List.set_cons_zero,List.set_cons_succ,i64_w,i32_w]
           rfl
          refine pure_ (i:=65) (N:=some 165) (v:=?_) (a':=?_) #[true,true,true,true,true,true,true,true,true,true,true,true,true,true,true,true,true,true,true,true,true,true,true,true,true,true,true,true,true,true,true,true,true,true,true,true,true,true,true,true,true,true,true,true,true,true,true,true,true,true,true,true,true,true,true,true,true,true,true,true,true,true,true,true,true,true,false,false,false,false,false,false,false,false] rfl rfl (any_of HT_.out (by kernel_rfl)) (fun _ _ _ h=>h) (Or.inl ⟨by rfl,?_⟩) ?_ ?_
          rotate_left
          ·intro w'
           go_simp
           with_reducible rfl
          rotate_left
          ·simp only [Act.put,List.setIfInBounds_toArray,List.set_cons_zero,List.set_cons_succ,i64_w,i32_w]
           rfl
          refine pure_ (i:=66) (N:=some 166) (v:=?_) (a':=?_) #[true,true,true,true,true,true,true,true,true,true,true,true,true,true,true,true,true,true,true,true,true,true,true,true,true,true,true,true,true,true,true,true,true,true,true,true,true,true,true,true,true,true,true,true,true,true,true,true,true,true,true,true,true,true,true,true,true,true,true,true,true,true,true,true,true,true,true,false,false,false,false,false,false,false] rfl rfl (any_of HT_.out (by kernel_rfl)) (fun _ _ _ h=>h) (Or.inl ⟨by rfl,?_⟩) ?_ ?_
          rotate_left
          ·intro w'
           go_simp
           with_reducible rfl
          rotate_left
          ·simp only [Act.put,List.setIfInBounds_toArray,List.set_cons_zero,List.set_cons_succ,i64_w,i32_w]
           rfl
          refine pure_ (i:=68) (N:=some 168) (v:=?_) (a':=?_) #[true,true,true,true,true,true,true,true,true,true,true,true,true,true,true,true,true,true,true,true,true,true,true,true,true,true,true,true,true,true,true,true,true,true,true,true,true,true,true,true,true,true,true,true,true,true,true,true,true,true,true,true,true,true,true,true,true,true,true,true,true,true,true,true,true,true,true,false,true,false,false,false,false,false] rfl rfl (any_of HT_.out (by kernel_rfl)) (fun _ _ _ h=>h) (Or.inl ⟨by rfl,?_⟩) ?_ ?_
          rotate_left
          ·intro w'
           go_simp
           with_reducible rfl
          rotate_left
          ·simp only [Act.put,List.setIfInBounds_toArray,List.set_cons_zero,List.set_cons_succ,i64_w,i32_w]
           rfl
          refine take_ (i:=67) (N:=some 167) (v:=?_) (a':=?_) #[true,true,true,true,true,true,true,true,true,true,true,true,true,true,true,true,true,true,true,true,true,true,true,true,true,true,true,true,true,true,true,true,true,true,true,true,true,true,true,true,true,true,true,true,true,true,true,true,true,true,true,true,true,true,true,true,true,true,true,true,true,true,true,true,true,true,true,true,true,false,false,false,false,false] rfl rfl (take_ofW HT_.out HW_.out (by kernel_rfl)) (fun _ _ _ h=>h) (Or.inl ⟨by rfl,?_⟩) hHeld ?_ ?_
          rotate_left
          ·rintro w' ⟨s0,s1,s2,s3,s4⟩
           go_simp
           with_reducible rfl
          rotate_left
          ·simp only [Act.put,List.setIfInBounds_toArray,List.set_cons_zero,List.set_cons_succ,i64_w,i32_w]
           rfl
          refine take_ (i:=69) (N:=some 169) (v:=?_) (a':=?_) #[true,true,true,true,true,true,true,true,true,true,true,true,true,true,true,true,true,true,true,true,true,true,true,true,true,true,true,true,true,true,true,true,true,true,true,true,true,true,true,true,true,true,true,true,true,true,true,true,true,true,true,true,true,true,true,true,true,true,true,true,true,true,true,true,true,true,true,true,true,true,false,false,false,false] rfl rfl (take_ofW HT_.out HW_.out (by kernel_rfl)) (fun _ _ _ h=>h) (Or.inl ⟨by rfl,?_⟩) hHeld ?_ ?_
          rotate_left
          ·rintro w' ⟨s0,s1,s2,s3,s4⟩
           go_simp
           with_reducible rfl
          rotate_left
          ·simp only [Act.put,List.setIfInBounds_toArray,List.set_cons_zero,List.set_cons_succ,i64_w,i32_w]
           rfl
          refine one_ (i:=70) (N:=some 170) #[true,true,true,true,true,true,true,true,true,true,true,true,true,true,true,true,true,true,true,true,true,true,true,true,true,true,true,true,true,true,true,true,true,true,true,true,true,true,true,true,true,true,true,true,true,true,true,true,true,true,true,true,true,true,true,true,true,true,true,true,true,true,true,true,true,true,true,true,true,true,true,false,false,false] rfl rfl (one_of HT_.out (by kernel_rfl)) (by decide) (fun K hK=>?_)
          refine goes_ Try.func26 (by kernel_rfl) rfl #[.agg #[.int .i64 t258,.int .i64 t259],.int .i64 t258] (by rfl) rfl rfl (by (try simp only [List.map_toArray,List.map_cons,List.map_nil]);first|done|rfl|(simp only [List.length_drop,List.length_take];rfl)) ?_
          with_reducible refine (layout_Kind.calls k1 t258 t259 t258 t270 _ A51.out).mono ?_
          rintro e w56 ⟨rfl,hb⟩
          refine ⟨_,rfl,?_⟩
          have n0_:=zm (zbB (g:=gb256) (o:=.cells #[.bool false] 4 (0,0)) (by (with_reducible repeat (first|refine zbN ?_ _|refine zbD ?_|refine zbA ?_ _));exact BK256.out) hb)
          have n1_:=zm (zbB (g:=gb261) (o:=.cells #[.int .i64 t258,.int .i64 t259] 24 (0,0)) (by (with_reducible repeat (first|refine zbN ?_ _|refine zbD ?_|refine zbA ?_ _));exact BK261.out) hb)
          have n2_:=zm (zbB (g:=gb262) (o:=.cells #[.int .i64 t264] 3 (0,0)) (by (with_reducible repeat (first|refine zbN ?_ _|refine zbD ?_|refine zbA ?_ _));exact BK262.out) hb)
          have n3_:=zm (zbB (g:=gb263) (o:=.cells #[.int .i64 t265] 3 (0,0)) (by (with_reducible repeat (first|refine zbN ?_ _|refine zbD ?_|refine zbA ?_ _));exact BK263.out) hb)
          have n4_:=zm (below_step (by repeat (first|(with_reducible first|exact HB.out|apply zlA|apply zlN|apply zlD|refine zlS ?_ GE256.out|refine zlS ?_ GE261.out|refine zlS ?_ GE262.out|refine zlS ?_ GE263.out)|exact HB.out)) hb)
          have n5_:=zm (zbB (g:=D) (o:=.deferred (some [])) BKD.out hb)
          have n6_:=zm (HSN.out.below hb)
          clear BKD HSN BK256 BK261 BK262 BK263 HB
          have BK256:=n0_
          have BK261:=n1_
          have BK262:=n2_
          have BK263:=n3_
          have HB:=n4_
          have BKD:=n5_
          have HSN:=n6_
          clear n0_ n1_ n2_ n3_ n4_ n5_ n6_
          (try clear hb)
          (try clear hb2)
          (try clear hk)
          (try clear hi)
          refine hK.out _ _ ⟨(blk_cell BK262.out 0).trans rfl,(blk_cell BK261.out 0).trans rfl,(blk_cell BK261.out 1).trans rfl,(blk_cell BK263.out 0).trans rfl,HSN.out⟩ (fun hHeld=>?_)
          clear hK K
          refine norm_ (a':=?_) ?_ ?_
          rotate_left
          ·show Act.put _ (some 170) _=_
           simp only [Act.put,List.setIfInBounds_toArray,List.set_cons_zero,List.set_cons_succ,i64_w,i32_w]
           rfl
          refine pure_ (i:=71) (N:=some 171) (v:=?_) (a':=?_) #[true,true,true,true,true,true,true,true,true,true,true,true,true,true,true,true,true,true,true,true,true,true,true,true,true,true,true,true,true,true,true,true,true,true,true,true,true,true,true,true,true,true,true,true,true,true,true,true,true,true,true,true,true,true,true,true,true,true,true,true,true,true,true,true,true,true,true,true,true,true,true,true,false,false] rfl rfl (any_of HT_.out (by kernel_rfl)) (fun _ _ _ h=>h) (Or.inl ⟨by rfl,?_⟩) ?_ ?_
          rotate_left
          ·intro w'
           go_simp
           with_reducible rfl
          rotate_left
          ·simp only [Act.put,List.setIfInBounds_toArray,List.set_cons_zero,List.set_cons_succ,i64_w,i32_w]
           rfl
          refine pure_ (i:=72) (N:=some 172) (v:=?_) (a':=?_) #[true,true,true,true,true,true,true,true,true,true,true,true,true,true,true,true,true,true,true,true,true,true,true,true,true,true,true,true,true,true,true,true,true,true,true,true,true,true,true,true,true,true,true,true,true,true,true,true,true,true,true,true,true,true,true,true,true,true,true,true,true,true,true,true,true,true,true,true,true,true,true,true,true,false] rfl rfl (any_of HT_.out (by kernel_rfl)) (fun _ _ _ h=>h) (Or.inl ⟨by rfl,?_⟩) ?_ ?_
          rotate_left
          ·intro w'
           go_simp
           with_reducible rfl
          rotate_left
          ·simp only [Act.put,List.setIfInBounds_toArray,List.set_cons_zero,List.set_cons_succ,i64_w,i32_w]
           rfl
          refine one_ (i:=73) (N:=none) #[true,true,true,true,true,true,true,true,true,true,true,true,true,true,true,true,true,true,true,true,true,true,true,true,true,true,true,true,true,true,true,true,true,true,true,true,true,true,true,true,true,true,true,true,true,true,true,true,true,true,true,true,true,true,true,true,true,true,true,true,true,true,true,true,true,true,true,true,true,true,true,true,true,true] rfl rfl (one_of HT_.out (by kernel_rfl)) (by decide) (fun K hK=>?_)
          have hs57:w56.cell? ⟨gb256,0,none⟩=some (.bool false):=(blk_cell BK256.out 0).trans rfl
          have hfs57:=blk_frozen BK256.out 0
          have hns57_1:=NB261_256.out
          have hns57_2:=NB262_256.out
          have hns57_3:=NB263_256.out
          have hms57_1:=NB256_261.out
          have hms57_2:=NB256_262.out
          have hms57_3:=NB256_263.out
          refine skip_ (w1:=?_) (by rfl) rfl ?_ ?_
          rotate_left
          ·go_simp
           rfl
          refine hK.out _ _ ⟨((cell_far (p:=⟨gb256,_,none⟩) NB262_256.out _).trans (hHeld.1)),((cell_far (p:=⟨gb256,_,none⟩) NB261_256.out _).trans (hHeld.2.1)),((cell_far (p:=⟨gb256,_,none⟩) NB261_256.out _).trans (hHeld.2.2.1)),((cell_far (p:=⟨gb256,_,none⟩) NB263_256.out _).trans (hHeld.2.2.2.1)),(hHeld.2.2.2.2.set (Nat.ne_of_gt q0_.out) _)⟩ (fun hHeld=>?_)
          clear hK K
          refine done_ (done_of HT_.out (by kernel_rfl)) ?_
          unfold Uses.us_onlyN
          go_wp2
          refine ⟨by simp,.inl ⟨_,_,rfl,run_takeDeferred (us_blk_farO BKD.out (show D≠gb256 by omega) _),?_⟩⟩
          exact ⟨_,Uses.us_results_bool rfl _ _ gb256 _ rfl ((blk_cell (cs:=#[.bool (t270 == 8)]) (t:=4) ((World.putObj_heap_other (show gb256≠D by omega)).trans (blk_put BK256.out 0 _ rfl)) 0).trans rfl),rfl,(zlS HB.out GE256.out).grown (grownBy_putObj' _ D _) (zlS HB.out GE256.out).size (fun q e=>by cases e;omega)⟩
         ·rw [if_neg CC] at H
          exact absurd H (by simp)
     case stop =>
      rintro D c pre W hD ⟨q,hq,rfl⟩ ⟨rfl,p,x,e,hbad⟩ hK
      refine absurd ?_ hbad
      have e1:Cap.upto (fun i=>(i,gs i)) N=p ++ x :: (Cap.upto (fun i=>(i,gs i)) N).drop (q + 1):=by
       have t:(Cap.upto (fun i=>(i,gs i)) N).take (q + 1)=Cap.upto (fun i=>(i,gs i)) (q + 1):=by
        unfold Cap.upto
        rw [← List.map_take,List.take_range,Nat.min_eq_left (by omega)]
       conv=>lhs;rw [← List.take_append_drop (q + 1) (Cap.upto (fun i=>(i,gs i)) N),t,e]
       simp
      have:=Uses.us_okl_spec (Cap.upto (fun i=>(i,gs i)) N) [] co.out p x _ e1
      simpa using this
    ·rw [if_neg co] at A80
     exact absurd A80 (by simp)
   ·rw [if_neg cnq] at A80
    exact absurd A80 (by simp)
  ·rw [if_neg c6] at H
   have c6b0:(t260 == 0)=false:=beq_eq_false_iff_ne.mpr c6
   have c6b1:(t260 != 0)=true:=bne_iff_ne.mpr c6
   clear c6
   obtain rfl:=Option.some.inj H
   go_enter Try.func5,Try.ntmps5
   go_wp2_with (first|((with_reducible refine gate_dst (N:=4) rfl ?_);refine box_event ?hg (N:=4) ?hd (cs:=#[.bool false]) (t:=4) ?hr ?_;(case hd=>rfl);(case hg=>rfl);(case hr=>first|(go_simp;done)|(go_simp;rfl));intro gb256 hg w58 hbox hb;have n0_:=zm (below_step (by repeat (first|(with_reducible first|exact HB.out|apply zlA|apply zlN|apply zlD)|exact HB.out)) hb);have n1_:=zm (hbox);have n2_:=zm ((by rw [hg];exact (below_size (by repeat (first|(with_reducible first|exact HB.out|apply zlA|apply zlN|apply zlD)|exact HB.out))):w.heap.size≤gb256));have n3_:=zm ((by rw [hg];exact (below_size (by repeat (first|(with_reducible first|exact HB.out|apply zlA|apply zlN|apply zlD)|exact HB.out))):w.heap.size≤gb256));clear HB;have HB:=n0_;have BK256:=n1_;have GW256:=n2_;have GE256:=n3_;clear n0_ n1_ n2_ n3_;clear hb hbox hg)|((with_reducible refine gate_callee (f:=10) rfl ?_);refine goesL_ (some 16) rfl rfl Try.func10 (by kernel_rfl) rfl #[] rfl (by (try simp only [List.map_toArray,List.map_cons,List.map_nil]);first|done|rfl|(simp only [List.length_drop,List.length_take];rfl)) ?_;(with_reducible refine (slipwaylaw11_live.calls k  true _ A3.out).mono ?_);rintro e w59 ⟨rfl,hb⟩;refine ⟨_,rfl,?_⟩;have n0_:=zm (zbB (g:=gb256) (o:=.cells #[.bool false] 4 (0,0)) (by (with_reducible repeat (first|refine zbN ?_ _|refine zbD ?_|refine zbA ?_ _));exact BK256.out) hb);have n1_:=zm (below_step (by repeat (first|(with_reducible first|exact HB.out|apply zlA|apply zlN|apply zlD|refine zlS ?_ GE256.out)|exact HB.out)) hb);clear BK256 HB;have BK256:=n0_;have HB:=n1_;clear n0_ n1_;(try clear hb);(try clear hb2);(try clear hk);(try clear hi))|((with_reducible refine gate_callee (f:=11) rfl ?_);refine goesL_ (some 27) rfl rfl Try.func11 (by kernel_rfl) rfl #[.int .i64 (wrap64 ((wrap64 (Int.tmod a0 1500)) + 1)),.int .i64 (wrap64 ((wrap64 (Int.tmod a1 49)) + 16))] rfl (by (try simp only [List.map_toArray,List.map_cons,List.map_nil]);first|done|rfl|(simp only [List.length_drop,List.length_take];rfl)) ?_;(with_reducible refine (layout_Plan.calls k (wrap64 ((wrap64 (Int.tmod a0 1500)) + 1)) (wrap64 ((wrap64 (Int.tmod a1 49)) + 16)) t258 t259 t260 _ A5.out).mono ?_);rintro e w60 ⟨rfl,hb⟩;refine ⟨_,rfl,?_⟩;have n0_:=zm (zbB (g:=gb256) (o:=.cells #[.bool false] 4 (0,0)) (by (with_reducible repeat (first|refine zbN ?_ _|refine zbD ?_|refine zbA ?_ _));exact BK256.out) hb);have n1_:=zm (below_step (by repeat (first|(with_reducible first|exact HB.out|apply zlA|apply zlN|apply zlD|refine zlS ?_ GE256.out)|exact HB.out)) hb);clear BK256 HB;have BK256:=n0_;have HB:=n1_;clear n0_ n1_;(try clear hb);(try clear hb2);(try clear hk);(try clear hi))|((with_reducible refine gate_dst (N:=5) rfl ?_);refine box_event ?hg (N:=5) ?hd (cs:=#[.int .i64 0,.int .i64 0]) (t:=24) ?hr ?_;(case hd=>rfl);(case hg=>rfl);(case hr=>first|(go_simp;done)|(go_simp;rfl));intro gb261 hg w61 hbox hb;have n0_:=zm (zbB (g:=gb256) (o:=.cells #[.bool false] 4 (0,0)) (by (with_reducible repeat (first|refine zbN ?_ _|refine zbD ?_|refine zbA ?_ _));exact BK256.out) hb);have n1_:=zm (below_step (by repeat (first|(with_reducible first|exact HB.out|apply zlA|apply zlN|apply zlD|refine zlS ?_ GE256.out)|exact HB.out)) hb);have n2_:=zm (hbox);have n3_:=zm ((by rw [hg];exact (below_size (by repeat (first|(with_reducible first|exact HB.out|apply zlA|apply zlN|apply zlD|refine zlS ?_ GE256.out)|exact HB.out))):w.heap.size≤gb261));have n4_:=zm ((by rw [hg];exact (below_size (by repeat (first|(with_reducible first|exact HB.out|apply zlA|apply zlN|apply zlD|refine zlS ?_ GE256.out)|exact HB.out))):w.heap.size≤gb261));have n5_:=zm ((by rw [hg];exact Nat.ne_of_lt (blk_lt (g:=gb256) (o:=.cells #[.bool false] 4 (0,0)) (by (with_reducible repeat (first|refine zbN ?_ _|refine zbD ?_|refine zbA ?_ _));exact BK256.out)):gb256≠gb261));have n6_:=zm ((by rw [hg];exact Nat.ne_of_gt (blk_lt (g:=gb256) (o:=.cells #[.bool false] 4 (0,0)) (by (with_reducible repeat (first|refine zbN ?_ _|refine zbD ?_|refine zbA ?_ _));exact BK256.out)):gb261≠gb256));clear BK256 HB;have BK256:=n0_;have HB:=n1_;have BK261:=n2_;have GW261:=n3_;have GE261:=n4_;have NB256_261:=n5_;have NB261_256:=n6_;clear n0_ n1_ n2_ n3_ n4_ n5_ n6_;clear hb hbox hg;have hnb62:=NB261_256.out;have hnc62:=NB256_261.out;have hcz63_0:w61.cell? ⟨gb261,0,none⟩=some (.int .i64 0):=(blk_cell BK261.out 0).trans rfl;have hcz63_1:w61.cell? ⟨gb261,1,none⟩=some (.int .i64 0):=(blk_cell BK261.out 1).trans rfl;have hfz63_0:=blk_frozen BK261.out 0;have hfz63_1:=blk_frozen BK261.out 1;have hcz64_0:w61.cell? ⟨gb256,0,none⟩=some (.bool false):=(blk_cell BK256.out 0).trans rfl;have hfz64_0:=blk_frozen BK256.out 0))
   refine bodyPost_ret (Uses.us_results_bool rfl _ _ gb256 true rfl ((blk_cell (cs:=#[.bool true]) (t:=4) (by (with_reducible repeat (first|refine zbN ?_ _|refine zbD ?_|refine zbA ?_ _));refine blk_put (cs:=#[.bool false]) ?_ 0 _ rfl;(with_reducible repeat (first|refine zbN ?_ _|refine zbD ?_|refine zbA ?_ _));refine blk_far ?_ NB256_261.out _;(with_reducible repeat (first|refine zbN ?_ _|refine zbD ?_|refine zbA ?_ _));refine blk_far ?_ NB256_261.out _;(with_reducible repeat (first|refine zbN ?_ _|refine zbD ?_|refine zbA ?_ _));exact BK256.out) 0).trans rfl)) rfl ?_
   exact ⟨by first|rfl|(simp [errW_none,errW_some] <;> rfl)|(simp [*,errW_none,errW_some] <;> rfl),by repeat (first|(with_reducible first|exact HB.out|apply zlA|apply zlN|apply zlD|refine zlS ?_ GE256.out|refine zlS ?_ GE261.out)|exact HB.out)⟩
 ·rw [if_neg c4] at H
  exact absurd H (by simp)
end
def slipwaylaw11_LayoutUses.Pure:Prop:=∀ (a0:Int) (a1:Int),(Lit.int .u16 a0).wf=true → (Lit.int .u8 a1).wf=true → ∃ k,slipwaylaw11_LayoutUses.f k a0 a1=some true
theorem slipwaylaw11_LayoutUses.walk (P:slipwaylaw11_LayoutUses.Pure) (a0:Int) (a1:Int) (w:World) (w0:(Lit.int .u16 a0).wf=true) (w1:(Lit.int .u8 a1).wf=true) :
  Calls Try.prog 5 #[.int .u16 a0,.int .u8 a1] w fun e w'=>e=.returned (.bool true)∧Below w.heap.size w w':=by
 obtain ⟨k,h⟩:=P a0 a1 w0 w1
 refine (slipwaylaw11_LayoutUses.calls k a0 a1 true w h).mono ?_
 rintro e w' ⟨rfl,hd⟩
 exact ⟨rfl,hd⟩
end Go.Proofs.Ytbdnmdmfnopihaa.Print
end
