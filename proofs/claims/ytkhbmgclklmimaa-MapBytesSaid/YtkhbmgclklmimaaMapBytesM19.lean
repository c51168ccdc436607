/- Texts of the proof of MapBytes, part 19. -/
import Derived.Test.YtkhbmgclklmimaaMapBytesMA
import Derived.Test.YtkhbmgclklmimaaMapBytesM15
import Derived.Test.YtkhbmgclklmimaaMapBytesM17
import Derived.Test.YtkhbmgclklmimaaMapBytesM18
import Derived.Test.YtkhbmgclklmimaaMapBytesM16
section
namespace Go.Proofs.Ytkhbmgclklmimaa.Print
open Go.RowKit Go.Proofs.YtkhbmgclklmimaaW.PrintWords Go.Proofs.YtkhbmgclklmimaaW.PrintLast Go.Proofs.YtkhbmgclklmimaaW.PrintMore
attribute [local go_sem] max2_int min2_int max_two min_two max_three min_three max_four min_four   -- for this text's walks alone
attribute [local go_sem ↓] Go.Proofs.Ytkhbmgclklmimaa.Sem.isSome_setCell
attribute [local go_sem] Go.Instr.field Go.asAgg
set_option linter.unusedVariables false
set_option linter.unusedSimpArgs false
-- CX
def be:Nat → Int → List Int
 | 0,_=>[]
 | s + 1,n=>be s (n / 256) ++ [n % 256]
theorem be_len:∀ (s:Nat) (n:Int),(be s n).length=s
 | 0,_=>rfl
 | s + 1,n=>by unfold be;rw [List.length_append,be_len s];rfl
theorem mb_shr (n:Int) (i:Nat) (h:i≤7):shr .i64 n (wrap64 (8 * (i:Int)))=n / 256 ^ i:=by
 have:wrap64 (8 * (i:Int))=((8 * i:Nat):Int):=by unfold wrap64;omega
 rw [this]
 unfold shr
 rw [Int.toNat_natCast,Nat.min_eq_left (show 8 * i≤IntKind.i64.bits by simp [IntKind.bits];omega),Int.pow_mul]
 rfl
theorem be_top:∀ (s:Nat) (n:Int),be (s + 1) n=(n / 256 ^ s % 256) :: be s n
 | 0,n=>by simp [be]
 | s + 1,n=>by
  rw [be,be_top s (n / 256)]
  have:n / 256 / 256 ^ s=n / 256 ^ (s + 1):=by rw [Int.pow_succ',Int.ediv_ediv_of_nonneg (by decide)]
  rw [this]
  rfl
theorem num_step (k:Nat) (b:List Int) (n:Int) (i:Nat) (h:i≤7) (hb:b.length≤1000):mapjnl_num.l0 (k + 1) b n (i:Int)=mapjnl_num.l0 k (b ++ [n / 256 ^ i % 256]) n ((i:Int) - 1):=by
 have h8:(0:Int)≤wrap64 (8 * (i:Int)):=by unfold wrap64;omega
 simp only [mapjnl_num.l0]
 rw [if_pos (by omega),if_pos h8,if_pos (by omega),mb_shr n i h]
 congr 1
 unfold wrap64
 omega
theorem num_from (n:Int):∀ (s k:Nat) (b:List Int),s≤8 → b.length + s≤1000 → mapjnl_num.l0 (k + s + 1) b n ((s:Int) - 1)=some (b ++ be s n)
 | 0,k,b,_,_=>by
  simp only [mapjnl_num.l0]
  rw [if_neg (by omega),be,List.append_nil]
 | s + 1,k,b,hs,hb=>by
  have e:((s + 1:Nat):Int) - 1=(s:Int):=by omega
  rw [e,show k + (s + 1) + 1=(k + s + 1) + 1 from rfl,num_step _ b n s (by omega) (by omega),num_from n s k _ (by omega) (by rw [List.length_append,List.length_singleton];omega),be_top,List.append_assoc]
  rfl
theorem num_is (b:List Int) (n:Int) (s:Nat) (hs:s≤8) (hb:b.length≤900):mapjnl_num.f (s + 1) b n (s:Int)=some (b ++ be s n):=by
 unfold mapjnl_num.f
 have e:wrap64 ((s:Int) - 1)=(s:Int) - 1:=by unfold wrap64;omega
 rw [e]
 have:=num_from n s 0 b hs (by omega)
 rwa [Nat.zero_add] at this
theorem rnum_step (k:Nat) (n:Int) (l:List Int) (i:Nat) (hi:i < l.length) (h:i≤7):slipwayref06_num.l0 (k + 1) n l (i:Int)=slipwayref06_num.l0 k (n / 256) (l.set i (n % 256)) ((i:Int) - 1):=by
 have e2:wrap64 ((i:Int) - 1)=(i:Int) - 1:=by unfold wrap64;omega
 simp only [slipwayref06_num.l0]
 rw [if_pos (by omega),if_pos (by omega),if_pos (by omega),e2,Int.toNat_natCast]
theorem rnum_from:∀ (s k:Nat) (n:Int) (t:List Int),s≤8 → slipwayref06_num.l0 (k + s + 1) n (List.replicate s 0 ++ t) ((s:Int) - 1)=some (be s n ++ t)
 | 0,k,n,t,_=>by
  simp only [slipwayref06_num.l0]
  rw [if_neg (by omega)]
  rfl
 | s + 1,k,n,t,hs=>by
  have e:((s + 1:Nat):Int) - 1=(s:Int):=by omega
  have e3:(List.replicate (s + 1) (0:Int) ++ t).set s (n % 256)=List.replicate s 0 ++ (n % 256 :: t):=by
   rw [List.replicate_succ',List.append_assoc,List.set_append_right _ _ (by simp),List.length_replicate,Nat.sub_self]
   rfl
  rw [e,show k + (s + 1) + 1=(k + s + 1) + 1 from rfl,rnum_step _ _ _ s (by rw [List.length_append,List.length_replicate];omega) (by omega),e3,rnum_from s k (n / 256) _ (by omega),be,List.append_assoc]
  rfl
theorem rnum_is (n:Int) (s:Nat) (hs:s≤8):slipwayref06_num.f (s + 1) n (s:Int)=some (be s n):=by
 unfold slipwayref06_num.f
 have e:wrap64 ((s:Int) - 1)=(s:Int) - 1:=by unfold wrap64;omega
 rw [if_pos (by omega),if_pos (by omega),e,Int.toNat_natCast]
 have:=rnum_from s 0 n [] hs
 rw [Nat.zero_add,List.append_nil,List.append_nil] at this
 exact this
def orb (x:Int) (i:Nat):Int:=Go.bits .or .u8 x (IntKind.u8.wrap (2 ^ ((i:Int) % 8).toNat))
def mkN (bad:List Bool):Nat → List Int
 | 0=>List.replicate 8 0
 | q + 1=>if bad.getD q false=true then (mkN bad q).set (q / 8) (orb (rd (mkN bad q) ((q / 8:Nat):Int)) q) else mkN bad q
theorem mkN_len (bad:List Bool):∀ q,(mkN bad q).length=8
 | 0=>rfl
 | q + 1=>by
  unfold mkN
  split
  ·rw [List.length_set];exact mkN_len bad q
  ·exact mkN_len bad q
def mbRec (r:S55):List Int:=[r.f0 % 256,r.f1 % 256] ++ be 8 r.f2
def mb1 (kind gen part:Int) (n:Nat):List Int:=[kind % 256,part % 256,(n:Int) % 256] ++ be 5 0 ++ be 8 gen
def mb2 (kind gen part seq:Int) (bad:List Bool) (wear:List Int) (n:Nat):List Int:=if kind=1 then mb1 kind gen part n ++ be 8 seq ++ mkN bad bad.length ++ wear.flatMap (be 3) else mb1 kind gen part n
def mb3 (kind gen part seq:Int) (bad:List Bool) (wear:List Int) (recs:List S55):List Int:=mb2 kind gen part seq bad wear (bad.length + recs.length) ++ recs.flatMap mbRec
def mbo (kind gen part seq:Int) (bad:List Bool) (wear:List Int) (recs:List S55):List Int:=mb3 kind gen part seq bad wear recs ++ List.replicate (256 - (mb3 kind gen part seq bad wear recs).length) 0
def okB (kind:Int) (bad:List Bool) (wear:List Int) (recs:List S55):Prop:=(kind=1∧bad.length≤64∧wear.length=bad.length∧recs.length=0)∨(kind=2∧bad.length=0∧wear.length=0∧recs.length≤24)
instance (kind:Int) (bad:List Bool) (wear:List Int) (recs:List S55):Decidable (okB kind bad wear recs):=by unfold okB;infer_instance
theorem flat_len {α:Type} (f:α → List Int) (c:Nat) (h:∀ x,(f x).length=c):∀ l:List α,(l.flatMap f).length=l.length * c
 | []=>by simp
 | x :: t=>by rw [List.flatMap_cons,List.length_append,h,flat_len f c h t,List.length_cons,Nat.succ_mul,Nat.add_comm]
theorem mbRec_len (r:S55):(mbRec r).length=10:=by unfold mbRec;rw [List.length_append,be_len];rfl
theorem mb1_len (kind gen part:Int) (n:Nat):(mb1 kind gen part n).length=16:=by
 unfold mb1
 rw [List.length_append,List.length_append,be_len,be_len]
 rfl
theorem flat_snoc {α:Type} (f:α → List Int) (l:List α) (q:Nat) (h:q < l.length):(l.take (q + 1)).flatMap f=(l.take q).flatMap f ++ f l[q]:=by
 rw [List.take_add_one,List.getElem?_eq_getElem h,List.flatMap_append]
 simp
theorem mb_num {w0 w:World} {v:Value} {b:List Int} (n:Int) (s:Nat) (hs:s≤8) (hb:b.length≤900) (hB:Below w0.heap.size w0 w) (hR:(Kd.int .u8).R 5 w w0.heap.size (fun _=>True) v b) :
  Calls Try.prog 76 #[v,.int .i64 n,.int .i64 (s:Int)] w fun e w'=>∃ v',e=.returned v'∧(Kd.int .u8).R 5 w' w0.heap.size (fun _=>True) v' (b ++ be s n)∧Below w0.heap.size w0 w':=by
 refine (mapjnl_num.calls (s + 1) (fun _=>True) v b n s (b ++ be s n) w0 w hB hR (num_is b n s hs hb)).mono ?_
 rintro e w' ⟨v',rfl,ho,hb',_⟩
 exact ⟨v',rfl,Kd.R_mono ho (fun _ _=>trivial),hb'⟩
theorem mb_rnum {w:World} (n:Int) (s:Nat) (hs:s≤8) :
  Calls Try.prog 77 #[.int .i64 n,.int .i64 (s:Int)] w fun e w'=>∃ A c,e=.returned (.slice A s c)∧s≤c∧(Kd.int .u8).C w' A s (be s n)∧Below w.heap.size w w':=by
 refine (slipwayref06_num.calls (s + 1) n s (be s n) w (rnum_is n s hs)).mono ?_
 rintro e w' ⟨v',rfl,ho,hb'⟩
 obtain ⟨A,c,rfl⟩:=Kd.R_slice ho
 have h:=Kd.R_reads' ho
 rw [be_len] at h
 exact ⟨A,c,by rw [be_len],h.2.1,h.2.2,hb'⟩
theorem mb_rnum8 {w:World} (n:Int) :
  Calls Try.prog 77 #[.int .i64 n,.int .i64 8] w fun e w'=>∃ A c,e=.returned (.slice A 8 c)∧8≤c∧(Kd.int .u8).C w' A 8 (be 8 n)∧Below w.heap.size w w':=mb_rnum n 8 (by decide)
theorem mb_rnum3 {w:World} (n:Int) :
  Calls Try.prog 77 #[.int .i64 n,.int .i64 3] w fun e w'=>∃ A c,e=.returned (.slice A 3 c)∧3≤c∧(Kd.int .u8).C w' A 3 (be 3 n)∧Below w.heap.size w w':=mb_rnum n 3 (by decide)
theorem below_grown0 {W w1:World} (h:W.grownBy w1 none):Below W.heap.size W w1:=pw_below_grown (Below.refl _ _) none (Nat.le_refl _) h (by simp)
theorem mb_num3 {w0 w:World} {v:Value} {b:List Int} (n:Int) (hb:b.length≤900) (hB:Below w0.heap.size w0 w) (hR:(Kd.int .u8).R 5 w w0.heap.size (fun _=>True) v b) :
  Calls Try.prog 76 #[v,.int .i64 n,.int .i64 3] w fun e w'=>∃ v',e=.returned v'∧(Kd.int .u8).R 5 w' w0.heap.size (fun _=>True) v' (b ++ be 3 n)∧Below w0.heap.size w0 w':=mb_num n 3 (by decide) hb hB hR
theorem mb_num5 {w0 w:World} {v:Value} {b:List Int} (n:Int) (hb:b.length≤900) (hB:Below w0.heap.size w0 w) (hR:(Kd.int .u8).R 5 w w0.heap.size (fun _=>True) v b) :
  Calls Try.prog 76 #[v,.int .i64 n,.int .i64 5] w fun e w'=>∃ v',e=.returned v'∧(Kd.int .u8).R 5 w' w0.heap.size (fun _=>True) v' (b ++ be 5 n)∧Below w0.heap.size w0 w':=mb_num n 5 (by decide) hb hB hR
theorem mb_num8 {w0 w:World} {v:Value} {b:List Int} (n:Int) (hb:b.length≤900) (hB:Below w0.heap.size w0 w) (hR:(Kd.int .u8).R 5 w w0.heap.size (fun _=>True) v b) :
  Calls Try.prog 76 #[v,.int .i64 n,.int .i64 8] w fun e w'=>∃ v',e=.returned v'∧(Kd.int .u8).R 5 w' w0.heap.size (fun _=>True) v' (b ++ be 8 n)∧Below w0.heap.size w0 w':=mb_num n 8 (by decide) hb hB hR
theorem mb_wn {kind:Int} {bad:List Bool} {wear:List Int} {recs:List S55} (h:okB kind bad wear recs):wrap64 ((bad.length:Int) + (recs.length:Int))=((bad.length + recs.length:Nat):Int):=by
 unfold okB at h
 unfold wrap64
 omega
theorem mb_start {P:Program} {ops:Array Oper} {Q:Exit → Act → World → Prop} {wf:World} {id n:Nat} {a:Act} {w:World} (hm:P.follows .mixedOrders=true) (hn:ops.size=n) (hb:Below wf.heap.size wf w)
  (h:∀ wd,Below w.heap.size w wd → wpAnyLast P .any ops Q (fun w'=>Below wf.heap.size wf w') [] n (Array.replicate n false) a wd):(Code.region id ops true).wp P Q a w :=
 start_ (S:=fun w'=>Below wf.heap.size wf w') (Array.replicate n false) hm hn rfl (below_step hb (below_drew (Below.refl _ _))) (fun _=>h w.drew (below_drew (Below.refl _ _)))
def m8 (l:List Int):Array Value:=(l.map (fun x=>Value.int .u8 x)).toArray
theorem m8_get {l:List Int} {i:Nat} (h:i < l.length):(m8 l)[i]?=some (.int .u8 l[i]):=by
 unfold m8
 rw [List.getElem?_toArray,List.getElem?_map,List.getElem?_eq_getElem h]
 rfl
theorem m8_set {W:World} {g i t:Nat} {l:List Int} {v:Int} (h:W.heap[g]?=some (.cells (m8 l) t (0,0))):(W.setCell ⟨g,i,none⟩ (.int .u8 v)).heap[g]?=some (.cells (m8 (l.set i v)) t (0,0)):=by
 have:=blk_set h i (.int .u8 v)
 rw [this]
 unfold m8
 rw [List.map_set,List.setIfInBounds_toArray]
theorem mb_w {q:Nat} (h:q≤300):wrap64 ((q:Int) + 1)=((q + 1:Nat):Int):=by unfold wrap64;omega
theorem mb_m {q n:Nat} (h:q < n):n - (intOf (.int .i64 ((q + 1:Nat):Int))).toNat < n - (intOf (.int .i64 (q:Int))).toNat:=by
 simp [intOf]
 omega
theorem mkN_no {bad:List Bool} {q:Nat} (h:bad.getD q false=false):mkN bad (q + 1)=mkN bad q:=by
 conv=>lhs;unfold mkN
 rw [if_neg (by rw [h];decide)]
theorem mkN_yes {bad:List Bool} {q:Nat} (h:bad.getD q false=true):mkN bad (q + 1)=(mkN bad q).set (q / 8) (orb (rd (mkN bad q) ((q / 8:Nat):Int)) q):=by
 conv=>lhs;unfold mkN
 rw [if_pos h]
theorem mb_rdOf {l:List Bool} {q:Nat}:rdOf false l (q:Int)=l.getD q false:=by unfold rdOf;rw [Int.toNat_natCast]
theorem mb_q8 {q:Nat} (h:q≤300):IntKind.i64.wrap ((q:Int) / 8)=((q / 8:Nat):Int):=by
 rw [i64_w]
 unfold wrap64
 omega
theorem mb_m8 {q:Nat}:Int.tmod (q:Int) 8=((q % 8:Nat):Int):=(Int.ofNat_tmod q 8).symm
theorem mb_ix95 {o:Oper} {a:Act} {W:World} {x y:Operand} {g i:Nat} (hop:o.op=.indexAddr 95 x y) (hx:a.eval x=.pointer (some ⟨g,0,none⟩)) (hy:a.eval y=.int .i64 (i:Int)) (h:i < 8) :
  (execOp a.eval o).run Try.prog W=.ok (.value (.pointer (some ⟨g,i,none⟩))) W:=by
 have h0:(0:Int)≤(i:Int):=by omega
 have h1:(i:Int) < 8:=by omega
 have hu:=Try.underlying95
 simp only [execOp,hop,hx,hy]
 go_simp
theorem mb_c5 {o:Oper} {a:Act} {W:World} {x:Operand} {g i t:Nat} {l:List Int} (hop:o.op=.load 5 x) (hx:a.eval x=.pointer (some ⟨g,i,none⟩)) (hb:W.heap[g]?=some (.cells (m8 l) t (0,0))) (hi:i < l.length):(execOp a.eval o).run Try.prog W=.ok (.value (.int .u8 l[i])) W:=by
 have c0:W.cell? ⟨g,i,none⟩=some (.int .u8 l[i]):=(blk_cell hb i).trans (m8_get hi)
 simp only [execOp,hop,hx]
 go_simp
 done
theorem mkN_rd {bad:List Bool} {q:Nat} (h:q / 8 < 8):rd (mkN bad q) ((q / 8:Nat):Int)=(mkN bad q)[q / 8]'(by rw [mkN_len];exact h):=by
 unfold rd
 rw [Int.toNat_natCast,List.getD_eq_getElem?_getD,List.getElem?_eq_getElem (by rw [mkN_len];exact h)]
 rfl
theorem mb_do8 {ops:Array Oper} {oi:Oper} {a:Act} {W wf:World} {K:Act → World → Prop} {Q:Exit → Act → World → Prop} {x y:Operand} {g i base:Nat} {ok:Nat → Prop} {l xs:List Int} {u:Int} {v:Value}
  (hw:Region.wanted oi (yielded ops a.tmps)=true) (hN:oi.dst=none) (hop:oi.op=.store 5 x y) (hx:a.eval x=.pointer (some ⟨g,i,none⟩)) (hy:a.eval y=.int .u8 u) (h5:W.heap[g]?=some (.cells (m8 l) 95 (0,0))) (hi:i < l.length)
  (hR:(Kd.int .u8).R 5 W base ok v xs) (hB:Below wf.heap.size wf W) (hg:wf.heap.size≤g)
  (hk:∀ W1,W1.heap[g]?=some (.cells (m8 (l.set i u)) 95 (0,0)) → (Kd.int .u8).R 5 W1 base ok v xs → Below wf.heap.size wf W1 → K a W1):if Region.wanted oi (yielded ops a.tmps)=true then Oper.wp Try.prog oi a W K Q else K (a.put none undef) W:=by
 have c0:W.cell? ⟨g,i,none⟩=some (.int .u8 l[i]):=(blk_cell h5 i).trans (m8_get hi)
 have f0:=blk_frozen h5 i
 have hrun:(execOp a.eval oi).run Try.prog W=.ok .skip (W.setCell ⟨g,i,none⟩ (.int .u8 u)):=by
  simp only [execOp,hop,hx,hy]
  go_simp
  done
 exact skip_ hw hN hrun (hk _ (m8_set h5) (Kd.R_set hR h5 (by intro q hq;simp [Kd.int,Kd.scalar] at hq;omega) i _) (zlS hB hg))
theorem m8_C {W:World} {g t n:Nat} {l:List Int} (h:W.heap[g]?=some (.cells (m8 l) t (0,0))) (hn:l.length=n) (h8:n≤300):(Kd.int .u8).C W (some ⟨g,0,none⟩) n l:=by
 subst hn
 refine ⟨rfl,by omega,fun _=>⟨_,rfl,fun j p hj=>?_⟩⟩
 obtain ⟨hjl,rfl⟩:=List.getElem?_eq_some_iff.1 hj
 refine ⟨[.int .u8 l[j]],rfl,rfl,fun i u hu=>?_⟩
 rcases i with _|i
 ·cases hu
  have e:(⟨g,0,none⟩:Addr).add (j * (Kd.int .u8).sz + 0)=⟨g,j,none⟩:=by
   rw [add_plain]
   simp [Kd.int,Kd.scalar]
  rw [e]
  exact (blk_cell h j).trans (m8_get hjl)
 ·simp at hu
theorem mb_rd {l:List Int} {q:Nat} (h:q < l.length):rd l (q:Int)=l[q]:=by
 unfold rd
 rw [Int.toNat_natCast,List.getD_eq_getElem?_getD,List.getElem?_eq_getElem h]
 rfl
theorem mb2_len {kind:Int} {bad:List Bool} {wear:List Int} {recs:List S55} (h:okB kind bad wear recs) (gen part seq:Int):(mb2 kind gen part seq bad wear (bad.length + recs.length)).length + 10 * recs.length≤256:=by
 unfold okB at h
 unfold mb2
 split
 ·rw [List.length_append,List.length_append,List.length_append,mb1_len,be_len,mkN_len,flat_len (be 3) 3 (be_len 3)]
  omega
 ·rw [mb1_len]
  omega
theorem mb_startS {P:Program} {ops:Array Oper} {Q:Exit → Act → World → Prop} (S:World → Prop) (ds:List Nat) {id n:Nat} {a:Act} {w:World} (hm:P.follows .mixedOrders=true) (hn:ops.size=n) (hS:∀ wd,Below w.heap.size w wd → S wd)
  (h:∀ wd,Below w.heap.size w wd → wpAnyLast P .any ops Q S ds n (Array.replicate n false) a wd):(Code.region id ops true).wp P Q a w :=
 start_ (S:=S) (Array.replicate n false) hm hn rfl (hS _ (below_drew (Below.refl _ _))) (fun _=>h w.drew (below_drew (Below.refl _ _)))
theorem mb_l6 {kind:Int} {bad:List Bool} {wear:List Int} {recs:List S55} (h:okB kind bad wear recs):recs.length≤24:=by
 unfold okB at h
 omega
theorem mb_ld55 {o:Oper} {a:Act} {W:World} {x:Operand} {ad:Addr} {x0 x1 x2:Value} (hop:o.op=.load 55 x) (hx:a.eval x=.pointer (some ad)) (c0:W.cell? ad=some x0) (c1:W.cell? ⟨ad.block,ad.off + 1,none⟩=some x1) (c2:W.cell? ⟨ad.block,ad.off + 2,none⟩=some x2):(execOp a.eval o).run Try.prog W=.ok (.value (.agg #[x0,x1,x2])) W:=by
 have hu:=Try.underlying55
 simp only [execOp,hop,hx]
 go_simp
 done
theorem mb_rdT {l:List S55} {q:Nat} (h:q < l.length):rd_T55 l (q:Int)=l[q]:=by
 unfold rd_T55
 rw [Int.toNat_natCast,List.getD_eq_getElem?_getD,List.getElem?_eq_getElem h]
 rfl
theorem mb_bl {b2:List Int} {l:List S55} {q:Nat} (h:q < l.length):(b2 ++ (l.take q).flatMap mbRec).length=b2.length + q * 10:=by
 rw [List.length_append,flat_len mbRec 10 mbRec_len,List.length_take,Nat.min_eq_left (Nat.le_of_lt h)]
theorem mb_snoc {b2:List Int} {l:List S55} {q:Nat} (h:q < l.length):b2 ++ (l.take q).flatMap mbRec ++ [l[q].f0 % 256,l[q].f1 % 256] ++ be 8 l[q].f2=b2 ++ (l.take (q + 1)).flatMap mbRec:=by
 rw [flat_snoc mbRec l q h]
 unfold mbRec
 simp only [List.append_assoc]
theorem mb_cap {b n q:Nat} (h:b + 10 * n≤256) (hq:q < n):(b + q * 10 + 2) * 1≤140737488355328:=by omega
theorem mb_cap9 {b2:List Int} {l:List S55} {q:Nat} {x y:Int} (h:b2.length + 10 * l.length≤256) (hq:q < l.length):(b2 ++ (l.take q).flatMap mbRec ++ [x,y]).length≤900:=by
 rw [List.length_append,mb_bl hq]
 simp only [List.length_cons,List.length_nil]
 omega
theorem mb3_len {b2:List Int} {l:List S55} (h:b2.length + 10 * l.length≤256):(b2 ++ l.flatMap mbRec).length≤256:=by
 rw [List.length_append,flat_len mbRec 10 mbRec_len]
 omega
theorem mb3_pos (kind gen part seq:Int) (bad:List Bool) (wear:List Int) (n m:Nat):0 < (mb2 kind gen part seq bad wear n).length + m:=by
 unfold mb2
 split
 ·rw [List.length_append,List.length_append,List.length_append,mb1_len]
  omega
 ·rw [mb1_len]
  omega
section
variable {o : Oper} {a : Act} {W : World} {x : Operand} {g j t : Nat} {cs : Array Value} {v : Value}
theorem mb_ld42 {x0 x1 x2 x3 x4 x5 x6:Value} (hop:o.op=.load 42 x) (hx:a.eval x=.pointer (some ⟨g,0,none⟩)) (hb:W.heap[g]?=some (.cells #[x0,x1,x2,x3,x4,x5,x6] 42 (0,0))):(execOp a.eval o).run Try.prog W=.ok (.value (.agg #[x0,x1,x2,x3,x4,x5,x6])) W:=by
 have hu:=Try.underlying42
 have c0:W.cell? ⟨g,0,none⟩=some x0:=(blk_cell hb 0).trans rfl
 have c1:W.cell? ⟨g,1,none⟩=some x1:=(blk_cell hb 1).trans rfl
 have c2:W.cell? ⟨g,2,none⟩=some x2:=(blk_cell hb 2).trans rfl
 have c3:W.cell? ⟨g,3,none⟩=some x3:=(blk_cell hb 3).trans rfl
 have c4:W.cell? ⟨g,4,none⟩=some x4:=(blk_cell hb 4).trans rfl
 have c5:W.cell? ⟨g,5,none⟩=some x5:=(blk_cell hb 5).trans rfl
 have c6:W.cell? ⟨g,6,none⟩=some x6:=(blk_cell hb 6).trans rfl
 simp only [execOp,hop,hx]
 go_simp
 done
theorem mb_c3 (hop:o.op=.load 3 x) (hx:a.eval x=.pointer (some ⟨g,j,none⟩)) (hb:W.heap[g]?=some (.cells cs t (0,0))) (hj:cs[j]?=some v):(execOp a.eval o).run Try.prog W=.ok (.value v) W:=by
 have c0:W.cell? ⟨g,j,none⟩=some v:=(blk_cell hb j).trans hj
 simp only [execOp,hop,hx]
 go_simp
 done
theorem mb_c2 (hop:o.op=.load 2 x) (hx:a.eval x=.pointer (some ⟨g,j,none⟩)) (hb:W.heap[g]?=some (.cells cs t (0,0))) (hj:cs[j]?=some v):(execOp a.eval o).run Try.prog W=.ok (.value v) W:=by
 have c0:W.cell? ⟨g,j,none⟩=some v:=(blk_cell hb j).trans hj
 simp only [execOp,hop,hx]
 go_simp
 done
theorem mb_c22 (hop:o.op=.load 22 x) (hx:a.eval x=.pointer (some ⟨g,j,none⟩)) (hb:W.heap[g]?=some (.cells cs t (0,0))) (hj:cs[j]?=some v):(execOp a.eval o).run Try.prog W=.ok (.value v) W:=by
 have c0:W.cell? ⟨g,j,none⟩=some v:=(blk_cell hb j).trans hj
 simp only [execOp,hop,hx]
 go_simp
 done
theorem mb_c23 (hop:o.op=.load 23 x) (hx:a.eval x=.pointer (some ⟨g,j,none⟩)) (hb:W.heap[g]?=some (.cells cs t (0,0))) (hj:cs[j]?=some v):(execOp a.eval o).run Try.prog W=.ok (.value v) W:=by
 have c0:W.cell? ⟨g,j,none⟩=some v:=(blk_cell hb j).trans hj
 simp only [execOp,hop,hx]
 go_simp
 done
theorem mb_c34 (hop:o.op=.load 34 x) (hx:a.eval x=.pointer (some ⟨g,j,none⟩)) (hb:W.heap[g]?=some (.cells cs t (0,0))) (hj:cs[j]?=some v):(execOp a.eval o).run Try.prog W=.ok (.value v) W:=by
 have c0:W.cell? ⟨g,j,none⟩=some v:=(blk_cell hb j).trans hj
 simp only [execOp,hop,hx]
 go_simp
 done
end
def mapjnl_Bytes.f (k:Nat) (a0 a1 a2 a3:Int) (l4:List Bool) (l5:List Int) (l6:List S55):Option (List Int × Int) :=
 (mapjnl_fits.f k a0 a1 a2 a3 l4 l5 l6).bind fun t=>if t=true then if okB a0 l4 l5 l6 then some (mbo a0 a1 a2 a3 l4 l5 l6,0) else none else some ([],62)
set_option maxHeartbeats 4000000 in
set_option maxRecDepth 100000 in
theorem mapjnl_Bytes.calls (k:Nat) (a0 a1 a2 a3:Int) (A4:Option Addr) (c4:Nat) (l4:List Bool) (A5:Option Addr) (c5:Nat) (l5:List Int) (A6:Option Addr) (c6:Nat) (l6:List S55) (r1:List Int) (r2:Int) (w:World) (hr4:Kd.C Kd.bool w A4 l4.length l4) (hc4:l4.length≤c4) (hr5:Kd.C (Kd.int .i64) w A5 l5.length l5) (hc5:l5.length≤c5) (hr6:Kd.C k55 w A6 l6.length l6) (hc6:l6.length≤c6) (h:mapjnl_Bytes.f k a0 a1 a2 a3 l4 l5 l6=some (r1,r2)) :
  Calls Try.prog 44 #[.agg #[.int .i64 a0,.int .i64 a1,.int .i64 a2,.int .i64 a3,.slice A4 l4.length c4,.slice A5 l5.length c5,.slice A6 l6.length c6]] w fun e w'=>∃ v0_:Value,e=.returned (.tuple #[v0_,.int .i64 r2])∧Kd.R (Kd.int .u8) 5 w' w.heap.size (fun _=>True) v0_ r1∧Below w.heap.size w w':=by
 have hu42:=Try.underlying42
 have H:mapjnl_Bytes.f k a0 a1 a2 a3 l4 l5 l6=some (r1,r2):=h
 clear h
 have hh_:=zm hr4;clear hr4;have hr4:=hh_;clear hh_;have hh_:=zm hc4;clear hc4;have hc4:=hh_;clear hh_;have hh_:=zm hr5;clear hr5;have hr5:=hh_;clear hh_;have hh_:=zm hc5;clear hc5;have hc5:=hh_;clear hh_;have hh_:=zm hr6;clear hr6;have hr6:=hh_;clear hh_;have hh_:=zm hc6;clear hc6;have hc6:=hh_;clear hh_
 unfold mapjnl_Bytes.f at H
 have hg_:=Option.bind_eq_some_iff.mp H;clear H;obtain ⟨t,F0,H⟩:=hg_;have hh_:=zm F0;clear F0;have F0:=hh_;clear hh_;(try dsimp only at H)
 have hh_:=zm H;clear H;have H:=hh_;clear hh_
 go_enter Try.func44,Try.ntmps44
 go_wp2_with (first|((with_reducible refine gate_dst (N:=1) rfl ?_);refine box_event rfl (N:=1) rfl (cs:=_) (t:=42) (by first|(go_simp;done)|(go_simp;rfl)) ?_;rintro g1 hg w1 hbk hb;clear hg;have hh_:=zm hbk;clear hbk;have hbk:=hh_;clear hh_;have hh_:=zm hb;clear hb;have hb:=hh_;clear hh_)|((with_reducible refine gate_ (.load 42 _) rfl ?_);refine Kd.event_run rfl (mb_ld42 rfl rfl (zbB (Aside0.out (by assumption)) (by repeat (first|exact Below.refl _ _|with_reducible apply zlN|with_reducible apply zlA|refine below_step ?_ (Aside0.out (by assumption)))))) ?_))
 refine (mapjnl_fits.calls k a0 a1 a2 a3 _ _ _ _ _ _ _ _ _ _ _ (Kd.C_below (Aside0.out (by assumption)) (by repeat (first|exact Below.refl _ _|with_reducible apply zlN|with_reducible apply zlA|refine below_step ?_ (Aside0.out (by assumption))))) (Aside0.out (by assumption)) (Kd.C_below (Aside0.out (by assumption)) (by repeat (first|exact Below.refl _ _|with_reducible apply zlN|with_reducible apply zlA|refine below_step ?_ (Aside0.out (by assumption))))) (Aside0.out (by assumption)) (Kd.C_below (Aside0.out (by assumption)) (by repeat (first|exact Below.refl _ _|with_reducible apply zlN|with_reducible apply zlA|refine below_step ?_ (Aside0.out (by assumption))))) (Aside0.out (by assumption)) F0.out).mono ?_
 rintro e wf ⟨rfl,hb⟩
 have hh_:=zm hb;clear hb;have hb:=hh_;clear hh_
 have H:=H.out
 by_cases ht:t=true
 rotate_left
 ·have ht2:t=false:=by simpa using ht
  subst ht2
  rw [if_neg (by decide)] at H
  simp only [Option.some.injEq,Prod.mk.injEq] at H
  obtain ⟨rfl,rfl⟩:=H
  go_wp2
  go_ret2
  exact ⟨_,rfl,Kd.R_nil _ _ _ _ _,(by repeat (first|exact Below.refl _ _|with_reducible apply zlN|with_reducible apply zlA|refine below_step ?_ (Aside0.out (by assumption))))⟩
 subst ht
 rw [if_pos rfl] at H
 have hg_:=Cw.gt_ H;clear H;obtain ⟨hok,H⟩:=hg_
 simp only [Option.some.injEq,Prod.mk.injEq] at H
 obtain ⟨rfl,rfl⟩:=H
 have hh_:=zm hok;clear hok;have hok:=hh_;clear hh_
 go_wp2_with (first|((with_reducible refine gate_ (.load 3 _) rfl ?_);refine Kd.event_run rfl (mb_c3 rfl rfl (zbB (Aside0.out (by assumption)) (by repeat (first|exact Below.refl _ _|with_reducible apply zlN|with_reducible apply zlA|refine below_step ?_ (Aside0.out (by assumption))))) rfl) ?_)|((with_reducible refine gate_ (.load 2 _) rfl ?_);refine Kd.event_run rfl (mb_c2 rfl rfl (zbB (Aside0.out (by assumption)) (by repeat (first|exact Below.refl _ _|with_reducible apply zlN|with_reducible apply zlA|refine below_step ?_ (Aside0.out (by assumption))))) rfl) ?_)|((with_reducible refine gate_ (.load 22 _) rfl ?_);refine Kd.event_run rfl (mb_c22 rfl rfl (zbB (Aside0.out (by assumption)) (by repeat (first|exact Below.refl _ _|with_reducible apply zlN|with_reducible apply zlA|refine below_step ?_ (Aside0.out (by assumption))))) rfl) ?_)|((with_reducible refine gate_ (.load 23 _) rfl ?_);refine Kd.event_run rfl (mb_c23 rfl rfl (zbB (Aside0.out (by assumption)) (by repeat (first|exact Below.refl _ _|with_reducible apply zlN|with_reducible apply zlA|refine below_step ?_ (Aside0.out (by assumption))))) rfl) ?_)|((with_reducible refine gate_ (.load 34 _) rfl ?_);refine Kd.event_run rfl (mb_c34 rfl rfl (zbB (Aside0.out (by assumption)) (by repeat (first|exact Below.refl _ _|with_reducible apply zlN|with_reducible apply zlA|refine below_step ?_ (Aside0.out (by assumption))))) rfl) ?_)|((with_reducible refine gate_dst (N:=30) rfl ?_);refine Kd.R_lit (Kd.int .u8) (w0:=wf) wf.heap.size 5 rfl rfl (xs:=[a0 % 256,a2 % 256,wrap64 ((l4.length:Int) + (l6.length:Int)) % 256]) (inner:=[.int .u8 (a0 % 256),.int .u8 (a2 % 256),.int .u8 (wrap64 ((l4.length:Int) + (l6.length:Int)) % 256)]) (ok:=fun _=>True) (okp:=fun _=>True) ?hr (Kd.reps_scalar _) (fun _ h=>h) trivial (by repeat (first|exact Below.refl _ _|with_reducible apply zlN|with_reducible apply zlA|refine below_step ?_ (Aside0.out (by assumption)))) (below_size (by repeat (first|exact Below.refl _ _|with_reducible apply zlN|with_reducible apply zlA|refine below_step ?_ (Aside0.out (by assumption))))) (by simp) ?_;(case hr=>first|(go_simp;done)|(go_simp;rfl));intro v4 w1 ho hb hg hat;clear hg hat;rw [mb_wn hok.out] at ho;have hh_:=zm ho;clear ho;have ho:=hh_;clear hh_;have hh_:=zm hb;clear hb;have hb:=hh_;clear hh_))
 refine mb_start (wf:=wf) (by as_aux_lemma=>kernel_rfl) rfl (by repeat (first|exact Below.refl _ _|with_reducible apply zlN|with_reducible apply zlA|refine below_step ?_ (Aside0.out (by assumption)))) (fun wd hb=>?_)
 have hbd:=zm (show Below wf.heap.size wf wd from below_step (by repeat (first|exact Below.refl _ _|with_reducible apply zlN|with_reducible apply zlA|refine below_step ?_ (Aside0.out (by assumption)))) hb)
 have hod:=zm (Kd.R_below ho.out hb)
 clear hb ho
 refine Cw.dpu (i:=0) (v:=?_) (a':=?_) (by simp only [List.getElem?_toArray,List.getElem?_cons_succ,List.getElem?_cons_zero];rfl) rfl (by as_aux_lemma=>kernel_rfl) (by rfl) (by exact fun _ _ _ h=>h) ?_ ?_ ?_
 rotate_left
 ·intro w'
  go_simp
  with_reducible rfl
 rotate_left
 ·simp only [Act.put,List.setIfInBounds_toArray,List.set_cons_zero,List.set_cons_succ,i64_w,i32_w]
  rfl
 refine Cw.dpu (i:=2) (v:=?_) (a':=?_) (by simp only [List.getElem?_toArray,List.getElem?_cons_succ,List.getElem?_cons_zero];rfl) rfl (by as_aux_lemma=>kernel_rfl) (by rfl) (by exact fun _ _ _ h=>h) ?_ ?_ ?_
 rotate_left
 ·intro w'
  go_simp
  with_reducible rfl
 rotate_left
 ·simp only [Act.put,List.setIfInBounds_toArray,List.set_cons_zero,List.set_cons_succ,i64_w,i32_w]
  rfl
 refine Cw.dtk (i:=3) (v:=?_) (a':=?_) (by simp only [List.getElem?_toArray,List.getElem?_cons_succ,List.getElem?_cons_zero];rfl) rfl (by as_aux_lemma=>kernel_rfl) (by rfl) (by exact fun _ _ _ h=>h) ?_ (by repeat (first|exact Below.refl _ _|with_reducible apply zlN|with_reducible apply zlA|refine below_step ?_ (Aside0.out (by assumption)))) ?_ ?_
 rotate_left
 ·intro w' hs_
  have hs:=zm hs_
  clear hs_
  apply Eq.trans
  ·apply mb_c2
   ·rfl
   ·rfl
   ·exact (zbB (Aside0.out (by assumption)) (by repeat (first|exact Below.refl _ _|with_reducible apply zlN|with_reducible apply zlA|refine below_step ?_ (Aside0.out (by assumption)))))
   ·rfl
  ·rfl
 rotate_left
 ·simp only [Act.put,List.setIfInBounds_toArray,List.set_cons_zero,List.set_cons_succ,i64_w,i32_w]
  rfl
 refine Cw.done1 (i:=1) (N:=some 32) (by simp only [List.getElem?_toArray,List.getElem?_cons_succ,List.getElem?_cons_zero];rfl) rfl (by as_aux_lemma=>kernel_rfl) (fun K hK=>?_)
 refine goes_ Try.func76 (by as_aux_lemma=>kernel_rfl) rfl _ (by rfl) rfl rfl (by go_simp;rfl) ?_
 refine (mb_num5 (w0:=wf) 0 (by simp) hbd.out hod.out).mono ?_
 clear hod hbd
 rintro e w5 ⟨v5,rfl,ho,hb⟩
 have hh_:=zm ho;clear ho;have ho:=hh_;clear hh_
 have hh_:=zm hb;clear hb;have hb:=hh_;clear hh_
 refine ⟨_,rfl,?_⟩
 refine hK.out _ _ (by repeat (first|exact Below.refl _ _|with_reducible apply zlN|with_reducible apply zlA|refine below_step ?_ (Aside0.out (by assumption)))) (fun _=>?_)
 clear hK K
 refine norm_ (a':=?_) ?_ ?_
 rotate_left
 ·show Act.put _ (some 32) _=_
  simp only [Act.put,List.setIfInBounds_toArray,List.set_cons_zero,List.set_cons_succ,i64_w,i32_w]
  rfl
 refine Cw.done1 (i:=4) (N:=some 35) (by simp only [List.getElem?_toArray,List.getElem?_cons_succ,List.getElem?_cons_zero];rfl) rfl (by as_aux_lemma=>kernel_rfl) (fun K hK=>?_)
 refine goes_ Try.func76 (by as_aux_lemma=>kernel_rfl) rfl _ (by rfl) rfl rfl (by go_simp;rfl) ?_
 refine (mb_num8 (w0:=wf) a1 (by rw [List.length_append,be_len];simp) (Aside0.out (by assumption)) ho.out).mono ?_
 clear ho hb
 rintro e w8 ⟨v8,rfl,ho,hb⟩
 have hh_:=zm ho;clear ho;have ho:=hh_;clear hh_
 have hh_:=zm hb;clear hb;have hb:=hh_;clear hh_
 refine ⟨_,rfl,?_⟩
 refine hK.out _ _ (by repeat (first|exact Below.refl _ _|with_reducible apply zlN|with_reducible apply zlA|refine below_step ?_ (Aside0.out (by assumption)))) (fun _=>?_)
 clear hK K
 refine norm_ (a':=?_) ?_ ?_
 rotate_left
 ·show Act.put _ (some 35) _=_
  simp only [Act.put,List.setIfInBounds_toArray,List.set_cons_zero,List.set_cons_succ,i64_w,i32_w]
  rfl
 refine Cw.dpu (i:=5) (v:=?_) (a':=?_) (by simp only [List.getElem?_toArray,List.getElem?_cons_succ,List.getElem?_cons_zero];rfl) rfl (by as_aux_lemma=>kernel_rfl) (by rfl) (by exact fun _ _ _ h=>h) ?_ ?_ ?_
 rotate_left
 ·intro w'
  go_simp
  with_reducible rfl
 rotate_left
 ·simp only [Act.put,List.setIfInBounds_toArray,List.set_cons_zero,List.set_cons_succ,i64_w,i32_w]
  rfl
 refine done_ (by as_aux_lemma=>kernel_rfl) ?_
 by_cases h1:a0=1
 ·have h1b:(a0 == 1)=true:=beq_iff_eq.mpr h1
  go_wp2_with (first|((with_reducible refine gate_ (.load 3 _) rfl ?_);refine Kd.event_run rfl (mb_c3 rfl rfl (zbB (Aside0.out (by assumption)) (by repeat (first|exact Below.refl _ _|with_reducible apply zlN|with_reducible apply zlA|refine below_step ?_ (Aside0.out (by assumption))))) rfl) ?_)|((with_reducible refine gate_ (.load 2 _) rfl ?_);refine Kd.event_run rfl (mb_c2 rfl rfl (zbB (Aside0.out (by assumption)) (by repeat (first|exact Below.refl _ _|with_reducible apply zlN|with_reducible apply zlA|refine below_step ?_ (Aside0.out (by assumption))))) rfl) ?_)|((with_reducible refine gate_ (.load 22 _) rfl ?_);refine Kd.event_run rfl (mb_c22 rfl rfl (zbB (Aside0.out (by assumption)) (by repeat (first|exact Below.refl _ _|with_reducible apply zlN|with_reducible apply zlA|refine below_step ?_ (Aside0.out (by assumption))))) rfl) ?_)|((with_reducible refine gate_ (.load 23 _) rfl ?_);refine Kd.event_run rfl (mb_c23 rfl rfl (zbB (Aside0.out (by assumption)) (by repeat (first|exact Below.refl _ _|with_reducible apply zlN|with_reducible apply zlA|refine below_step ?_ (Aside0.out (by assumption))))) rfl) ?_)|((with_reducible refine gate_ (.load 34 _) rfl ?_);refine Kd.event_run rfl (mb_c34 rfl rfl (zbB (Aside0.out (by assumption)) (by repeat (first|exact Below.refl _ _|with_reducible apply zlN|with_reducible apply zlA|refine below_step ?_ (Aside0.out (by assumption))))) rfl) ?_))
  have ho1:=zm (show (Kd.int .u8).R 5 w8 wf.heap.size (fun _=>True) v8 (mb1 a0 a1 a2 (l4.length + l6.length)) from ho.out)
  clear ho
  refine (mb_num8 (w0:=wf) a3 (by rw [mb1_len];decide) (Aside0.out (by assumption)) ho1.out).mono ?_
  rintro e w9 ⟨v9,rfl,ho,hb9⟩
  clear hb ho1
  have hh_:=zm ho;clear ho;have ho:=hh_;clear hh_;have hh_:=zm hb9;clear hb9;have hb9:=hh_;clear hh_
  have hC4:=zm (show Kd.C Kd.bool wf A4 l4.length l4 from (Kd.C_below (Aside0.out (by assumption)) (by repeat (first|exact Below.refl _ _|with_reducible apply zlN|with_reducible apply zlA|refine below_step ?_ (Aside0.out (by assumption))))))
  go_wp2_with (first|((with_reducible refine gate_ (.alloc 95) rfl ?_);refine box_event rfl rfl (cs:=#[.int .u8 0,.int .u8 0,.int .u8 0,.int .u8 0,.int .u8 0,.int .u8 0,.int .u8 0,.int .u8 0]) (t:=95) (by first|(go_simp;done)|(go_simp;rfl)) ?_;rintro g5 hg5 w10 hbk5 hb;have hh_:=zm hg5;clear hg5;have hg5:=hh_;clear hh_;have hh_:=zm hbk5;clear hbk5;have hbk5:=hh_;clear hh_;have hh_:=zm hb;clear hb;have hb:=hh_;clear hh_)|((with_reducible refine gate_ (.load 3 _) rfl ?_);refine Kd.event_run rfl (mb_c3 rfl rfl (zbB (Aside0.out (by assumption)) (by repeat (first|exact Below.refl _ _|with_reducible apply zlN|with_reducible apply zlA|refine below_step ?_ (Aside0.out (by assumption))))) rfl) ?_)|((with_reducible refine gate_ (.load 2 _) rfl ?_);refine Kd.event_run rfl (mb_c2 rfl rfl (zbB (Aside0.out (by assumption)) (by repeat (first|exact Below.refl _ _|with_reducible apply zlN|with_reducible apply zlA|refine below_step ?_ (Aside0.out (by assumption))))) rfl) ?_)|((with_reducible refine gate_ (.load 22 _) rfl ?_);refine Kd.event_run rfl (mb_c22 rfl rfl (zbB (Aside0.out (by assumption)) (by repeat (first|exact Below.refl _ _|with_reducible apply zlN|with_reducible apply zlA|refine below_step ?_ (Aside0.out (by assumption))))) rfl) ?_)|((with_reducible refine gate_ (.load 23 _) rfl ?_);refine Kd.event_run rfl (mb_c23 rfl rfl (zbB (Aside0.out (by assumption)) (by repeat (first|exact Below.refl _ _|with_reducible apply zlN|with_reducible apply zlA|refine below_step ?_ (Aside0.out (by assumption))))) rfl) ?_)|((with_reducible refine gate_ (.load 34 _) rfl ?_);refine Kd.event_run rfl (mb_c34 rfl rfl (zbB (Aside0.out (by assumption)) (by repeat (first|exact Below.refl _ _|with_reducible apply zlN|with_reducible apply zlA|refine below_step ?_ (Aside0.out (by assumption))))) rfl) ?_))
  have h5m:=zm (show w10.heap[g5]?=some (.cells (m8 (mkN l4 0)) 95 (0,0)) from hbk5.out)
  have ho10:=zm (Kd.R_below ho.out hb.out)
  have hb10:=zm (below_step hb9.out hb.out)
  have hg5f:=Nat.le_trans (below_size hb9.out) (Nat.le_of_eq hg5.out.symm)
  clear hbk5 ho hb hb9
  go_loopw [46] (fun v wi=>∃ q:Nat,v=.int .i64 (q:Int)∧Aside0 (q≤l4.length)∧Aside0 (wi.heap[g5]?=some (.cells (m8 (mkN l4 q)) 95 (0,0)))∧Aside0 ((Kd.int .u8).R 5 wi wf.heap.size (fun _=>True) v9 (mb1 a0 a1 a2 (l4.length + l6.length) ++ be 8 a3))∧Aside0 (Below wf.heap.size wf wi)) (fun v _=>l4.length - (intOf v).toNat)
  case atStart=>exact ⟨0,rfl,⟨Nat.zero_le _⟩,h5m,ho10,hb10⟩
  case round =>
   clear h5m ho10 hb10
   obtain ⟨q,rfl,hq,h5,ho,hb⟩:=hrel
   by_cases hql:q < l4.length
   ·have hd:decide ((q:Int) < (l4.length:Int))=true:=decide_eq_true (by omega)
    have hq0:0≤(q:Int):=Int.natCast_nonneg q
    have hq3:(q:Int) < (l4.length:Int):=Int.ofNat_lt.mpr hql
    obtain ⟨ad4,hA4,hx4⟩:=Kd.at_bool (show Kd.C Kd.bool wr A4 l4.length l4 from (Kd.C_below (Aside0.out (by assumption)) (by repeat (first|exact Below.refl _ _|with_reducible apply zlN|with_reducible apply zlA|refine below_step ?_ (Aside0.out (by assumption)))))) (q:Int) hq0 hq3
    subst hA4
    rw [Int.toNat_natCast] at hx4
    rw [mb_rdOf] at hx4
    have hqw:=mb_w (show q≤300 by have:=hok.out;unfold okB at this;omega)
    by_cases hbq:l4.getD q false=true
    ·rw [hbq] at hx4
     go_wp2_with fail
     have hq8:=mb_q8 (show q≤300 by have:=hok.out;unfold okB at this;omega)
     have hq8l:q / 8 < 8:=by have:=hok.out;unfold okB at this;omega
     have hm0:0≤((q % 8:Nat):Int):=Int.natCast_nonneg _
     refine Cw.dstartD [9] (by as_aux_lemma=>kernel_rfl) rfl (fun wd hbd=>?_)
     have hh_:=zm hbd;clear hbd;have hbd:=hh_;clear hh_
     refine Cw.dpu (i:=0) (v:=?_) (a':=?_) (by simp only [List.getElem?_toArray,List.getElem?_cons_succ,List.getElem?_cons_zero];rfl) rfl (by as_aux_lemma=>kernel_rfl) (by rfl) (by exact fun _ _ _ h=>h) ?_ ?_ ?_
     rotate_left
     ·intro w'
      go_simp
      with_reducible rfl
     rotate_left
     ·simp only [Act.put,List.setIfInBounds_toArray,List.set_cons_zero,List.set_cons_succ,i64_w,i32_w]
      rfl
     refine Cw.dpu (i:=1) (v:=?_) (a':=?_) (by simp only [List.getElem?_toArray,List.getElem?_cons_succ,List.getElem?_cons_zero];rfl) rfl (by as_aux_lemma=>kernel_rfl) (by rfl) (by exact fun _ _ _ h=>h) ?_ ?_ ?_
     rotate_left
     ·intro w'
      go_simp
      first|rw [hq8]|rw [show ((q:Int) / 8)=((q / 8:Nat):Int) from rfl]
     rotate_left
     ·simp only [Act.put,List.setIfInBounds_toArray,List.set_cons_zero,List.set_cons_succ,i64_w,i32_w]
      rfl
     refine Cw.dpu (i:=2) (v:=?_) (a':=?_) (by simp only [List.getElem?_toArray,List.getElem?_cons_succ,List.getElem?_cons_zero];rfl) rfl (by as_aux_lemma=>kernel_rfl) (by rfl) (by exact fun _ _ _ h=>h) ?_ ?_ ?_
     rotate_left
     ·intro w'
      apply Eq.trans
      ·apply mb_ix95
       ·rfl
       ·rfl
       ·rfl
       ·exact hq8l
      ·rfl
     rotate_left
     ·simp only [Act.put,List.setIfInBounds_toArray,List.set_cons_zero,List.set_cons_succ,i64_w,i32_w]
      rfl
     refine Cw.dtkD (i:=3) (v:=?_) (a':=?_) (by simp only [List.getElem?_toArray,List.getElem?_cons_succ,List.getElem?_cons_zero];rfl) rfl (by as_aux_lemma=>kernel_rfl) (by rfl) (by exact fun _ _ _ h=>h) ?_ (by repeat (first|exact Below.refl _ _|with_reducible apply zlN|with_reducible apply zlA|refine below_step ?_ (Aside0.out (by assumption)))) ?_ ?_
     rotate_left
     ·intro w' hs_
      have hs:=zm hs_
      clear hs_
      apply Eq.trans
      ·apply mb_c5 (l:=mkN l4 q)
       ·rfl
       ·rfl
       ·exact (zbB (Aside0.out (by assumption)) (by repeat (first|exact Below.refl _ _|with_reducible apply zlN|with_reducible apply zlA|refine below_step ?_ (Aside0.out (by assumption)))))
       ·rw [mkN_len];exact hq8l
      ·rfl
     rotate_left
     ·simp only [Act.put,List.setIfInBounds_toArray,List.set_cons_zero,List.set_cons_succ,i64_w,i32_w]
      rfl
     refine Cw.dpu (i:=4) (v:=?_) (a':=?_) (by simp only [List.getElem?_toArray,List.getElem?_cons_succ,List.getElem?_cons_zero];rfl) rfl (by as_aux_lemma=>kernel_rfl) (by rfl) (by exact fun _ _ _ h=>h) ?_ ?_ ?_
     rotate_left
     ·intro w'
      go_simp
      with_reducible rfl
     rotate_left
     ·simp only [Act.put,List.setIfInBounds_toArray,List.set_cons_zero,List.set_cons_succ,i64_w,i32_w]
      rfl
     refine Cw.dpu (i:=5) (v:=?_) (a':=?_) (by simp only [List.getElem?_toArray,List.getElem?_cons_succ,List.getElem?_cons_zero];rfl) rfl (by as_aux_lemma=>kernel_rfl) (by rfl) (by exact fun _ _ _ h=>h) ?_ ?_ ?_
     rotate_left
     ·intro w'
      go_simp
      rw [mb_m8]
     rotate_left
     ·simp only [Act.put,List.setIfInBounds_toArray,List.set_cons_zero,List.set_cons_succ,i64_w,i32_w]
      rfl
     refine Cw.dpu (i:=6) (v:=?_) (a':=?_) (by simp only [List.getElem?_toArray,List.getElem?_cons_succ,List.getElem?_cons_zero];rfl) rfl (by as_aux_lemma=>kernel_rfl) (by rfl) (by exact fun _ _ _ h=>h) ?_ ?_ ?_
     rotate_left
     ·intro w'
      go_simp
      with_reducible rfl
     rotate_left
     ·simp only [Act.put,List.setIfInBounds_toArray,List.set_cons_zero,List.set_cons_succ,i64_w,i32_w]
      rfl
     refine Cw.dpu (i:=7) (v:=?_) (a':=?_) (by simp only [List.getElem?_toArray,List.getElem?_cons_succ,List.getElem?_cons_zero];rfl) rfl (by as_aux_lemma=>kernel_rfl) (by rfl) (by exact fun _ _ _ h=>h) ?_ ?_ ?_
     rotate_left
     ·intro w'
      go_simp
      with_reducible rfl
     rotate_left
     ·simp only [Act.put,List.setIfInBounds_toArray,List.set_cons_zero,List.set_cons_succ,i64_w,i32_w]
      rfl
     refine Cw.dpu (i:=8) (v:=?_) (a':=?_) (by simp only [List.getElem?_toArray,List.getElem?_cons_succ,List.getElem?_cons_zero];rfl) rfl (by as_aux_lemma=>kernel_rfl) (by rfl) (by exact fun _ _ _ h=>h) ?_ ?_ ?_
     rotate_left
     ·intro w'
      apply Eq.trans
      ·apply mb_ix95
       ·rfl
       ·rfl
       ·rfl
       ·exact hq8l
      ·rfl
     rotate_left
     ·simp only [Act.put,List.setIfInBounds_toArray,List.set_cons_zero,List.set_cons_succ,i64_w,i32_w]
      rfl
     refine Cw.lastD (i:=9) (N:=none) (by simp only [List.getElem?_toArray,List.getElem?_cons_succ,List.getElem?_cons_zero];rfl) rfl (by as_aux_lemma=>kernel_rfl) (by decide) (fun K hK=>?_)
     refine mb_do8 (wf:=wf) rfl rfl rfl rfl rfl (show wd.heap[g5]?=some (.cells (m8 (mkN l4 q)) 95 (0,0)) from (zbB (Aside0.out (by assumption)) (by repeat (first|exact Below.refl _ _|with_reducible apply zlN|with_reducible apply zlA|refine below_step ?_ (Aside0.out (by assumption)))))) (by rw [mkN_len];exact hq8l) (Kd.R_below ho.out hbd.out) (below_step hb.out hbd.out) hg5f (fun w2 h52 ho2 hb2=>?_)
     refine hK.out _ _ ?_
     clear hK K
     have h53:=zm (show w2.heap[g5]?=some (.cells (m8 (mkN l4 (q + 1))) 95 (0,0)) from by rw [mkN_yes hbq,mkN_rd hq8l];exact h52)
     clear h52
     have hh_:=zm ho2;clear ho2;have ho2:=hh_;clear hh_;have hh_:=zm hb2;clear hb2;have hb2:=hh_;clear hh_
     refine done_ (by as_aux_lemma=>kernel_rfl) ?_
     go_wp2
     go_roundw
     case rel=>exact ⟨q + 1,by first|with_reducible rfl|(rw [hqw];done)|rfl,⟨hql⟩,h53,ho2,hb2⟩
     case measure=>first|exact mb_m hql|(rw [hqw];exact mb_m hql)
    ·have hbq2:l4.getD q false=false:=by simpa using hbq
     rw [hbq2] at hx4
     go_wp2
     go_roundw
     case rel=>exact ⟨q + 1,by first|with_reducible rfl|(rw [hqw];done)|rfl,⟨hql⟩,⟨by rw [mkN_no hbq2];exact h5.out⟩,ho,hb⟩
     case measure=>first|exact mb_m hql|(rw [hqw];exact mb_m hql)
   ·obtain rfl:q=l4.length:=by have:=hq.out;omega
    have hd:decide ((l4.length:Int) < (l4.length:Int))=false:=decide_eq_false (by omega)
    have hLl:(mb1 a0 a1 a2 (l4.length + l6.length) ++ be 8 a3).length=24:=by rw [List.length_append,mb1_len,be_len]
    generalize hL:mb1 a0 a1 a2 (l4.length + l6.length) ++ be 8 a3=L at ho hLl
    obtain ⟨A9,c9,rfl⟩:=Kd.R_slice ho.out
    rw [hLl] at ho ⊢
    go_wp2_with (first|((with_reducible refine gate_ (.load 3 _) rfl ?_);refine Kd.event_run rfl (mb_c3 rfl rfl (zbB (Aside0.out (by assumption)) (by repeat (first|exact Below.refl _ _|with_reducible apply zlN|with_reducible apply zlA|refine below_step ?_ (Aside0.out (by assumption))))) rfl) ?_)|((with_reducible refine gate_ (.load 2 _) rfl ?_);refine Kd.event_run rfl (mb_c2 rfl rfl (zbB (Aside0.out (by assumption)) (by repeat (first|exact Below.refl _ _|with_reducible apply zlN|with_reducible apply zlA|refine below_step ?_ (Aside0.out (by assumption))))) rfl) ?_)|((with_reducible refine gate_ (.load 22 _) rfl ?_);refine Kd.event_run rfl (mb_c22 rfl rfl (zbB (Aside0.out (by assumption)) (by repeat (first|exact Below.refl _ _|with_reducible apply zlN|with_reducible apply zlA|refine below_step ?_ (Aside0.out (by assumption))))) rfl) ?_)|((with_reducible refine gate_ (.load 23 _) rfl ?_);refine Kd.event_run rfl (mb_c23 rfl rfl (zbB (Aside0.out (by assumption)) (by repeat (first|exact Below.refl _ _|with_reducible apply zlN|with_reducible apply zlA|refine below_step ?_ (Aside0.out (by assumption))))) rfl) ?_)|((with_reducible refine gate_ (.load 34 _) rfl ?_);refine Kd.event_run rfl (mb_c34 rfl rfl (zbB (Aside0.out (by assumption)) (by repeat (first|exact Below.refl _ _|with_reducible apply zlN|with_reducible apply zlA|refine below_step ?_ (Aside0.out (by assumption))))) rfl) ?_)|((with_reducible refine gate_builtin (b:=.append) (xs:=#[.tmp 62,.tmp 63]) rfl ?_);at_builtin;refine Kd.R_append_rows (Kd.int .u8) (w0:=wf) wf.heap.size rfl (.tmp 62) (.tmp 63) 67 5 (.int .u8 0) 1 rfl Try.underlying67 info5 rfl (by decide) (by omega) _ L (mkN l4 l4.length) _ _ _ (fun _=>True) (fun _=>False) rfl rfl ho.out (m8_C h5.out (mkN_len _ _) (by omega)) (fun _ _ h=>h) (fun _ h=>h.elim) (fun _ _=>trivial) hb.out (below_size hb.out) (by rw [hLl];omega) ?_;intro va w11 hoa hba hg hat;clear hg hat;have hh_:=zm hoa;clear hoa;have hoa:=hh_;clear hh_;have hh_:=zm hba;clear hba;have hba:=hh_;clear hh_;clear ho hb))
    have hL2l:(L ++ mkN l4 l4.length).length=32:=by rw [List.length_append,hLl,mkN_len]
    generalize hL2:L ++ mkN l4 l4.length=L2 at hoa hL2l
    have hC5:=zm (show Kd.C (Kd.int .i64) wf A5 l5.length l5 from (Kd.C_below (Aside0.out (by assumption)) (by repeat (first|exact Below.refl _ _|with_reducible apply zlN|with_reducible apply zlA|refine below_step ?_ (Aside0.out (by assumption))))))
    have hw5:=(hok.out)
    have hl5:l5.length≤64:=by unfold okB at hw5;omega
    clear hw5
    have hoa0:=zm (show (Kd.int .u8).R 5 w11 wf.heap.size (fun _=>True) va (L2 ++ (l5.take 0).flatMap (be 3)) from by rw [List.take_zero,List.flatMap_nil,List.append_nil];exact hoa.out)
    clear hoa
    go_loopw [4,68] (fun u v wi=>∃ q:Nat,v=.int .i64 (q:Int)∧Aside0 (q≤l5.length)∧Aside0 ((Kd.int .u8).R 5 wi wf.heap.size (fun _=>True) u (L2 ++ (l5.take q).flatMap (be 3)))∧Aside0 (Below wf.heap.size wf wi)) (fun _ v _=>l5.length - (intOf v).toNat)
    case atStart=>exact ⟨0,rfl,⟨Nat.zero_le _⟩,hoa0,hba⟩
    case round =>
     clear hoa0 hba
     obtain ⟨q,rfl,hq,ho,hb⟩:=hrel
     by_cases hql:q < l5.length
     ·have hd:decide ((q:Int) < (l5.length:Int))=true:=decide_eq_true (by omega)
      have hq0:0≤(q:Int):=Int.natCast_nonneg q
      have hq3:(q:Int) < (l5.length:Int):=Int.ofNat_lt.mpr hql
      obtain ⟨ad5,hA5,hx5⟩:=Kd.at_int (show Kd.C (Kd.int .i64) wr A5 l5.length l5 from (Kd.C_below (Aside0.out (by assumption)) (by repeat (first|exact Below.refl _ _|with_reducible apply zlN|with_reducible apply zlA|refine below_step ?_ (Aside0.out (by assumption)))))) (q:Int) hq0 hq3
      subst hA5
      rw [Int.toNat_natCast,mb_rd hql] at hx5
      have hqw:=mb_w (show q≤300 by omega)
      go_wp2_with fail
      refine (mb_num3 (w0:=wf) l5[q] (by rw [List.length_append,hL2l,flat_len (be 3) 3 (be_len 3),List.length_take];omega) hb.out ho.out).mono ?_
      rintro e w12 ⟨v12,rfl,ho2,hb2⟩
      rw [List.append_assoc,← flat_snoc _ _ _ hql] at ho2
      have hh_:=zm ho2;clear ho2;have ho2:=hh_;clear hh_;have hh_:=zm hb2;clear hb2;have hb2:=hh_;clear hh_
      go_wp2
      go_roundw
      case rel=>exact ⟨q + 1,by first|with_reducible rfl|(rw [hqw];done)|rfl,⟨hql⟩,ho2,hb2⟩
      case measure=>first|exact mb_m hql|(rw [hqw];exact mb_m hql)
     ·obtain rfl:q=l5.length:=by have:=hq.out;omega
      have hd:decide ((l5.length:Int) < (l5.length:Int))=false:=decide_eq_false (by omega)
      rw [List.take_length,← hL2,← hL] at ho
      have ho3:=zm (show (Kd.int .u8).R 5 wr wf.heap.size (fun _=>True) _ (mb2 a0 a1 a2 a3 l4 l5 (l4.length + l6.length)) from by unfold mb2;rw [if_pos h1];exact ho.out)
      clear ho hL hL2
      go_wp2_with (first|((with_reducible refine gate_ (.load 3 _) rfl ?_);refine Kd.event_run rfl (mb_c3 rfl rfl (zbB (Aside0.out (by assumption)) (by repeat (first|exact Below.refl _ _|with_reducible apply zlN|with_reducible apply zlA|refine below_step ?_ (Aside0.out (by assumption))))) rfl) ?_)|((with_reducible refine gate_ (.load 2 _) rfl ?_);refine Kd.event_run rfl (mb_c2 rfl rfl (zbB (Aside0.out (by assumption)) (by repeat (first|exact Below.refl _ _|with_reducible apply zlN|with_reducible apply zlA|refine below_step ?_ (Aside0.out (by assumption))))) rfl) ?_)|((with_reducible refine gate_ (.load 22 _) rfl ?_);refine Kd.event_run rfl (mb_c22 rfl rfl (zbB (Aside0.out (by assumption)) (by repeat (first|exact Below.refl _ _|with_reducible apply zlN|with_reducible apply zlA|refine below_step ?_ (Aside0.out (by assumption))))) rfl) ?_)|((with_reducible refine gate_ (.load 23 _) rfl ?_);refine Kd.event_run rfl (mb_c23 rfl rfl (zbB (Aside0.out (by assumption)) (by repeat (first|exact Below.refl _ _|with_reducible apply zlN|with_reducible apply zlA|refine below_step ?_ (Aside0.out (by assumption))))) rfl) ?_)|((with_reducible refine gate_ (.load 34 _) rfl ?_);refine Kd.event_run rfl (mb_c34 rfl rfl (zbB (Aside0.out (by assumption)) (by repeat (first|exact Below.refl _ _|with_reducible apply zlN|with_reducible apply zlA|refine below_step ?_ (Aside0.out (by assumption))))) rfl) ?_))
      have hbl:=mb2_len hok.out a1 a2 a3
      generalize hb2e:mb2 a0 a1 a2 a3 l4 l5 (l4.length + l6.length)=b2 at ho3 hbl
      have hh_:=zm hbl;clear hbl;have hbl:=hh_;clear hh_
      have hC6:=zm (show Kd.C k55 wf A6 l6.length l6 from (Kd.C_below (Aside0.out (by assumption)) (by repeat (first|exact Below.refl _ _|with_reducible apply zlN|with_reducible apply zlA|refine below_step ?_ (Aside0.out (by assumption))))))
      have hr0:=zm (show (Kd.int .u8).R 5 _ wf.heap.size (fun _=>True) _ (b2 ++ (l6.take 0).flatMap mbRec) from by rw [List.take_zero,List.flatMap_nil,List.append_nil];exact ho3.out)
      have hl6:=mb_l6 hok.out
      go_loopw [4,79] (fun u v wi=>∃ q:Nat,v=.int .i64 (q:Int)∧Aside0 (q≤l6.length)∧Aside0 ((Kd.int .u8).R 5 wi wf.heap.size (fun _=>True) u (b2 ++ (l6.take q).flatMap mbRec))∧Aside0 (Below wf.heap.size wf wi)) (fun _ v _=>l6.length - (intOf v).toNat)
      case atStart=>exact ⟨0,rfl,⟨Nat.zero_le _⟩,hr0,hb⟩
      case round =>
       clear hr0 hb ho3
       obtain ⟨q,rfl,hq,ho,hb⟩:=hrel
       by_cases hql:q < l6.length
       ·have hd:decide ((q:Int) < (l6.length:Int))=true:=decide_eq_true (by omega)
        have hq0:0≤(q:Int):=Int.natCast_nonneg q
        have hq3:(q:Int) < (l6.length:Int):=Int.ofNat_lt.mpr hql
        obtain ⟨ad6,hA6,hx0,hx1,hx2⟩:=at_T55 (show Kd.C k55 wr A6 l6.length l6 from (Kd.C_below (Aside0.out (by assumption)) (by repeat (first|exact Below.refl _ _|with_reducible apply zlN|with_reducible apply zlA|refine below_step ?_ (Aside0.out (by assumption)))))) (q:Int) hq0 hq3
        subst hA6
        rw [Int.toNat_natCast,mb_rdT hql] at hx0 hx1 hx2
        have hh_:=zm hx0;clear hx0;have hx0:=hh_;clear hh_;have hh_:=zm hx1;clear hx1;have hx1:=hh_;clear hh_;have hh_:=zm hx2;clear hx2;have hx2:=hh_;clear hh_
        have hqw:=mb_w (show q≤300 by omega)
        have hu55:=Try.underlying55
        go_wp2_with (first|((with_reducible refine gate_ (.alloc 55) rfl ?_);refine Cw.box_store rfl rfl rfl rfl rfl rfl (by first|(go_simp;done)|(go_simp;rfl)) (by first|(go_simp;done)|(go_simp;rfl)) ?_;rintro g11 hg wk hbk_ hb_;clear hg;have hh_:=zm hbk_;clear hbk_;have hbk_:=hh_;clear hh_;have hh_:=zm hb_;clear hb_;have hb_:=hh_;clear hh_)|((with_reducible refine gate_dst (N:=82) rfl ?_);refine Kd.event_run rfl (by apply mb_ld55;exact rfl;exact rfl;exact hx0.out;exact hx1.out;exact hx2.out) ?_))
        have hbw:=hb_.out
        refine mb_startS (fun w'=>Below wf.heap.size wf w'∧w'.heap[g11]?=some (.cells #[.int .i64 l6[q].f0,.int .i64 l6[q].f1,.int .i64 l6[q].f2] 55 (0,0))) [11] (by as_aux_lemma=>kernel_rfl) rfl (fun wd h_=>⟨below_step (below_step hb.out hbw) h_,zbB hbk_.out h_⟩) (fun wd h_=>?_)
        have hS:=(⟨below_step (below_step hb.out hbw) h_,zbB hbk_.out h_⟩:Below wf.heap.size wf wd∧wd.heap[g11]?=some (.cells #[.int .i64 l6[q].f0,.int .i64 l6[q].f1,.int .i64 l6[q].f2] 55 (0,0)))
        have hod:=zm (Kd.R_below ho.out (below_step hbw h_))
        clear hbw hbk_ hb_ h_
        refine Cw.dpu (i:=0) (v:=?_) (a':=?_) (by simp only [List.getElem?_toArray,List.getElem?_cons_succ,List.getElem?_cons_zero];rfl) rfl (by as_aux_lemma=>kernel_rfl) (by rfl) (by exact fun _ _ _ h=>h) ?_ ?_ ?_
        rotate_left
        ·intro w'
         go_simp
         with_reducible rfl
        rotate_left
        ·simp only [Act.put,List.setIfInBounds_toArray,List.set_cons_zero,List.set_cons_succ,i64_w,i32_w]
         rfl
        refine Cw.dpu (i:=1) (v:=?_) (a':=?_) (by simp only [List.getElem?_toArray,List.getElem?_cons_succ,List.getElem?_cons_zero];rfl) rfl (by as_aux_lemma=>kernel_rfl) (by rfl) (by exact fun _ _ _ h=>h) ?_ ?_ ?_
        rotate_left
        ·intro w'
         go_simp
         with_reducible rfl
        rotate_left
        ·simp only [Act.put,List.setIfInBounds_toArray,List.set_cons_zero,List.set_cons_succ,i64_w,i32_w]
         rfl
        refine Cw.dtkD (i:=2) (v:=?_) (a':=?_) (by simp only [List.getElem?_toArray,List.getElem?_cons_succ,List.getElem?_cons_zero];rfl) rfl (by as_aux_lemma=>kernel_rfl) (by rfl) (by exact fun _ _ _ h=>h) ?_ hS ?_ ?_
        rotate_left
        ·intro w' hs_
         apply Eq.trans
         ·apply mb_c3
          ·rfl
          ·rfl
          ·exact hs_.2
          ·rfl
         ·rfl
        rotate_left
        ·simp only [Act.put,List.setIfInBounds_toArray,List.set_cons_zero,List.set_cons_succ,i64_w,i32_w]
         rfl
        refine Cw.dpu (i:=3) (v:=?_) (a':=?_) (by simp only [List.getElem?_toArray,List.getElem?_cons_succ,List.getElem?_cons_zero];rfl) rfl (by as_aux_lemma=>kernel_rfl) (by rfl) (by exact fun _ _ _ h=>h) ?_ ?_ ?_
        rotate_left
        ·intro w'
         go_simp
         with_reducible rfl
        rotate_left
        ·simp only [Act.put,List.setIfInBounds_toArray,List.set_cons_zero,List.set_cons_succ,i64_w,i32_w]
         rfl
        refine Cw.dpu (i:=4) (v:=?_) (a':=?_) (by simp only [List.getElem?_toArray,List.getElem?_cons_succ,List.getElem?_cons_zero];rfl) rfl (by as_aux_lemma=>kernel_rfl) (by rfl) (by exact fun _ _ _ h=>h) ?_ ?_ ?_
        rotate_left
        ·intro w'
         go_simp
         with_reducible rfl
        rotate_left
        ·simp only [Act.put,List.setIfInBounds_toArray,List.set_cons_zero,List.set_cons_succ,i64_w,i32_w]
         rfl
        refine Cw.dtkD (i:=5) (v:=?_) (a':=?_) (by simp only [List.getElem?_toArray,List.getElem?_cons_succ,List.getElem?_cons_zero];rfl) rfl (by as_aux_lemma=>kernel_rfl) (by rfl) (by exact fun _ _ _ h=>h) ?_ hS ?_ ?_
        rotate_left
        ·intro w' hs_
         apply Eq.trans
         ·apply mb_c3
          ·rfl
          ·rfl
          ·exact hs_.2
          ·rfl
         ·rfl
        rotate_left
        ·simp only [Act.put,List.setIfInBounds_toArray,List.set_cons_zero,List.set_cons_succ,i64_w,i32_w]
         rfl
        refine Cw.dpu (i:=6) (v:=?_) (a':=?_) (by simp only [List.getElem?_toArray,List.getElem?_cons_succ,List.getElem?_cons_zero];rfl) rfl (by as_aux_lemma=>kernel_rfl) (by rfl) (by exact fun _ _ _ h=>h) ?_ ?_ ?_
        rotate_left
        ·intro w'
         go_simp
         with_reducible rfl
        rotate_left
        ·simp only [Act.put,List.setIfInBounds_toArray,List.set_cons_zero,List.set_cons_succ,i64_w,i32_w]
         rfl
        refine Cw.dpu (i:=9) (v:=?_) (a':=?_) (by simp only [List.getElem?_toArray,List.getElem?_cons_succ,List.getElem?_cons_zero];rfl) rfl (by as_aux_lemma=>kernel_rfl) (by rfl) (by exact fun _ _ _ h=>h) ?_ ?_ ?_
        rotate_left
        ·intro w'
         go_simp
         with_reducible rfl
        rotate_left
        ·simp only [Act.put,List.setIfInBounds_toArray,List.set_cons_zero,List.set_cons_succ,i64_w,i32_w]
         rfl
        refine Cw.dtkD (i:=10) (v:=?_) (a':=?_) (by simp only [List.getElem?_toArray,List.getElem?_cons_succ,List.getElem?_cons_zero];rfl) rfl (by as_aux_lemma=>kernel_rfl) (by rfl) (by exact fun _ _ _ h=>h) ?_ hS ?_ ?_
        rotate_left
        ·intro w' hs_
         apply Eq.trans
         ·apply mb_c2
          ·rfl
          ·rfl
          ·exact hs_.2
          ·rfl
         ·rfl
        rotate_left
        ·simp only [Act.put,List.setIfInBounds_toArray,List.set_cons_zero,List.set_cons_succ,i64_w,i32_w]
         rfl
        refine Cw.done1D (i:=7) (N:=some 90) (by simp only [List.getElem?_toArray,List.getElem?_cons_succ,List.getElem?_cons_zero];rfl) rfl (by as_aux_lemma=>kernel_rfl) (by decide) (fun K hK=>?_)
        refine Cw.dnew (fun g=>.slice (some ⟨g,0,none⟩) 2 2) (cs:=#[.int .u8 (l6[q].f0 % 256),.int .u8 (l6[q].f1 % 256)]) (t:=5) (by rfl) rfl (by first|(go_simp;done)|(go_simp;rfl)) ?_
        rintro g90 hg w90 hbk9 hb9
        have hS9:Below wf.heap.size wf w90∧w90.heap[g11]?=some (.cells #[.int .i64 l6[q].f0,.int .i64 l6[q].f1,.int .i64 l6[q].f2] 55 (0,0)):=⟨below_step hS.1 hb9,zbB hS.2 hb9⟩
        have ho9:=zm (Kd.R_below hod.out hb9)
        clear hS hod hg hb9
        refine hK.out _ _ hS9 (fun _=>?_)
        clear hK K
        refine norm_ (a':=?_) ?_ ?_
        rotate_left
        ·show Act.put _ (some 90) _=_
         simp only [Act.put,List.setIfInBounds_toArray,List.set_cons_zero,List.set_cons_succ,i64_w,i32_w]
         rfl
        refine Cw.done1D (i:=8) (N:=some 91) (by simp only [List.getElem?_toArray,List.getElem?_cons_succ,List.getElem?_cons_zero];rfl) rfl (by as_aux_lemma=>kernel_rfl) (by decide) (fun K hK=>?_)
        have hC9:=Cw.C_ints (k:=.u8) (xs:=[l6[q].f0 % 256,l6[q].f1 % 256]) hbk9 rfl (by simp)
        have hlq:=mb_bl (b2:=b2) hql
        apply Kd.R_append_rows_step (Kd.int .u8) (w0:=wf) wf.heap.size (by rfl) (.tmp 83) (.tmp 90) 67 5 (.int .u8 0) 1 rfl Try.underlying67 info5 rfl (by decide) (by decide) (xs:=b2 ++ (l6.take q).flatMap mbRec) (ys:=[l6[q].f0 % 256,l6[q].f1 % 256]) (ok:=fun _=>True) (okp:=fun _=>False) (HO:=ho9.out) (HR:=hC9) (hKM:=fun _ _ h=>h) (hokp:=fun _ h=>h.elim) (hfresh:=fun _ _=>trivial) (HB:=hS9.1) (hbase:=below_size hS9.1)
        case hs=>rfl
        case hx=>rfl
        case hl=>rw [hlq];exact mb_cap hbl.out hql
        clear hC9 hlq
        intro v91 w91 ho91 hb91 hg91 hat
        refine hK.out _ _ ⟨hb91,(hg91.block g11 (blk_lt hS9.2) (Kd.R_ne ho9.out hS9.2 (by decide))).trans hS9.2⟩ (fun _=>?_)
        clear hK K hat hg91 hS9 ho9 hbk9
        refine norm_ (a':=?_) ?_ ?_
        rotate_left
        ·show Act.put _ (some 91) _=_
         simp only [Act.put,List.setIfInBounds_toArray,List.set_cons_zero,List.set_cons_succ,i64_w,i32_w]
         rfl
        refine Cw.lastD (i:=11) (N:=some 94) (by simp only [List.getElem?_toArray,List.getElem?_cons_succ,List.getElem?_cons_zero];rfl) rfl (by as_aux_lemma=>kernel_rfl) (by decide) (fun K hK=>?_)
        refine goes_ Try.func76 (by as_aux_lemma=>kernel_rfl) rfl _ (by rfl) rfl rfl (by go_simp;rfl) ?_
        refine (mb_num8 (w0:=wf) l6[q].f2 (mb_cap9 hbl.out hql) hb91 ho91).mono ?_
        clear ho91 hb91
        rintro e w94 ⟨v94,rfl,ho94,hb94⟩
        rw [mb_snoc hql] at ho94
        have hh_:=zm ho94;clear ho94;have ho94:=hh_;clear hh_
        have hh_:=zm hb94;clear hb94;have hb94:=hh_;clear hh_
        refine ⟨_,rfl,?_⟩
        refine hK.out _ _ ?_
        clear hK K
        refine norm_ (a':=?_) ?_ ?_
        rotate_left
        ·show Act.put _ (some 94) _=_
         simp only [Act.put,List.setIfInBounds_toArray,List.set_cons_zero,List.set_cons_succ,i64_w,i32_w]
         rfl
        refine Cw.dpu (i:=12) (v:=?_) (a':=?_) (by simp only [List.getElem?_toArray,List.getElem?_cons_succ,List.getElem?_cons_zero];rfl) rfl (by as_aux_lemma=>kernel_rfl) (by rfl) (by exact fun _ _ _ h=>h) ?_ ?_ ?_
        rotate_left
        ·intro w'
         go_simp
         with_reducible rfl
        rotate_left
        ·simp only [Act.put,List.setIfInBounds_toArray,List.set_cons_zero,List.set_cons_succ,i64_w,i32_w]
         rfl
        refine done_ (by as_aux_lemma=>kernel_rfl) ?_
        go_wp2
        go_roundw
        case rel=>exact ⟨q + 1,by first|with_reducible rfl|(rw [hqw];done)|rfl,⟨hql⟩,ho94,hb94⟩
        case measure=>first|exact mb_m hql|(rw [hqw];exact mb_m hql)
       ·obtain rfl:q=l6.length:=by have:=hq.out;omega
        have hd:decide ((l6.length:Int) < (l6.length:Int))=false:=decide_eq_false (by omega)
        rw [List.take_length] at ho
        have hl3:(b2 ++ l6.flatMap mbRec).length≤256:=mb3_len hbl.out
        have hl3p:0 < (b2 ++ l6.flatMap mbRec).length:=by rw [List.length_append,← hb2e];exact mb3_pos _ _ _ _ _ _ _ _
        generalize hb3e:b2 ++ l6.flatMap mbRec=b3 at ho hl3 hl3p
        have hh_:=zm hl3;clear hl3;have hl3:=hh_;clear hh_;have hh_:=zm hl3p;clear hl3p;have hl3p:=hh_;clear hh_
        obtain ⟨A3,c3,rfl⟩:=Kd.R_slice ho.out
        go_wp2_with (first|((with_reducible refine gate_dst (N:=96) rfl ?_);refine Kd.R_make (Kd.int .u8) (w0:=wf) wf.heap.size 5 rfl (N:=96) rfl 67 _ _ rfl 256 rfl rfl Try.underlying67 (.int .u8 0) 1 info5 rfl (by decide) (by omega) 0 (ok:=fun _=>True) (okp:=fun _=>True) rfl (fun _ hk=>hk) trivial (by omega) (by omega) hb.out (below_size hb.out) ?_;intro vo wo hoo hbo hgo hno;have hob:=Kd.R_grown ho.out hgo (fun k _ h=>by cases h);clear hgo hno;obtain ⟨Ao,co,rfl⟩:=Kd.R_slice hoo;have hh_:=zm hoo;clear hoo;have hoo:=hh_;clear hh_;have hh_:=zm hbo;clear hbo;have hbo:=hh_;clear hh_;have hh_:=zm hob;clear hob;have hob:=hh_;clear hh_)|((with_reducible refine gate_builtin (b:=.copy) (xs:=#[.tmp 97,.tmp 98]) rfl ?_);refine Cw.R_copy_in (0:Int) (w0:=wf) wf.heap.size rfl (.tmp 97) (.tmp 98) 67 5 rfl Try.underlying67 (.int .u8 0) 1 info5 _ Ao co (List.replicate 256 0) b3 rfl 0 256 co (by rw [Cw.map_add0];rfl) A3 c3 rfl hoo.out (Kd.R_reads' hob.out).2.2 (by have:=hl3.out;omega) (by have:=hl3.out;simp only [List.length_replicate];omega) hl3p.out hbo.out ?_;intro wF hof hbf hg;clear hg;have hh_:=zm hof;clear hof;have hof:=hh_;clear hh_;have hh_:=zm hbf;clear hbf;have hbf:=hh_;clear hh_))
        go_ret2
        refine ⟨_,rfl,?_,(by repeat (first|exact Below.refl _ _|with_reducible apply zlN|with_reducible apply zlA|refine below_step ?_ (Aside0.out (by assumption))))⟩
        have:=hof.out
        rw [List.drop_replicate] at this
        show Kd.R (Kd.int .u8) 5 _ w.heap.size (fun _=>True) _ (mbo a0 a1 a2 a3 l4 l5 l6)
        have e3:mb3 a0 a1 a2 a3 l4 l5 l6=b3:=by rw [← hb3e,← hb2e];rfl
        unfold mbo
        rw [e3]
        rw [List.take_zero,List.nil_append,Nat.zero_add] at this
        exact Kd.R_lower (d:=Kd.int .u8) this (below_size (by repeat (first|exact Below.refl _ _|with_reducible apply zlN|with_reducible apply zlA|refine below_step ?_ (Aside0.out (by assumption)))))
 ·have h1b:(a0 == 1)=false:=beq_eq_false_iff_ne.mpr h1
  go_wp2_with (first|((with_reducible refine gate_ (.load 3 _) rfl ?_);refine Kd.event_run rfl (mb_c3 rfl rfl (zbB (Aside0.out (by assumption)) (by repeat (first|exact Below.refl _ _|with_reducible apply zlN|with_reducible apply zlA|refine below_step ?_ (Aside0.out (by assumption))))) rfl) ?_)|((with_reducible refine gate_ (.load 2 _) rfl ?_);refine Kd.event_run rfl (mb_c2 rfl rfl (zbB (Aside0.out (by assumption)) (by repeat (first|exact Below.refl _ _|with_reducible apply zlN|with_reducible apply zlA|refine below_step ?_ (Aside0.out (by assumption))))) rfl) ?_)|((with_reducible refine gate_ (.load 22 _) rfl ?_);refine Kd.event_run rfl (mb_c22 rfl rfl (zbB (Aside0.out (by assumption)) (by repeat (first|exact Below.refl _ _|with_reducible apply zlN|with_reducible apply zlA|refine below_step ?_ (Aside0.out (by assumption))))) rfl) ?_)|((with_reducible refine gate_ (.load 23 _) rfl ?_);refine Kd.event_run rfl (mb_c23 rfl rfl (zbB (Aside0.out (by assumption)) (by repeat (first|exact Below.refl _ _|with_reducible apply zlN|with_reducible apply zlA|refine below_step ?_ (Aside0.out (by assumption))))) rfl) ?_)|((with_reducible refine gate_ (.load 34 _) rfl ?_);refine Kd.event_run rfl (mb_c34 rfl rfl (zbB (Aside0.out (by assumption)) (by repeat (first|exact Below.refl _ _|with_reducible apply zlN|with_reducible apply zlA|refine below_step ?_ (Aside0.out (by assumption))))) rfl) ?_))
  have ho3:=zm (show (Kd.int .u8).R 5 w8 wf.heap.size (fun _=>True) v8 (mb2 a0 a1 a2 a3 l4 l5 (l4.length + l6.length)) from by unfold mb2;rw [if_neg h1];exact ho.out)
  clear ho
  have hbl:=mb2_len hok.out a1 a2 a3
  generalize hb2e:mb2 a0 a1 a2 a3 l4 l5 (l4.length + l6.length)=b2 at ho3 hbl
  have hh_:=zm hbl;clear hbl;have hbl:=hh_;clear hh_
  have hC6:=zm (show Kd.C k55 wf A6 l6.length l6 from (Kd.C_below (Aside0.out (by assumption)) (by repeat (first|exact Below.refl _ _|with_reducible apply zlN|with_reducible apply zlA|refine below_step ?_ (Aside0.out (by assumption))))))
  have hr0:=zm (show (Kd.int .u8).R 5 _ wf.heap.size (fun _=>True) _ (b2 ++ (l6.take 0).flatMap mbRec) from by rw [List.take_zero,List.flatMap_nil,List.append_nil];exact ho3.out)
  have hl6:=mb_l6 hok.out
  go_loopw [4,79] (fun u v wi=>∃ q:Nat,v=.int .i64 (q:Int)∧Aside0 (q≤l6.length)∧Aside0 ((Kd.int .u8).R 5 wi wf.heap.size (fun _=>True) u (b2 ++ (l6.take q).flatMap mbRec))∧Aside0 (Below wf.heap.size wf wi)) (fun _ v _=>l6.length - (intOf v).toNat)
  case atStart=>exact ⟨0,rfl,⟨Nat.zero_le _⟩,hr0,hb⟩
  case round =>
   clear hr0 hb ho3
   obtain ⟨q,rfl,hq,ho,hb⟩:=hrel
   by_cases hql:q < l6.length
   ·have hd:decide ((q:Int) < (l6.length:Int))=true:=decide_eq_true (by omega)
    have hq0:0≤(q:Int):=Int.natCast_nonneg q
    have hq3:(q:Int) < (l6.length:Int):=Int.ofNat_lt.mpr hql
    obtain ⟨ad6,hA6,hx0,hx1,hx2⟩:=at_T55 (show Kd.C k55 wr A6 l6.length l6 from (Kd.C_below (Aside0.out (by assumption)) (by repeat (first|exact Below.refl _ _|with_reducible apply zlN|with_reducible apply zlA|refine below_step ?_ (Aside0.out (by assumption)))))) (q:Int) hq0 hq3
    subst hA6
    rw [Int.toNat_natCast,mb_rdT hql] at hx0 hx1 hx2
    have hh_:=zm hx0;clear hx0;have hx0:=hh_;clear hh_;have hh_:=zm hx1;clear hx1;have hx1:=hh_;clear hh_;have hh_:=zm hx2;clear hx2;have hx2:=hh_;clear hh_
    have hqw:=mb_w (show q≤300 by omega)
    have hu55:=Try.underlying55
    go_wp2_with (first|((with_reducible refine gate_ (.alloc 55) rfl ?_);refine Cw.box_store rfl rfl rfl rfl rfl rfl (by first|(go_simp;done)|(go_simp;rfl)) (by first|(go_simp;done)|(go_simp;rfl)) ?_;rintro g11 hg wk hbk_ hb_;clear hg;have hh_:=zm hbk_;clear hbk_;have hbk_:=hh_;clear hh_;have hh_:=zm hb_;clear hb_;have hb_:=hh_;clear hh_)|((with_reducible refine gate_dst (N:=82) rfl ?_);refine Kd.event_run rfl (by apply mb_ld55;exact rfl;exact rfl;exact hx0.out;exact hx1.out;exact hx2.out) ?_))
    have hbw:=hb_.out
    refine mb_startS (fun w'=>Below wf.heap.size wf w'∧w'.heap[g11]?=some (.cells #[.int .i64 l6[q].f0,.int .i64 l6[q].f1,.int .i64 l6[q].f2] 55 (0,0))) [11] (by as_aux_lemma=>kernel_rfl) rfl (fun wd h_=>⟨below_step (below_step hb.out hbw) h_,zbB hbk_.out h_⟩) (fun wd h_=>?_)
    have hS:=(⟨below_step (below_step hb.out hbw) h_,zbB hbk_.out h_⟩:Below wf.heap.size wf wd∧wd.heap[g11]?=some (.cells #[.int .i64 l6[q].f0,.int .i64 l6[q].f1,.int .i64 l6[q].f2] 55 (0,0)))
    have hod:=zm (Kd.R_below ho.out (below_step hbw h_))
    clear hbw hbk_ hb_ h_
    refine Cw.dpu (i:=0) (v:=?_) (a':=?_) (by simp only [List.getElem?_toArray,List.getElem?_cons_succ,List.getElem?_cons_zero];rfl) rfl (by as_aux_lemma=>kernel_rfl) (by rfl) (by exact fun _ _ _ h=>h) ?_ ?_ ?_
    rotate_left
    ·intro w'
     go_simp
     with_reducible rfl
    rotate_left
    ·simp only [Act.put,List.setIfInBounds_toArray,List.set_cons_zero,List.set_cons_succ,i64_w,i32_w]
     rfl
    refine Cw.dpu (i:=1) (v:=?_) (a':=?_) (by simp only [List.getElem?_toArray,List.getElem?_cons_succ,List.getElem?_cons_zero];rfl) rfl (by as_aux_lemma=>kernel_rfl) (by rfl) (by exact fun _ _ _ h=>h) ?_ ?_ ?_
    rotate_left
    ·intro w'
     go_simp
     with_reducible rfl
    rotate_left
    ·simp only [Act.put,List.setIfInBounds_toArray,List.set_cons_zero,List.set_cons_succ,i64_w,i32_w]
     rfl
    refine Cw.dtkD (i:=2) (v:=?_) (a':=?_) (by simp only [List.getElem?_toArray,List.getElem?_cons_succ,List.getElem?_cons_zero];rfl) rfl (by as_aux_lemma=>kernel_rfl) (by rfl) (by exact fun _ _ _ h=>h) ?_ hS ?_ ?_
    rotate_left
    ·intro w' hs_
     apply Eq.trans
     ·apply mb_c3
      ·rfl
      ·rfl
      ·exact hs_.2
      ·rfl
     ·rfl
    rotate_left
    ·simp only [Act.put,List.setIfInBounds_toArray,List.set_cons_zero,List.set_cons_succ,i64_w,i32_w]
     rfl
    refine Cw.dpu (i:=3) (v:=?_) (a':=?_) (by simp only [List.getElem?_toArray,List.getElem?_cons_succ,List.getElem?_cons_zero];rfl) rfl (by as_aux_lemma=>kernel_rfl) (by rfl) (by exact fun _ _ _ h=>h) ?_ ?_ ?_
    rotate_left
    ·intro w'
     go_simp
     with_reducible rfl
    rotate_left
    ·simp only [Act.put,List.setIfInBounds_toArray,List.set_cons_zero,List.set_cons_succ,i64_w,i32_w]
     rfl
    refine Cw.dpu (i:=4) (v:=?_) (a':=?_) (by simp only [List.getElem?_toArray,List.getElem?_cons_succ,List.getElem?_cons_zero];rfl) rfl (by as_aux_lemma=>kernel_rfl) (by rfl) (by exact fun _ _ _ h=>h) ?_ ?_ ?_
    rotate_left
    ·intro w'
     go_simp
     with_reducible rfl
    rotate_left
    ·simp only [Act.put,List.setIfInBounds_toArray,List.set_cons_zero,List.set_cons_succ,i64_w,i32_w]
     rfl
    refine Cw.dtkD (i:=5) (v:=?_) (a':=?_) (by simp only [List.getElem?_toArray,List.getElem?_cons_succ,List.getElem?_cons_zero];rfl) rfl (by as_aux_lemma=>kernel_rfl) (by rfl) (by exact fun _ _ _ h=>h) ?_ hS ?_ ?_
    rotate_left
    ·intro w' hs_
     apply Eq.trans
     ·apply mb_c3
      ·rfl
      ·rfl
      ·exact hs_.2
      ·rfl
     ·rfl
    rotate_left
    ·simp only [Act.put,List.setIfInBounds_toArray,List.set_cons_zero,List.set_cons_succ,i64_w,i32_w]
     rfl
    refine Cw.dpu (i:=6) (v:=?_) (a':=?_) (by simp only [List.getElem?_toArray,List.getElem?_cons_succ,List.getElem?_cons_zero];rfl) rfl (by as_aux_lemma=>kernel_rfl) (by rfl) (by exact fun _ _ _ h=>h) ?_ ?_ ?_
    rotate_left
    ·intro w'
     go_simp
     with_reducible rfl
    rotate_left
    ·simp only [Act.put,List.setIfInBounds_toArray,List.set_cons_zero,List.set_cons_succ,i64_w,i32_w]
     rfl
    refine Cw.dpu (i:=9) (v:=?_) (a':=?_) (by simp only [List.getElem?_toArray,List.getElem?_cons_succ,List.getElem?_cons_zero];rfl) rfl (by as_aux_lemma=>kernel_rfl) (by rfl) (by exact fun _ _ _ h=>h) ?_ ?_ ?_
    rotate_left
    ·intro w'
     go_simp
     with_reducible rfl
    rotate_left
    ·simp only [Act.put,List.setIfInBounds_toArray,List.set_cons_zero,List.set_cons_succ,i64_w,i32_w]
     rfl
    refine Cw.dtkD (i:=10) (v:=?_) (a':=?_) (by simp only [List.getElem?_toArray,List.getElem?_cons_succ,List.getElem?_cons_zero];rfl) rfl (by as_aux_lemma=>kernel_rfl) (by rfl) (by exact fun _ _ _ h=>h) ?_ hS ?_ ?_
    rotate_left
    ·intro w' hs_
     apply Eq.trans
     ·apply mb_c2
      ·rfl
      ·rfl
      ·exact hs_.2
      ·rfl
     ·rfl
    rotate_left
    ·simp only [Act.put,List.setIfInBounds_toArray,List.set_cons_zero,List.set_cons_succ,i64_w,i32_w]
     rfl
    refine Cw.done1D (i:=7) (N:=some 90) (by simp only [List.getElem?_toArray,List.getElem?_cons_succ,List.getElem?_cons_zero];rfl) rfl (by as_aux_lemma=>kernel_rfl) (by decide) (fun K hK=>?_)
    refine Cw.dnew (fun g=>.slice (some ⟨g,0,none⟩) 2 2) (cs:=#[.int .u8 (l6[q].f0 % 256),.int .u8 (l6[q].f1 % 256)]) (t:=5) (by rfl) rfl (by first|(go_simp;done)|(go_simp;rfl)) ?_
    rintro g90 hg w90 hbk9 hb9
    have hS9:Below wf.heap.size wf w90∧w90.heap[g11]?=some (.cells #[.int .i64 l6[q].f0,.int .i64 l6[q].f1,.int .i64 l6[q].f2] 55 (0,0)):=⟨below_step hS.1 hb9,zbB hS.2 hb9⟩
    have ho9:=zm (Kd.R_below hod.out hb9)
    clear hS hod hg hb9
    refine hK.out _ _ hS9 (fun _=>?_)
    clear hK K
    refine norm_ (a':=?_) ?_ ?_
    rotate_left
    ·show Act.put _ (some 90) _=_
     simp only [Act.put,List.setIfInBounds_toArray,List.set_cons_zero,List.set_cons_succ,i64_w,i32_w]
     rfl
    refine Cw.done1D (i:=8) (N:=some 91) (by simp only [List.getElem?_toArray,List.getElem?_cons_succ,List.getElem?_cons_zero];rfl) rfl (by as_aux_lemma=>kernel_rfl) (by decide) (fun K hK=>?_)
    have hC9:=Cw.C_ints (k:=.u8) (xs:=[l6[q].f0 % 256,l6[q].f1 % 256]) hbk9 rfl (by simp)
    have hlq:=mb_bl (b2:=b2) hql
    apply Kd.R_append_rows_step (Kd.int .u8) (w0:=wf) wf.heap.size (by rfl) (.tmp 83) (.tmp 90) 67 5 (.int .u8 0) 1 rfl Try.underlying67 info5 rfl (by decide) (by decide) (xs:=b2 ++ (l6.take q).flatMap mbRec) (ys:=[l6[q].f0 % 256,l6[q].f1 % 256]) (ok:=fun _=>True) (okp:=fun _=>False) (HO:=ho9.out) (HR:=hC9) (hKM:=fun _ _ h=>h) (hokp:=fun _ h=>h.elim) (hfresh:=fun _ _=>trivial) (HB:=hS9.1) (hbase:=below_size hS9.1)
    case hs=>rfl
    case hx=>rfl
    case hl=>rw [hlq];exact mb_cap hbl.out hql
    clear hC9 hlq
    intro v91 w91 ho91 hb91 hg91 hat
    refine hK.out _ _ ⟨hb91,(hg91.block g11 (blk_lt hS9.2) (Kd.R_ne ho9.out hS9.2 (by decide))).trans hS9.2⟩ (fun _=>?_)
    clear hK K hat hg91 hS9 ho9 hbk9
    refine norm_ (a':=?_) ?_ ?_
    rotate_left
    ·show Act.put _ (some 91) _=_
     simp only [Act.put,List.setIfInBounds_toArray,List.set_cons_zero,List.set_cons_succ,i64_w,i32_w]
     rfl
    refine Cw.lastD (i:=11) (N:=some 94) (by simp only [List.getElem?_toArray,List.getElem?_cons_succ,List.getElem?_cons_zero];rfl) rfl (by as_aux_lemma=>kernel_rfl) (by decide) (fun K hK=>?_)
    refine goes_ Try.func76 (by as_aux_lemma=>kernel_rfl) rfl _ (by rfl) rfl rfl (by go_simp;rfl) ?_
    refine (mb_num8 (w0:=wf) l6[q].f2 (mb_cap9 hbl.out hql) hb91 ho91).mono ?_
    clear ho91 hb91
    rintro e w94 ⟨v94,rfl,ho94,hb94⟩
    rw [mb_snoc hql] at ho94
    have hh_:=zm ho94;clear ho94;have ho94:=hh_;clear hh_
    have hh_:=zm hb94;clear hb94;have hb94:=hh_;clear hh_
    refine ⟨_,rfl,?_⟩
    refine hK.out _ _ ?_
    clear hK K
    refine norm_ (a':=?_) ?_ ?_
    rotate_left
    ·show Act.put _ (some 94) _=_
     simp only [Act.put,List.setIfInBounds_toArray,List.set_cons_zero,List.set_cons_succ,i64_w,i32_w]
     rfl
    refine Cw.dpu (i:=12) (v:=?_) (a':=?_) (by simp only [List.getElem?_toArray,List.getElem?_cons_succ,List.getElem?_cons_zero];rfl) rfl (by as_aux_lemma=>kernel_rfl) (by rfl) (by exact fun _ _ _ h=>h) ?_ ?_ ?_
    rotate_left
    ·intro w'
     go_simp
     with_reducible rfl
    rotate_left
    ·simp only [Act.put,List.setIfInBounds_toArray,List.set_cons_zero,List.set_cons_succ,i64_w,i32_w]
     rfl
    refine done_ (by as_aux_lemma=>kernel_rfl) ?_
    go_wp2
    go_roundw
    case rel=>exact ⟨q + 1,by first|with_reducible rfl|(rw [hqw];done)|rfl,⟨hql⟩,ho94,hb94⟩
    case measure=>first|exact mb_m hql|(rw [hqw];exact mb_m hql)
   ·obtain rfl:q=l6.length:=by have:=hq.out;omega
    have hd:decide ((l6.length:Int) < (l6.length:Int))=false:=decide_eq_false (by omega)
    rw [List.take_length] at ho
    have hl3:(b2 ++ l6.flatMap mbRec).length≤256:=mb3_len hbl.out
    have hl3p:0 < (b2 ++ l6.flatMap mbRec).length:=by rw [List.length_append,← hb2e];exact mb3_pos _ _ _ _ _ _ _ _
    generalize hb3e:b2 ++ l6.flatMap mbRec=b3 at ho hl3 hl3p
    have hh_:=zm hl3;clear hl3;have hl3:=hh_;clear hh_;have hh_:=zm hl3p;clear hl3p;have hl3p:=hh_;clear hh_
    obtain ⟨A3,c3,rfl⟩:=Kd.R_slice ho.out
    go_wp2_with (first|((with_reducible refine gate_dst (N:=96) rfl ?_);refine Kd.R_make (Kd.int .u8) (w0:=wf) wf.heap.size 5 rfl (N:=96) rfl 67 _ _ rfl 256 rfl rfl Try.underlying67 (.int .u8 0) 1 info5 rfl (by decide) (by omega) 0 (ok:=fun _=>True) (okp:=fun _=>True) rfl (fun _ hk=>hk) trivial (by omega) (by omega) hb.out (below_size hb.out) ?_;intro vo wo hoo hbo hgo hno;have hob:=Kd.R_grown ho.out hgo (fun k _ h=>by cases h);clear hgo hno;obtain ⟨Ao,co,rfl⟩:=Kd.R_slice hoo;have hh_:=zm hoo;clear hoo;have hoo:=hh_;clear hh_;have hh_:=zm hbo;clear hbo;have hbo:=hh_;clear hh_;have hh_:=zm hob;clear hob;have hob:=hh_;clear hh_)|((with_reducible refine gate_builtin (b:=.copy) (xs:=#[.tmp 97,.tmp 98]) rfl ?_);refine Cw.R_copy_in (0:Int) (w0:=wf) wf.heap.size rfl (.tmp 97) (.tmp 98) 67 5 rfl Try.underlying67 (.int .u8 0) 1 info5 _ Ao co (List.replicate 256 0) b3 rfl 0 256 co (by rw [Cw.map_add0];rfl) A3 c3 rfl hoo.out (Kd.R_reads' hob.out).2.2 (by have:=hl3.out;omega) (by have:=hl3.out;simp only [List.length_replicate];omega) hl3p.out hbo.out ?_;intro wF hof hbf hg;clear hg;have hh_:=zm hof;clear hof;have hof:=hh_;clear hh_;have hh_:=zm hbf;clear hbf;have hbf:=hh_;clear hh_))
    go_ret2
    refine ⟨_,rfl,?_,(by repeat (first|exact Below.refl _ _|with_reducible apply zlN|with_reducible apply zlA|refine below_step ?_ (Aside0.out (by assumption))))⟩
    have:=hof.out
    rw [List.drop_replicate] at this
    show Kd.R (Kd.int .u8) 5 _ w.heap.size (fun _=>True) _ (mbo a0 a1 a2 a3 l4 l5 l6)
    have e3:mb3 a0 a1 a2 a3 l4 l5 l6=b3:=by rw [← hb3e,← hb2e];rfl
    unfold mbo
    rw [e3]
    rw [List.take_zero,List.nil_append,Nat.zero_add] at this
    exact Kd.R_lower (d:=Kd.int .u8) this (below_size (by repeat (first|exact Below.refl _ _|with_reducible apply zlN|with_reducible apply zlA|refine below_step ?_ (Aside0.out (by assumption)))))
end Go.Proofs.Ytkhbmgclklmimaa.Print
end
section
namespace Go.Proofs.Ytkhbmgclklmimaa.Print
open Go.RowKit Go.Proofs.YtkhbmgclklmimaaW.PrintWords Go.Proofs.YtkhbmgclklmimaaW.PrintLast Go.Proofs.YtkhbmgclklmimaaW.PrintMore
attribute [local go_sem] max2_int min2_int max_two min_two max_three min_three max_four min_four   -- for this text's walks alone
attribute [local go_sem ↓] Go.Proofs.Ytkhbmgclklmimaa.Sem.isSome_setCell
attribute [local go_sem] Go.Instr.field Go.asAgg
set_option linter.unusedVariables false
set_option linter.unusedSimpArgs false
mutual
def slipwayref06_Records.j0:Nat → Int → List (S55) → Bool → Option (Int × Int × Int × Int × List Bool × List Int × (List (S55)) × Int)
 | 0,_,_,_=>none
 | k + 1,x0,x1,x12=>if x12=true then (some (0,0,0,0,([]:List Bool),([]:List Int),([]:List (S55)),1)) else (if (x1.length:Int) > 24 then (some (0,0,0,0,([]:List Bool),([]:List Int),([]:List (S55)),3)) else (slipwayref06_Records.l0 k x0 x1 0))
def slipwayref06_Records.l0:Nat → Int → List (S55) → Int → Option (Int × Int × Int × Int × List Bool × List Int × (List (S55)) × Int)
 | 0,_,_,_=>none
 | k + 1,x0,x1,x6=>if x6 < (x1.length:Int) then (if 0≤x6 then ((slipwayref06_may.f k ((rd_T55 x1 x6).f0) ((rd_T55 x1 x6).f1) ((rd_T55 x1 x6).f2)).bind fun t504=>(if t504=true then (slipwayref06_Records.l0 k x0 x1 (wrap64 (x6 + 1))) else (some (0,0,0,0,([]:List Bool),([]:List Int),([]:List (S55)),61)))) else (none)) else (if ([]:List (S55)).length + x1.length < 5864062014805 then (some (2,x0,0,0,([]:List Bool),([]:List Int),(([]:List (S55)) ++ x1),0)) else (none))
end
def slipwayref06_Records.f (k:Nat) (a0:Int) (l1:List (S55)):Option (Int × Int × Int × Int × List Bool × List Int × (List (S55)) × Int):=if a0 < 0 then (slipwayref06_Records.j0 k a0 l1 true) else (slipwayref06_Records.j0 k a0 l1 (decide (a0 > 1152921504606846976)))
set_option maxHeartbeats 8000000 in
set_option maxRecDepth 100000 in
theorem slipwayref06_Records.calls (k:Nat) (a0:Int) (A1:Option Addr) (c1:Nat) (l1:List (S55)) (r1:Int) (r2:Int) (r3:Int) (r4:Int) (r5:List Bool) (r6:List Int) (r7:List (S55)) (r8:Int) (w:World) (hr1:Kd.C k55 w A1 l1.length l1) (hc1:l1.length≤c1) (h:slipwayref06_Records.f k a0 l1=some (r1,r2,r3,r4,r5,r6,r7,r8)) :
  Calls Try.prog 30 #[.int .i64 a0,.slice A1 l1.length c1] w fun e w'=>∃ v4_ v5_ v6_:Value,e=.returned (.tuple #[.agg #[.int .i64 r1,.int .i64 r2,.int .i64 r3,.int .i64 r4,v4_,v5_,v6_],.int .i64 r8])∧Kd.R Kd.bool 4 w' w.heap.size (fun _=>True) v4_ r5∧Kd.R (Kd.int .i64) 2 w' w.heap.size (fun _=>True) v5_ r6∧Kd.R k55 55 w' w.heap.size (fun _=>True) v6_ r7∧Below w.heap.size w w':=by
 have hu42:=Try.underlying42
 have hu55:=Try.underlying55
 have HR1:=zm hr1
 have HC1:=zm hc1
 clear hr1 hc1
 have HB:=zm (Below.refl w.heap.size w)
 have H:(if a0 < 0 then (slipwayref06_Records.j0 k a0 l1 true) else (slipwayref06_Records.j0 k a0 l1 (decide (a0 > 1152921504606846976))))=some (r1,r2,r3,r4,r5,r6,r7,r8):=h
 clear h
 have HC3:=zm H
 clear H
 go_enter Try.func30,Try.ntmps30
 go_upto_region 1 with (first|((with_reducible refine gate_dst (N:=4) rfl ?_);refine box_event ?hg (N:=4) ?hd (cs:=#[.int .i64 0,.int .i64 0,.int .i64 0,.int .i64 0,.slice none 0 0,.slice none 0 0,.slice none 0 0]) (t:=42) ?hr ?_;(case hd=>rfl);(case hg=>rfl);(case hr=>first|(go_simp;done)|(go_simp;rfl));intro gb502 hg w4 hbox hb;have n0_:=zm (below_step (by repeat (first|(with_reducible first|exact HB.out|apply zlA|apply zlN|apply zlD)|exact HB.out)) hb);have n1_:=zm (hbox);have n2_:=zm ((by rw [hg];exact (below_size (by repeat (first|(with_reducible first|exact HB.out|apply zlA|apply zlN|apply zlD)|exact HB.out))):w.heap.size≤gb502));have n3_:=zm ((by rw [hg];exact (below_size (by repeat (first|(with_reducible first|exact HB.out|apply zlA|apply zlN|apply zlD)|exact HB.out))):w.heap.size≤gb502));clear HB;have HB:=n0_;have BK502:=n1_;have GW502:=n2_;have GE502:=n3_;clear n0_ n1_ n2_ n3_;clear hb hbox hg))
 (try simp only [Act.put,List.setIfInBounds_toArray,List.set_cons_zero,List.set_cons_succ])
 go_cut [12] (fun v12 wc=>∃ (kq:Nat) (x12_2:Bool),v12=.bool x12_2∧Aside0 (slipwayref06_Records.j0 kq a0 l1 x12_2=some (r1,r2,r3,r4,r5,r6,r7,r8))∧Aside0 (kq≤k)∧Aside0 (wc.heap[gb502]?=some (.cells #[.int .i64 0,.int .i64 0,.int .i64 0,.int .i64 0,(.slice none 0 0),(.slice none 0 0),(.slice none 0 0)] 42 (0,0)))∧Aside0 (Below w.heap.size w wc))
 case first =>
  have H:=HC3.out
  clear HC3
  by_cases c5:a0 < 0
  ·rw [if_pos c5] at H
   have c5b0:decide (a0 < 0)=true:=decide_eq_true c5
   clear c5
   (first|rw [c5b0]|(simp only [i64_w,i32_w];rw [c5b0])|skip)
   have H':=zm H
   clear H
   go_wp2
   go_meet
   case rel=>exact ⟨_,(true),(by first|rfl|(simp;done)|(simp [*];done)),H',⟨by first|omega|exact Nat.le_refl _⟩,⟨by (with_reducible repeat (first|refine zbN ?_ _|refine zbD ?_|refine zbA ?_ _));exact BK502.out⟩,⟨by repeat (first|(with_reducible first|exact HB.out|apply zlA|apply zlN|apply zlD|refine zlS ?_ GE502.out)|exact HB.out)⟩⟩
  ·rw [if_neg c5] at H
   have c5b0:decide (a0 < 0)=false:=decide_eq_false c5
   clear c5
   (first|rw [c5b0]|(simp only [i64_w,i32_w];rw [c5b0])|skip)
   have H':=zm H
   clear H
   go_wp2
   go_meet
   case rel=>exact ⟨_,(decide (a0 > 1152921504606846976)),(by first|rfl|(simp;done)|(simp [*];done)),H',⟨by first|omega|exact Nat.le_refl _⟩,⟨by (with_reducible repeat (first|refine zbN ?_ _|refine zbD ?_|refine zbA ?_ _));exact BK502.out⟩,⟨by repeat (first|(with_reducible first|exact HB.out|apply zlA|apply zlN|apply zlD|refine zlS ?_ GE502.out)|exact HB.out)⟩⟩
 case rest =>
  clear HC3
  try clear c1
  try clear p2
  try clear c3
  try clear c5
  try clear c5b0
  obtain ⟨kq,x12_2,rfl,HA,HJ2,BK502,HB⟩:=hcut
  cases kq with
  | zero=>exact absurd HA.out (by simp [slipwayref06_Records.j0])
  | succ kj2 =>
   have H:=HA.out
   clear HA
   simp only [slipwayref06_Records.j0] at H
   by_cases c6:x12_2=true
   ·subst c6
    have H1:(some (0,0,0,0,([]:List Bool),([]:List Int),([]:List (S55)),1))=some (r1,r2,r3,r4,r5,r6,r7,r8):=by rw [if_pos rfl] at H;exact H
    clear H
    have H:=H1
    clear H1
    simp only [Option.some.injEq,Prod.mk.injEq] at H
    obtain ⟨rfl,rfl,rfl,rfl,rfl,rfl,rfl,rfl⟩:=H
    have hcz7_0:wc.cell? ⟨gb502,0,none⟩=some (.int .i64 0):=(blk_cell BK502.out 0).trans rfl
    have hcz7_1:wc.cell? ⟨gb502,1,none⟩=some (.int .i64 0):=(blk_cell BK502.out 1).trans rfl
    have hcz7_2:wc.cell? ⟨gb502,2,none⟩=some (.int .i64 0):=(blk_cell BK502.out 2).trans rfl
    have hcz7_3:wc.cell? ⟨gb502,3,none⟩=some (.int .i64 0):=(blk_cell BK502.out 3).trans rfl
    have hcz7_4:wc.cell? ⟨gb502,4,none⟩=some (.slice none 0 0):=(blk_cell BK502.out 4).trans rfl
    have hcz7_5:wc.cell? ⟨gb502,5,none⟩=some (.slice none 0 0):=(blk_cell BK502.out 5).trans rfl
    have hcz7_6:wc.cell? ⟨gb502,6,none⟩=some (.slice none 0 0):=(blk_cell BK502.out 6).trans rfl
    have hfz7_0:=blk_frozen BK502.out 0
    have hfz7_1:=blk_frozen BK502.out 1
    have hfz7_2:=blk_frozen BK502.out 2
    have hfz7_3:=blk_frozen BK502.out 3
    have hfz7_4:=blk_frozen BK502.out 4
    have hfz7_5:=blk_frozen BK502.out 5
    have hfz7_6:=blk_frozen BK502.out 6
    go_wp2
    refine bodyPost_ret (results_ct rfl _ _ gb502 42 #[.int .i64 0,.int .i64 0,.int .i64 0,.int .i64 0,.slice none 0 0,.slice none 0 0,.slice none 0 0] (0,0) _ rfl (by (with_reducible repeat (first|refine zbN ?_ _|refine zbD ?_|refine zbA ?_ _));refine blk_put (cs:=#[.int .i64 0,.int .i64 0,.int .i64 0,.int .i64 0,.slice none 0 0,.slice none 0 0,.slice none 0 0]) ?_ 6 _ rfl;(with_reducible repeat (first|refine zbN ?_ _|refine zbD ?_|refine zbA ?_ _));refine blk_put (cs:=#[.int .i64 0,.int .i64 0,.int .i64 0,.int .i64 0,.slice none 0 0,.slice none 0 0,.slice none 0 0]) ?_ 5 _ rfl;(with_reducible repeat (first|refine zbN ?_ _|refine zbD ?_|refine zbA ?_ _));refine blk_put (cs:=#[.int .i64 0,.int .i64 0,.int .i64 0,.int .i64 0,.slice none 0 0,.slice none 0 0,.slice none 0 0]) ?_ 4 _ rfl;(with_reducible repeat (first|refine zbN ?_ _|refine zbD ?_|refine zbA ?_ _));refine blk_put (cs:=#[.int .i64 0,.int .i64 0,.int .i64 0,.int .i64 0,.slice none 0 0,.slice none 0 0,.slice none 0 0]) ?_ 3 _ rfl;(with_reducible repeat (first|refine zbN ?_ _|refine zbD ?_|refine zbA ?_ _));refine blk_put (cs:=#[.int .i64 0,.int .i64 0,.int .i64 0,.int .i64 0,.slice none 0 0,.slice none 0 0,.slice none 0 0]) ?_ 2 _ rfl;(with_reducible repeat (first|refine zbN ?_ _|refine zbD ?_|refine zbA ?_ _));refine blk_put (cs:=#[.int .i64 0,.int .i64 0,.int .i64 0,.int .i64 0,.slice none 0 0,.slice none 0 0,.slice none 0 0]) ?_ 1 _ rfl;(with_reducible repeat (first|refine zbN ?_ _|refine zbD ?_|refine zbA ?_ _));refine blk_put (cs:=#[.int .i64 0,.int .i64 0,.int .i64 0,.int .i64 0,.slice none 0 0,.slice none 0 0,.slice none 0 0]) ?_ 0 _ rfl;(with_reducible repeat (first|refine zbN ?_ _|refine zbD ?_|refine zbA ?_ _));exact BK502.out) Try.underlying42 rfl (by kernel_rfl)) rfl ?_
    exact ⟨_,_,_,by first|rfl|(simp [errW_none,errW_some] <;> rfl)|(simp [*,errW_none,errW_some] <;> rfl),by first|exact Kd.R_nil _ _ _ _ _|exact Kd.N_nil _ _ _ _ _|exact Kd.V_nil _ _ _ _ _|exact Kd.Q_nil _ _ _ _ _|exact Kd.S_nil _ _ _ _ _,by first|exact Kd.R_nil _ _ _ _ _|exact Kd.N_nil _ _ _ _ _|exact Kd.V_nil _ _ _ _ _|exact Kd.Q_nil _ _ _ _ _|exact Kd.S_nil _ _ _ _ _,by first|exact Kd.R_nil _ _ _ _ _|exact Kd.N_nil _ _ _ _ _|exact Kd.V_nil _ _ _ _ _|exact Kd.Q_nil _ _ _ _ _|exact Kd.S_nil _ _ _ _ _,by repeat (first|(with_reducible first|exact HB.out|apply zlA|apply zlN|apply zlD|refine zlS ?_ GE502.out)|exact HB.out)⟩
   ·replace c6:=Bool.eq_false_iff.mpr c6
    subst c6
    have H1:(if (l1.length:Int) > 24 then (some (0,0,0,0,([]:List Bool),([]:List Int),([]:List (S55)),3)) else (slipwayref06_Records.l0 kj2 a0 l1 0))=some (r1,r2,r3,r4,r5,r6,r7,r8):=by rw [if_neg (show ¬ (false=true) by decide)] at H;exact H
    clear H
    have H:=H1
    clear H1
    by_cases c8:(l1.length:Int) > 24
    ·rw [if_pos c8] at H
     have c8b0:decide (24 < (l1.length:Int))=true:=decide_eq_true c8
     have c8b1:decide (24 < l1.length)=true:=decide_eq_true (by omega)
     clear c8
     simp only [Option.some.injEq,Prod.mk.injEq] at H
     obtain ⟨rfl,rfl,rfl,rfl,rfl,rfl,rfl,rfl⟩:=H
     have hcz9_0:wc.cell? ⟨gb502,0,none⟩=some (.int .i64 0):=(blk_cell BK502.out 0).trans rfl
     have hcz9_1:wc.cell? ⟨gb502,1,none⟩=some (.int .i64 0):=(blk_cell BK502.out 1).trans rfl
     have hcz9_2:wc.cell? ⟨gb502,2,none⟩=some (.int .i64 0):=(blk_cell BK502.out 2).trans rfl
     have hcz9_3:wc.cell? ⟨gb502,3,none⟩=some (.int .i64 0):=(blk_cell BK502.out 3).trans rfl
     have hcz9_4:wc.cell? ⟨gb502,4,none⟩=some (.slice none 0 0):=(blk_cell BK502.out 4).trans rfl
     have hcz9_5:wc.cell? ⟨gb502,5,none⟩=some (.slice none 0 0):=(blk_cell BK502.out 5).trans rfl
     have hcz9_6:wc.cell? ⟨gb502,6,none⟩=some (.slice none 0 0):=(blk_cell BK502.out 6).trans rfl
     have hfz9_0:=blk_frozen BK502.out 0
     have hfz9_1:=blk_frozen BK502.out 1
     have hfz9_2:=blk_frozen BK502.out 2
     have hfz9_3:=blk_frozen BK502.out 3
     have hfz9_4:=blk_frozen BK502.out 4
     have hfz9_5:=blk_frozen BK502.out 5
     have hfz9_6:=blk_frozen BK502.out 6
     go_wp2
     refine bodyPost_ret (results_ct rfl _ _ gb502 42 #[.int .i64 0,.int .i64 0,.int .i64 0,.int .i64 0,.slice none 0 0,.slice none 0 0,.slice none 0 0] (0,0) _ rfl (by (with_reducible repeat (first|refine zbN ?_ _|refine zbD ?_|refine zbA ?_ _));refine blk_put (cs:=#[.int .i64 0,.int .i64 0,.int .i64 0,.int .i64 0,.slice none 0 0,.slice none 0 0,.slice none 0 0]) ?_ 6 _ rfl;(with_reducible repeat (first|refine zbN ?_ _|refine zbD ?_|refine zbA ?_ _));refine blk_put (cs:=#[.int .i64 0,.int .i64 0,.int .i64 0,.int .i64 0,.slice none 0 0,.slice none 0 0,.slice none 0 0]) ?_ 5 _ rfl;(with_reducible repeat (first|refine zbN ?_ _|refine zbD ?_|refine zbA ?_ _));refine blk_put (cs:=#[.int .i64 0,.int .i64 0,.int .i64 0,.int .i64 0,.slice none 0 0,.slice none 0 0,.slice none 0 0]) ?_ 4 _ rfl;(with_reducible repeat (first|refine zbN ?_ _|refine zbD ?_|refine zbA ?_ _));refine blk_put (cs:=#[.int .i64 0,.int .i64 0,.int .i64 0,.int .i64 0,.slice none 0 0,.slice none 0 0,.slice none 0 0]) ?_ 3 _ rfl;(with_reducible repeat (first|refine zbN ?_ _|refine zbD ?_|refine zbA ?_ _));refine blk_put (cs:=#[.int .i64 0,.int .i64 0,.int .i64 0,.int .i64 0,.slice none 0 0,.slice none 0 0,.slice none 0 0]) ?_ 2 _ rfl;(with_reducible repeat (first|refine zbN ?_ _|refine zbD ?_|refine zbA ?_ _));refine blk_put (cs:=#[.int .i64 0,.int .i64 0,.int .i64 0,.int .i64 0,.slice none 0 0,.slice none 0 0,.slice none 0 0]) ?_ 1 _ rfl;(with_reducible repeat (first|refine zbN ?_ _|refine zbD ?_|refine zbA ?_ _));refine blk_put (cs:=#[.int .i64 0,.int .i64 0,.int .i64 0,.int .i64 0,.slice none 0 0,.slice none 0 0,.slice none 0 0]) ?_ 0 _ rfl;(with_reducible repeat (first|refine zbN ?_ _|refine zbD ?_|refine zbA ?_ _));exact BK502.out) Try.underlying42 rfl (by kernel_rfl)) rfl ?_
     exact ⟨_,_,_,by first|rfl|(simp [errW_none,errW_some] <;> rfl)|(simp [*,errW_none,errW_some] <;> rfl),by first|exact Kd.R_nil _ _ _ _ _|exact Kd.N_nil _ _ _ _ _|exact Kd.V_nil _ _ _ _ _|exact Kd.Q_nil _ _ _ _ _|exact Kd.S_nil _ _ _ _ _,by first|exact Kd.R_nil _ _ _ _ _|exact Kd.N_nil _ _ _ _ _|exact Kd.V_nil _ _ _ _ _|exact Kd.Q_nil _ _ _ _ _|exact Kd.S_nil _ _ _ _ _,by first|exact Kd.R_nil _ _ _ _ _|exact Kd.N_nil _ _ _ _ _|exact Kd.V_nil _ _ _ _ _|exact Kd.Q_nil _ _ _ _ _|exact Kd.S_nil _ _ _ _ _,by repeat (first|(with_reducible first|exact HB.out|apply zlA|apply zlN|apply zlD|refine zlS ?_ GE502.out)|exact HB.out)⟩
    ·rw [if_neg c8] at H
     have c8b0:decide (24 < (l1.length:Int))=false:=decide_eq_false c8
     have c8b1:decide (24 < l1.length)=false:=decide_eq_false (by omega)
     clear c8
     have H':=zm H
     clear H
     go_wp2
     go_loopg [6] kj2 (fun kq v6 w'=>∃ (x6_2:Int) (x503000_2:Int) (x503001_2:Int) (x503002_2:Int) (x503003_2:Int),v6=.int .i64 x6_2∧Aside0 (slipwayref06_Records.l0 kq a0 l1 x6_2=some (r1,r2,r3,r4,r5,r6,r7,r8))∧Aside0 (kq≤kj2)∧Aside0 (w'.heap[gb502]?=some (.cells #[.int .i64 x503000_2,.int .i64 x503001_2,.int .i64 x503002_2,.int .i64 x503003_2,(.slice none 0 0),(.slice none 0 0),(.slice none 0 0)] 42 (0,0)))∧Aside0 (Below w.heap.size w w'))
     case atStart=>exact ⟨(0),(0),(0),(0),(0),(by first|rfl|(simp;done)|(simp [*];done)),H',⟨Nat.le_refl _⟩,⟨by (with_reducible repeat (first|refine zbN ?_ _|refine zbD ?_|refine zbA ?_ _));exact BK502.out⟩,⟨by repeat (first|(with_reducible first|exact HB.out|apply zlA|apply zlN|apply zlD|refine zlS ?_ GE502.out)|exact HB.out)⟩⟩
     case round =>
      clear H'
      try clear c1
      try clear p2
      try clear c3
      try clear c5
      try clear c5b0
      try clear c6
      try clear c8
      try clear c8b0
      try clear c8b1
      try clear hcz7_0
      try clear hcz7_1
      try clear hcz7_2
      try clear hcz7_3
      try clear hcz7_4
      try clear hcz7_5
      try clear hcz7_6
      try clear hcz9_0
      try clear hcz9_1
      try clear hcz9_2
      try clear hcz9_3
      try clear hcz9_4
      try clear hcz9_5
      try clear hcz9_6
      try clear hfz7_0
      try clear hfz7_1
      try clear hfz7_2
      try clear hfz7_3
      try clear hfz7_4
      try clear hfz7_5
      try clear hfz7_6
      try clear hfz9_0
      try clear hfz9_1
      try clear hfz9_2
      try clear hfz9_3
      try clear hfz9_4
      try clear hfz9_5
      try clear hfz9_6
      try clear p2
      obtain ⟨x6_2,x503000_2,x503001_2,x503002_2,x503003_2,rfl,HA,HK2,BK502,HB⟩:=hrel
      cases gk with
      | zero=>exact absurd HA.out (by simp [slipwayref06_Records.l0])
      | succ k2 =>
       have H:=HA.out
       clear HA
       simp only [slipwayref06_Records.l0] at H
       by_cases c10:x6_2 < (l1.length:Int)
       ·rw [if_pos c10] at H
        have c10b0:decide (x6_2 < (l1.length:Int))=true:=decide_eq_true c10
        clear c10
        by_cases c11:0≤x6_2
        ·rw [if_pos c11] at H
         have c11b0:decide (0≤x6_2)=true:=decide_eq_true c11
         clear c11
         replace H:=Option.bind_eq_some_iff.mp H
         obtain ⟨t504,A120,H⟩:=H
         replace H:(if t504=true then (slipwayref06_Records.l0 k2 a0 l1 (wrap64 (x6_2 + 1))) else (some (0,0,0,0,([]:List Bool),([]:List Int),([]:List (S55)),61)))=some (r1,r2,r3,r4,r5,r6,r7,r8):=H
         have A12:=zm A120
         clear A120
         by_cases c13:t504=true
         ·subst c13
          have H1:(slipwayref06_Records.l0 k2 a0 l1 (wrap64 (x6_2 + 1)))=some (r1,r2,r3,r4,r5,r6,r7,r8):=by rw [if_pos rfl] at H;exact H
          clear H
          have H:=H1
          clear H1
          have H':=zm H
          clear H
          have p503:0≤(x6_2:Int):=of_decide_eq_true (by first|(with_reducible assumption)|assumption)
          have q503:x6_2 < (l1.length:Int):=of_decide_eq_true (by first|(with_reducible assumption)|assumption)
          obtain ⟨ad503,e503,hx503_0,hx503_1,hx503_2⟩:=at_T55 HR1.out x6_2 p503 q503
          cases e503
          replace hx503_0:=(HB.out.cell (World.block_lt_of_cell? w _ hx503_0)).trans hx503_0
          replace hx503_1:=(HB.out.cell (World.block_lt_of_cell? w _ hx503_1)).trans hx503_1
          replace hx503_2:=(HB.out.cell (World.block_lt_of_cell? w _ hx503_2)).trans hx503_2
          replace p503:=eq_true p503
          replace q503:=eq_true q503
          go_wp2_with (first|((with_reducible refine gate_callee (f:=63) rfl ?_);refine goesL_ (some 28) rfl rfl Try.func63 (by kernel_rfl) rfl #[.agg #[.int .i64 ((rd_T55 l1 x6_2).f0),.int .i64 ((rd_T55 l1 x6_2).f1),.int .i64 ((rd_T55 l1 x6_2).f2)]] rfl (by (try simp only [List.map_toArray,List.map_cons,List.map_nil]);first|done|rfl|(simp only [List.length_drop,List.length_take];rfl)) ?_;(with_reducible refine (slipwayref06_may.calls k2 ((rd_T55 l1 x6_2).f0) ((rd_T55 l1 x6_2).f1) ((rd_T55 l1 x6_2).f2) true _ A12.out).mono ?_);rintro e w14 ⟨rfl,hb⟩;refine ⟨_,rfl,?_⟩;have n0_:=zm (zbB (g:=gb502) (o:=.cells #[.int .i64 x503000_2,.int .i64 x503001_2,.int .i64 x503002_2,.int .i64 x503003_2,.slice none 0 0,.slice none 0 0,.slice none 0 0] 42 (0,0)) (by (with_reducible repeat (first|refine zbN ?_ _|refine zbD ?_|refine zbA ?_ _));exact BK502.out) hb);have n1_:=zm (below_step (by repeat (first|(with_reducible first|exact HB.out|apply zlA|apply zlN|apply zlD|refine zlS ?_ GE502.out)|exact HB.out)) hb);clear BK502 HB;have BK502:=n0_;have HB:=n1_;clear n0_ n1_;(try clear hb);(try clear hb2);(try clear hk);(try clear hi)))
          go_roundg k2
          case measure=>have:=HJ2.out;have:=HK2.out;omega
          case rel=>exact ⟨(wrap64 (x6_2 + 1)),(x503000_2),(x503001_2),(x503002_2),(x503003_2),(by first|rfl|(simp;done)|(simp [*];done)),H',⟨by have:=HJ2.out;have:=HK2.out;omega⟩,⟨by (with_reducible repeat (first|refine zbN ?_ _|refine zbD ?_|refine zbA ?_ _));exact BK502.out⟩,⟨by repeat (first|(with_reducible first|exact HB.out|apply zlA|apply zlN|apply zlD|refine zlS ?_ GE502.out)|exact HB.out)⟩⟩
         ·replace c13:=Bool.eq_false_iff.mpr c13
          subst c13
          have H1:(some (0,0,0,0,([]:List Bool),([]:List Int),([]:List (S55)),61))=some (r1,r2,r3,r4,r5,r6,r7,r8):=by rw [if_neg (show ¬ (false=true) by decide)] at H;exact H
          clear H
          have H:=H1
          clear H1
          simp only [Option.some.injEq,Prod.mk.injEq] at H
          obtain ⟨rfl,rfl,rfl,rfl,rfl,rfl,rfl,rfl⟩:=H
          have p503:0≤(x6_2:Int):=of_decide_eq_true (by first|(with_reducible assumption)|assumption)
          have q503:x6_2 < (l1.length:Int):=of_decide_eq_true (by first|(with_reducible assumption)|assumption)
          obtain ⟨ad503,e503,hx503_0,hx503_1,hx503_2⟩:=at_T55 HR1.out x6_2 p503 q503
          cases e503
          replace hx503_0:=(HB.out.cell (World.block_lt_of_cell? w _ hx503_0)).trans hx503_0
          replace hx503_1:=(HB.out.cell (World.block_lt_of_cell? w _ hx503_1)).trans hx503_1
          replace hx503_2:=(HB.out.cell (World.block_lt_of_cell? w _ hx503_2)).trans hx503_2
          replace p503:=eq_true p503
          replace q503:=eq_true q503
          go_wp2_with (first|((with_reducible refine gate_callee (f:=63) rfl ?_);refine goesL_ (some 28) rfl rfl Try.func63 (by kernel_rfl) rfl #[.agg #[.int .i64 ((rd_T55 l1 x6_2).f0),.int .i64 ((rd_T55 l1 x6_2).f1),.int .i64 ((rd_T55 l1 x6_2).f2)]] rfl (by (try simp only [List.map_toArray,List.map_cons,List.map_nil]);first|done|rfl|(simp only [List.length_drop,List.length_take];rfl)) ?_;(with_reducible refine (slipwayref06_may.calls k2 ((rd_T55 l1 x6_2).f0) ((rd_T55 l1 x6_2).f1) ((rd_T55 l1 x6_2).f2) false _ A12.out).mono ?_);rintro e w15 ⟨rfl,hb⟩;refine ⟨_,rfl,?_⟩;have n0_:=zm (zbB (g:=gb502) (o:=.cells #[.int .i64 x503000_2,.int .i64 x503001_2,.int .i64 x503002_2,.int .i64 x503003_2,.slice none 0 0,.slice none 0 0,.slice none 0 0] 42 (0,0)) (by (with_reducible repeat (first|refine zbN ?_ _|refine zbD ?_|refine zbA ?_ _));exact BK502.out) hb);have n1_:=zm (below_step (by repeat (first|(with_reducible first|exact HB.out|apply zlA|apply zlN|apply zlD|refine zlS ?_ GE502.out)|exact HB.out)) hb);clear BK502 HB;have BK502:=n0_;have HB:=n1_;clear n0_ n1_;(try clear hb);(try clear hb2);(try clear hk);(try clear hi);have hcz16_0:w15.cell? ⟨gb502,0,none⟩=some (.int .i64 x503000_2):=(blk_cell BK502.out 0).trans rfl;have hcz16_1:w15.cell? ⟨gb502,1,none⟩=some (.int .i64 x503001_2):=(blk_cell BK502.out 1).trans rfl;have hcz16_2:w15.cell? ⟨gb502,2,none⟩=some (.int .i64 x503002_2):=(blk_cell BK502.out 2).trans rfl;have hcz16_3:w15.cell? ⟨gb502,3,none⟩=some (.int .i64 x503003_2):=(blk_cell BK502.out 3).trans rfl;have hcz16_4:w15.cell? ⟨gb502,4,none⟩=some (.slice none 0 0):=(blk_cell BK502.out 4).trans rfl;have hcz16_5:w15.cell? ⟨gb502,5,none⟩=some (.slice none 0 0):=(blk_cell BK502.out 5).trans rfl;have hcz16_6:w15.cell? ⟨gb502,6,none⟩=some (.slice none 0 0):=(blk_cell BK502.out 6).trans rfl;have hfz16_0:=blk_frozen BK502.out 0;have hfz16_1:=blk_frozen BK502.out 1;have hfz16_2:=blk_frozen BK502.out 2;have hfz16_3:=blk_frozen BK502.out 3;have hfz16_4:=blk_frozen BK502.out 4;have hfz16_5:=blk_frozen BK502.out 5;have hfz16_6:=blk_frozen BK502.out 6))
          refine bodyPost_ret (results_ct rfl _ _ gb502 42 #[.int .i64 0,.int .i64 0,.int .i64 0,.int .i64 0,.slice none 0 0,.slice none 0 0,.slice none 0 0] (0,0) _ rfl (by (with_reducible repeat (first|refine zbN ?_ _|refine zbD ?_|refine zbA ?_ _));refine blk_put (cs:=#[.int .i64 0,.int .i64 0,.int .i64 0,.int .i64 0,.slice none 0 0,.slice none 0 0,.slice none 0 0]) ?_ 6 _ rfl;(with_reducible repeat (first|refine zbN ?_ _|refine zbD ?_|refine zbA ?_ _));refine blk_put (cs:=#[.int .i64 0,.int .i64 0,.int .i64 0,.int .i64 0,.slice none 0 0,.slice none 0 0,.slice none 0 0]) ?_ 5 _ rfl;(with_reducible repeat (first|refine zbN ?_ _|refine zbD ?_|refine zbA ?_ _));refine blk_put (cs:=#[.int .i64 0,.int .i64 0,.int .i64 0,.int .i64 0,.slice none 0 0,.slice none 0 0,.slice none 0 0]) ?_ 4 _ rfl;(with_reducible repeat (first|refine zbN ?_ _|refine zbD ?_|refine zbA ?_ _));refine blk_put (cs:=#[.int .i64 0,.int .i64 0,.int .i64 0,.int .i64 x503003_2,.slice none 0 0,.slice none 0 0,.slice none 0 0]) ?_ 3 _ rfl;(with_reducible repeat (first|refine zbN ?_ _|refine zbD ?_|refine zbA ?_ _));refine blk_put (cs:=#[.int .i64 0,.int .i64 0,.int .i64 x503002_2,.int .i64 x503003_2,.slice none 0 0,.slice none 0 0,.slice none 0 0]) ?_ 2 _ rfl;(with_reducible repeat (first|refine zbN ?_ _|refine zbD ?_|refine zbA ?_ _));refine blk_put (cs:=#[.int .i64 0,.int .i64 x503001_2,.int .i64 x503002_2,.int .i64 x503003_2,.slice none 0 0,.slice none 0 0,.slice none 0 0]) ?_ 1 _ rfl;(with_reducible repeat (first|refine zbN ?_ _|refine zbD ?_|refine zbA ?_ _));refine blk_put (cs:=#[.int .i64 x503000_2,.int .i64 x503001_2,.int .i64 x503002_2,.int .i64 x503003_2,.slice none 0 0,.slice none 0 0,.slice none 0 0]) ?_ 0 _ rfl;(with_reducible repeat (first|refine zbN ?_ _|refine zbD ?_|refine zbA ?_ _));exact BK502.out) Try.underlying42 rfl (by kernel_rfl)) rfl ?_
          exact ⟨_,_,_,by first|rfl|(simp [errW_none,errW_some] <;> rfl)|(simp [*,errW_none,errW_some] <;> rfl),by first|exact Kd.R_nil _ _ _ _ _|exact Kd.N_nil _ _ _ _ _|exact Kd.V_nil _ _ _ _ _|exact Kd.Q_nil _ _ _ _ _|exact Kd.S_nil _ _ _ _ _,by first|exact Kd.R_nil _ _ _ _ _|exact Kd.N_nil _ _ _ _ _|exact Kd.V_nil _ _ _ _ _|exact Kd.Q_nil _ _ _ _ _|exact Kd.S_nil _ _ _ _ _,by first|exact Kd.R_nil _ _ _ _ _|exact Kd.N_nil _ _ _ _ _|exact Kd.V_nil _ _ _ _ _|exact Kd.Q_nil _ _ _ _ _|exact Kd.S_nil _ _ _ _ _,by repeat (first|(with_reducible first|exact HB.out|apply zlA|apply zlN|apply zlD|refine zlS ?_ GE502.out)|exact HB.out)⟩
        ·rw [if_neg c11] at H
         exact absurd H (by simp)
       ·rw [if_neg c10] at H
        have c10b0:decide (x6_2 < (l1.length:Int))=false:=decide_eq_false c10
        clear c10
        by_cases c17:([]:List (S55)).length + l1.length < 5864062014805
        ·rw [if_pos c17] at H
         have LMc17:=zm c17
         clear c17
         obtain ⟨y505,hy505⟩:∃ y_:List (S55),y_=(([]:List (S55)) ++ l1):=⟨_,rfl⟩
         replace H:(some (2,a0,0,0,([]:List Bool),([]:List Int),y505,0))=some (r1,r2,r3,r4,r5,r6,r7,r8):=by first|(rw [hy505];with_reducible exact H)|(have H2_:=(Option.bind_some _ _).symm.trans H;rw [hy505];with_reducible exact H2_)|(have H2_:=(Option.bind_some _ _).symm.trans H;with_reducible exact H2_)|with_reducible exact H|(rw [hy505];exact H)|exact H
         have Ny505:=zm hy505
         clear hy505
         simp only [Option.some.injEq,Prod.mk.injEq] at H
         obtain ⟨rfl,rfl,rfl,rfl,rfl,rfl,rfl,rfl⟩:=H
         go_wp2_with (first|((with_reducible refine gate_builtin (b:=.append) (xs:=#[.const (.slice none 0 0),.tmp 32]) rfl ?_);at_builtin;refine Kd.R_append_rows k55 (w0:=w) w.heap.size rfl (.const (.slice none 0 0)) (.tmp 32) 34 55 (.agg #[(.int .i64 0),(.int .i64 0),(.int .i64 0)]) 24 rfl Try.underlying34 info55 rfl (by decide) (by omega) (.slice none 0 0) ([]:List (S55)) l1 _ _ _ (fun _=>True) (fun _=>False) rfl rfl ?aO ?aR (fun _ _ h=>h) (fun _ h=>h.elim) ?aF ?aB ?aS ?aL ?_;(case aR=>repeat (first|exact (Kd.C_below HR1.out HB.out)|(with_reducible refine Kd.C_alloc ?_ _)|(with_reducible refine Kd.C_drewN ?_ _)|(with_reducible refine Kd.C_drew ?_)));(case aB=>exact (by repeat (first|(with_reducible first|exact HB.out|apply zlA|apply zlN|apply zlD|refine zlS ?_ GE502.out)|exact HB.out)));(case aF=>exact (fun _ _=>trivial));(case aO=>exact ((Kd.R_nil _ _ _ _ (fun _=>True))));(case aS=>exact (below_size (by repeat (first|(with_reducible first|exact HB.out|apply zlA|apply zlN|apply zlD|refine zlS ?_ GE502.out)|exact HB.out))));(case aL=>have:=LMc17.out;omega);intro v506 w18 ho hb hg hat;rw [← Ny505.out] at ho;have n0_:=zm (blk_grown (g:=gb502) (o:=.cells #[.int .i64 x503000_2,.int .i64 x503001_2,.int .i64 x503002_2,.int .i64 x503003_2,.slice none 0 0,.slice none 0 0,.slice none 0 0] 42 (0,0)) (by (with_reducible repeat (first|refine zbN ?_ _|refine zbD ?_|refine zbA ?_ _));exact BK502.out) hg (by simp [Value.ownBlock]));have n1_:=zm (hb);have n2_:=zm (ho);clear BK502 HB;have BK502:=n0_;have HB:=n1_;have HO507:=n2_;clear n0_ n1_ n2_;clear ho hb hg hat;obtain ⟨Ao19,co19,eo19⟩:=Kd.R_slice HO507.out;subst eo19;have hcz20_0:w18.cell? ⟨gb502,0,none⟩=some (.int .i64 x503000_2):=(blk_cell BK502.out 0).trans rfl;have hcz20_1:w18.cell? ⟨gb502,1,none⟩=some (.int .i64 x503001_2):=(blk_cell BK502.out 1).trans rfl;have hcz20_2:w18.cell? ⟨gb502,2,none⟩=some (.int .i64 x503002_2):=(blk_cell BK502.out 2).trans rfl;have hcz20_3:w18.cell? ⟨gb502,3,none⟩=some (.int .i64 x503003_2):=(blk_cell BK502.out 3).trans rfl;have hcz20_4:w18.cell? ⟨gb502,4,none⟩=some (.slice none 0 0):=(blk_cell BK502.out 4).trans rfl;have hcz20_5:w18.cell? ⟨gb502,5,none⟩=some (.slice none 0 0):=(blk_cell BK502.out 5).trans rfl;have hcz20_6:w18.cell? ⟨gb502,6,none⟩=some (.slice none 0 0):=(blk_cell BK502.out 6).trans rfl;have hfz20_0:=blk_frozen BK502.out 0;have hfz20_1:=blk_frozen BK502.out 1;have hfz20_2:=blk_frozen BK502.out 2;have hfz20_3:=blk_frozen BK502.out 3;have hfz20_4:=blk_frozen BK502.out 4;have hfz20_5:=blk_frozen BK502.out 5;have hfz20_6:=blk_frozen BK502.out 6))
         refine bodyPost_ret (results_ct rfl _ _ gb502 42 #[.int .i64 2,.int .i64 a0,.int .i64 0,.int .i64 0,.slice none 0 0,.slice none 0 0,.slice Ao19 y505.length co19] (0,0) _ rfl (by (with_reducible repeat (first|refine zbN ?_ _|refine zbD ?_|refine zbA ?_ _));refine blk_put (cs:=#[.int .i64 2,.int .i64 a0,.int .i64 0,.int .i64 0,.slice none 0 0,.slice none 0 0,.slice none 0 0]) ?_ 6 _ rfl;(with_reducible repeat (first|refine zbN ?_ _|refine zbD ?_|refine zbA ?_ _));refine blk_put (cs:=#[.int .i64 2,.int .i64 a0,.int .i64 0,.int .i64 0,.slice none 0 0,.slice none 0 0,.slice none 0 0]) ?_ 5 _ rfl;(with_reducible repeat (first|refine zbN ?_ _|refine zbD ?_|refine zbA ?_ _));refine blk_put (cs:=#[.int .i64 2,.int .i64 a0,.int .i64 0,.int .i64 0,.slice none 0 0,.slice none 0 0,.slice none 0 0]) ?_ 4 _ rfl;(with_reducible repeat (first|refine zbN ?_ _|refine zbD ?_|refine zbA ?_ _));refine blk_put (cs:=#[.int .i64 2,.int .i64 a0,.int .i64 0,.int .i64 x503003_2,.slice none 0 0,.slice none 0 0,.slice none 0 0]) ?_ 3 _ rfl;(with_reducible repeat (first|refine zbN ?_ _|refine zbD ?_|refine zbA ?_ _));refine blk_put (cs:=#[.int .i64 2,.int .i64 a0,.int .i64 x503002_2,.int .i64 x503003_2,.slice none 0 0,.slice none 0 0,.slice none 0 0]) ?_ 2 _ rfl;(with_reducible repeat (first|refine zbN ?_ _|refine zbD ?_|refine zbA ?_ _));refine blk_put (cs:=#[.int .i64 2,.int .i64 x503001_2,.int .i64 x503002_2,.int .i64 x503003_2,.slice none 0 0,.slice none 0 0,.slice none 0 0]) ?_ 1 _ rfl;(with_reducible repeat (first|refine zbN ?_ _|refine zbD ?_|refine zbA ?_ _));refine blk_put (cs:=#[.int .i64 x503000_2,.int .i64 x503001_2,.int .i64 x503002_2,.int .i64 x503003_2,.slice none 0 0,.slice none 0 0,.slice none 0 0]) ?_ 0 _ rfl;(with_reducible repeat (first|refine zbN ?_ _|refine zbD ?_|refine zbA ?_ _));exact BK502.out) Try.underlying42 rfl (by kernel_rfl)) rfl ?_
         exact ⟨_,_,_,by first|rfl|(simp [errW_none,errW_some] <;> rfl)|(simp [*,errW_none,errW_some] <;> rfl),by first|exact Kd.R_nil _ _ _ _ _|exact Kd.N_nil _ _ _ _ _|exact Kd.V_nil _ _ _ _ _|exact Kd.Q_nil _ _ _ _ _|exact Kd.S_nil _ _ _ _ _,by first|exact Kd.R_nil _ _ _ _ _|exact Kd.N_nil _ _ _ _ _|exact Kd.V_nil _ _ _ _ _|exact Kd.Q_nil _ _ _ _ _|exact Kd.S_nil _ _ _ _ _,by (with_reducible repeat (first|apply zrA|apply zrN|apply zrD));exact Kd.R_mono (Kd.R_far (p:=⟨gb502,6,none⟩) (Kd.R_far (p:=⟨gb502,5,none⟩) (Kd.R_far (p:=⟨gb502,4,none⟩) (Kd.R_far (p:=⟨gb502,3,none⟩) (Kd.R_far (p:=⟨gb502,2,none⟩) (Kd.R_far (p:=⟨gb502,1,none⟩) (Kd.R_far (p:=⟨gb502,0,none⟩) (Kd.R_types HO507.out BK502.out (by decide)) (fun _ hk=>hk.2) (.int .i64 2)) (fun _ hk=>hk.2) (.int .i64 a0)) (fun _ hk=>hk.2) (.int .i64 0)) (fun _ hk=>hk.2) (.int .i64 0)) (fun _ hk=>hk.2) (.slice none 0 0)) (fun _ hk=>hk.2) (.slice none 0 0)) (fun _ hk=>hk.2) (.slice Ao19 y505.length co19)) (fun _ hk=>trivial),by repeat (first|(with_reducible first|exact HB.out|apply zlA|apply zlN|apply zlD|refine zlS ?_ GE502.out)|exact HB.out)⟩
        ·rw [if_neg c17] at H
         exact absurd H (by simp)
end Go.Proofs.Ytkhbmgclklmimaa.Print
end
section
namespace Go.Proofs.Ytkhbmgclklmimaa.Print
open Go.RowKit Go.Proofs.YtkhbmgclklmimaaW.PrintWords Go.Proofs.YtkhbmgclklmimaaW.PrintLast Go.Proofs.YtkhbmgclklmimaaW.PrintMore
attribute [local go_sem] max2_int min2_int max_two min_two max_three min_three max_four min_four   -- for this text's walks alone
attribute [local go_sem ↓] Go.Proofs.Ytkhbmgclklmimaa.Sem.isSome_setCell
attribute [local go_sem] Go.Instr.field Go.asAgg
set_option linter.unusedVariables false
set_option linter.unusedSimpArgs false
mutual
def slipwayref06_page.j0:Nat → Bool → Int → Int → Int → Int → List Bool → List Int → List (S55) → Option (Bool)
 | 0,_,_,_,_,_,_,_,_=>none
 | k + 1,x13,x645000,x645001,x645002,x645003,x645004,x645005,x645006=>if x13=true then (some false) else (if x645000=2 then ((slipwayref06_Records.f k x645001 x645006).bind fun bt645=>(if bt645.2.2.2.2.2.2.2=0 then (if x645002=0 then (if x645003=0 then (if (x645004.length:Int)=0 then (some ((x645005.length:Int) == 0)) else (some false)) else (some false)) else (some false)) else (some false))) else (if x645000=1 then (if x645002 < 0 then (slipwayref06_page.j1 k true x645000 x645001 x645002 x645003 x645004 x645005 x645006) else (if x645002 > 3 then (slipwayref06_page.j1 k true x645000 x645001 x645002 x645003 x645004 x645005 x645006) else (if x645003 < 0 then (slipwayref06_page.j1 k true x645000 x645001 x645002 x645003 x645004 x645005 x645006) else (if x645003 > 1152921504606846976 then (slipwayref06_page.j1 k true x645000 x645001 x645002 x645003 x645004 x645005 x645006) else (if (x645006.length:Int) > 0 then (slipwayref06_page.j1 k true x645000 x645001 x645002 x645003 x645004 x645005 x645006) else (if (x645004.length:Int) < 1 then (slipwayref06_page.j1 k true x645000 x645001 x645002 x645003 x645004 x645005 x645006) else (if (x645004.length:Int) > 64 then (slipwayref06_page.j1 k true x645000 x645001 x645002 x645003 x645004 x645005 x645006) else (slipwayref06_page.j1 k ((x645005.length:Int) != (x645004.length:Int)) x645000 x645001 x645002 x645003 x645004 x645005 x645006)))))))) else (slipwayref06_page.j1 k true x645000 x645001 x645002 x645003 x645004 x645005 x645006)))
def slipwayref06_page.j1:Nat → Bool → Int → Int → Int → Int → List Bool → List Int → List (S55) → Option (Bool)
 | 0,_,_,_,_,_,_,_,_=>none
 | k + 1,x98,x645000,x645001,x645002,x645003,x645004,x645005,x645006=>if x98=true then (some false) else (slipwayref06_page.l0 k 0 x645000 x645001 x645002 x645003 x645004 x645005 x645006)
def slipwayref06_page.l0:Nat → Int → Int → Int → Int → Int → List Bool → List Int → List (S55) → Option (Bool)
 | 0,_,_,_,_,_,_,_,_=>none
 | k + 1,x5,x645000,x645001,x645002,x645003,x645004,x645005,x645006=>if x5 < (x645005.length:Int) then (if 0≤x5 then (if (rd x645005 x5) < 0 then (some false) else (if (rd x645005 x5) > 16777215 then (some false) else (slipwayref06_page.l0 k (wrap64 (x5 + 1)) x645000 x645001 x645002 x645003 x645004 x645005 x645006))) else (none)) else (some true)
end
def slipwayref06_page.f (k:Nat) (a0_0:Int) (a0_1:Int) (a0_2:Int) (a0_3:Int) (l0_4:List Bool) (l0_5:List Int) (l0_6:List (S55)):Option (Bool):=if a0_1 < 0 then (slipwayref06_page.j0 k true a0_0 a0_1 a0_2 a0_3 l0_4 l0_5 l0_6) else (slipwayref06_page.j0 k (decide (a0_1 > 1152921504606846976)) a0_0 a0_1 a0_2 a0_3 l0_4 l0_5 l0_6)
set_option maxHeartbeats 8000000 in
set_option maxRecDepth 100000 in
theorem slipwayref06_page.calls (k:Nat) (a0_0:Int) (a0_1:Int) (a0_2:Int) (a0_3:Int) (A0_4:Option Addr) (c0_4:Nat) (l0_4:List Bool) (A0_5:Option Addr) (c0_5:Nat) (l0_5:List Int) (A0_6:Option Addr) (c0_6:Nat) (l0_6:List (S55)) (r:Bool) (w:World) (hr0_4:Kd.C Kd.bool w A0_4 l0_4.length l0_4) (hc0_4:l0_4.length≤c0_4) (hr0_5:Kd.C (Kd.int .i64) w A0_5 l0_5.length l0_5) (hc0_5:l0_5.length≤c0_5) (hr0_6:Kd.C k55 w A0_6 l0_6.length l0_6) (hc0_6:l0_6.length≤c0_6) (h:slipwayref06_page.f k a0_0 a0_1 a0_2 a0_3 l0_4 l0_5 l0_6=some r) :
  Calls Try.prog 73 #[.agg #[.int .i64 a0_0,.int .i64 a0_1,.int .i64 a0_2,.int .i64 a0_3,.slice A0_4 l0_4.length c0_4,.slice A0_5 l0_5.length c0_5,.slice A0_6 l0_6.length c0_6]] w fun e w'=>e=.returned (.bool r)∧Below w.heap.size w w':=by
 have hu42:=Try.underlying42
 have HR0_4:=zm hr0_4
 have HC0_4:=zm hc0_4
 clear hr0_4 hc0_4
 have HR0_5:=zm hr0_5
 have HC0_5:=zm hc0_5
 clear hr0_5 hc0_5
 have HR0_6:=zm hr0_6
 have HC0_6:=zm hc0_6
 clear hr0_6 hc0_6
 have HB:=zm (Below.refl w.heap.size w)
 have H:(if a0_1 < 0 then (slipwayref06_page.j0 k true a0_0 a0_1 a0_2 a0_3 l0_4 l0_5 l0_6) else (slipwayref06_page.j0 k (decide (a0_1 > 1152921504606846976)) a0_0 a0_1 a0_2 a0_3 l0_4 l0_5 l0_6))=some r:=h
 clear h
 have HC2:=zm H
 clear H
 go_enter Try.func73,Try.ntmps73
 go_upto_region 1 with (first|((with_reducible refine gate_dst (N:=1) rfl ?_);(try (refine gate_guard (by rfl) ?_;dsimp only));refine box_event ?hg (N:=1) ?hd (cs:=#[.int .i64 a0_0,.int .i64 a0_1,.int .i64 a0_2,.int .i64 a0_3,.slice A0_4 l0_4.length c0_4,.slice A0_5 l0_5.length c0_5,.slice A0_6 l0_6.length c0_6]) (t:=42) ?hr ?_;(case hd=>rfl);(case hg=>rfl);(case hr=>first|(go_simp;done)|(go_simp;rfl));intro gb644 hg w3 hbox hb;have n0_:=zm (below_step (by repeat (first|(with_reducible first|exact HB.out|apply zlA|apply zlN|apply zlD)|exact HB.out)) hb);have n1_:=zm (hbox);have n2_:=zm ((by rw [hg];exact (below_size (by repeat (first|(with_reducible first|exact HB.out|apply zlA|apply zlN|apply zlD)|exact HB.out))):w.heap.size≤gb644));have n3_:=zm ((by rw [hg];exact (below_size (by repeat (first|(with_reducible first|exact HB.out|apply zlA|apply zlN|apply zlD)|exact HB.out))):w.heap.size≤gb644));clear HB;have HB:=n0_;have BK644:=n1_;have GW644:=n2_;have GE644:=n3_;clear n0_ n1_ n2_ n3_;clear hb hbox hg))
 (try simp only [Act.put,List.setIfInBounds_toArray,List.set_cons_zero,List.set_cons_succ])
 go_cut [13] (fun v13 wc=>∃ (kq:Nat) (x13_1:Bool),v13=.bool x13_1∧Aside0 (slipwayref06_page.j0 kq x13_1 a0_0 a0_1 a0_2 a0_3 l0_4 l0_5 l0_6=some r)∧Aside0 (kq≤k)∧Aside0 (wc.heap[gb644]?=some (.cells #[.int .i64 a0_0,.int .i64 a0_1,.int .i64 a0_2,.int .i64 a0_3,(.slice A0_4 l0_4.length c0_4),(.slice A0_5 l0_5.length c0_5),(.slice A0_6 l0_6.length c0_6)] 42 (0,0)))∧Aside0 (Below w.heap.size w wc))
 case first =>
  have H:=HC2.out
  clear HC2
  by_cases c4:a0_1 < 0
  ·rw [if_pos c4] at H
   have c4b0:decide (a0_1 < 0)=true:=decide_eq_true c4
   clear c4
   (first|rw [c4b0]|(simp only [i64_w,i32_w];rw [c4b0])|skip)
   have H':=zm H
   clear H
   have hcz5_0:w3.cell? ⟨gb644,0,none⟩=some (.int .i64 a0_0):=(blk_cell BK644.out 0).trans rfl
   have hcz5_1:w3.cell? ⟨gb644,1,none⟩=some (.int .i64 a0_1):=(blk_cell BK644.out 1).trans rfl
   have hcz5_2:w3.cell? ⟨gb644,2,none⟩=some (.int .i64 a0_2):=(blk_cell BK644.out 2).trans rfl
   have hcz5_3:w3.cell? ⟨gb644,3,none⟩=some (.int .i64 a0_3):=(blk_cell BK644.out 3).trans rfl
   have hcz5_4:w3.cell? ⟨gb644,4,none⟩=some (.slice A0_4 l0_4.length c0_4):=(blk_cell BK644.out 4).trans rfl
   have hcz5_5:w3.cell? ⟨gb644,5,none⟩=some (.slice A0_5 l0_5.length c0_5):=(blk_cell BK644.out 5).trans rfl
   have hcz5_6:w3.cell? ⟨gb644,6,none⟩=some (.slice A0_6 l0_6.length c0_6):=(blk_cell BK644.out 6).trans rfl
   have hfz5_0:=blk_frozen BK644.out 0
   have hfz5_1:=blk_frozen BK644.out 1
   have hfz5_2:=blk_frozen BK644.out 2
   have hfz5_3:=blk_frozen BK644.out 3
   have hfz5_4:=blk_frozen BK644.out 4
   have hfz5_5:=blk_frozen BK644.out 5
   have hfz5_6:=blk_frozen BK644.out 6
   go_wp2
   go_meet
   case rel=>exact ⟨_,(true),(by first|rfl|(simp;done)|(simp [*];done)),H',⟨by first|omega|exact Nat.le_refl _⟩,⟨by (with_reducible repeat (first|refine zbN ?_ _|refine zbD ?_|refine zbA ?_ _));exact BK644.out⟩,⟨by repeat (first|(with_reducible first|exact HB.out|apply zlA|apply zlN|apply zlD|refine zlS ?_ GE644.out)|exact HB.out)⟩⟩
  ·rw [if_neg c4] at H
   have c4b0:decide (a0_1 < 0)=false:=decide_eq_false c4
   clear c4
   (first|rw [c4b0]|(simp only [i64_w,i32_w];rw [c4b0])|skip)
   have H':=zm H
   clear H
   have hcz6_0:w3.cell? ⟨gb644,0,none⟩=some (.int .i64 a0_0):=(blk_cell BK644.out 0).trans rfl
   have hcz6_1:w3.cell? ⟨gb644,1,none⟩=some (.int .i64 a0_1):=(blk_cell BK644.out 1).trans rfl
   have hcz6_2:w3.cell? ⟨gb644,2,none⟩=some (.int .i64 a0_2):=(blk_cell BK644.out 2).trans rfl
   have hcz6_3:w3.cell? ⟨gb644,3,none⟩=some (.int .i64 a0_3):=(blk_cell BK644.out 3).trans rfl
   have hcz6_4:w3.cell? ⟨gb644,4,none⟩=some (.slice A0_4 l0_4.length c0_4):=(blk_cell BK644.out 4).trans rfl
   have hcz6_5:w3.cell? ⟨gb644,5,none⟩=some (.slice A0_5 l0_5.length c0_5):=(blk_cell BK644.out 5).trans rfl
   have hcz6_6:w3.cell? ⟨gb644,6,none⟩=some (.slice A0_6 l0_6.length c0_6):=(blk_cell BK644.out 6).trans rfl
   have hfz6_0:=blk_frozen BK644.out 0
   have hfz6_1:=blk_frozen BK644.out 1
   have hfz6_2:=blk_frozen BK644.out 2
   have hfz6_3:=blk_frozen BK644.out 3
   have hfz6_4:=blk_frozen BK644.out 4
   have hfz6_5:=blk_frozen BK644.out 5
   have hfz6_6:=blk_frozen BK644.out 6
   go_wp2
   go_meet
   case rel=>exact ⟨_,(decide (a0_1 > 1152921504606846976)),(by first|rfl|(simp;done)|(simp [*];done)),H',⟨by first|omega|exact Nat.le_refl _⟩,⟨by (with_reducible repeat (first|refine zbN ?_ _|refine zbD ?_|refine zbA ?_ _));exact BK644.out⟩,⟨by repeat (first|(with_reducible first|exact HB.out|apply zlA|apply zlN|apply zlD|refine zlS ?_ GE644.out)|exact HB.out)⟩⟩
 case rest =>
  clear HC2
  try clear p2
  try clear c4
  try clear c4b0
  try clear hcz5_0
  try clear hcz5_1
  try clear hcz5_2
  try clear hcz5_3
  try clear hcz5_4
  try clear hcz5_5
  try clear hcz5_6
  try clear hcz6_0
  try clear hcz6_1
  try clear hcz6_2
  try clear hcz6_3
  try clear hcz6_4
  try clear hcz6_5
  try clear hcz6_6
  try clear hfz5_0
  try clear hfz5_1
  try clear hfz5_2
  try clear hfz5_3
  try clear hfz5_4
  try clear hfz5_5
  try clear hfz5_6
  try clear hfz6_0
  try clear hfz6_1
  try clear hfz6_2
  try clear hfz6_3
  try clear hfz6_4
  try clear hfz6_5
  try clear hfz6_6
  obtain ⟨kq,x13_1,rfl,HA,HJ1,BK644,HB⟩:=hcut
  cases kq with
  | zero=>exact absurd HA.out (by simp [slipwayref06_page.j0])
  | succ kj1 =>
   have H:=HA.out
   clear HA
   simp only [slipwayref06_page.j0] at H
   by_cases c7:x13_1=true
   ·subst c7
    have H1:(some false)=some r:=by rw [if_pos rfl] at H;exact H
    clear H
    have H:=H1
    clear H1
    obtain rfl:=Option.some.inj H
    go_wp2
    go_ret
    exact ⟨by first|rfl|(simp [errW_none,errW_some] <;> rfl)|(simp [*,errW_none,errW_some] <;> rfl),by repeat (first|(with_reducible first|exact HB.out|apply zlA|apply zlN|apply zlD|refine zlS ?_ GE644.out)|exact HB.out)⟩
   ·replace c7:=Bool.eq_false_iff.mpr c7
    subst c7
    have H1:(if a0_0=2 then ((slipwayref06_Records.f kj1 a0_1 l0_6).bind fun bt645=>(if bt645.2.2.2.2.2.2.2=0 then (if a0_2=0 then (if a0_3=0 then (if (l0_4.length:Int)=0 then (some ((l0_5.length:Int) == 0)) else (some false)) else (some false)) else (some false)) else (some false))) else (if a0_0=1 then (if a0_2 < 0 then (slipwayref06_page.j1 kj1 true a0_0 a0_1 a0_2 a0_3 l0_4 l0_5 l0_6) else (if a0_2 > 3 then (slipwayref06_page.j1 kj1 true a0_0 a0_1 a0_2 a0_3 l0_4 l0_5 l0_6) else (if a0_3 < 0 then (slipwayref06_page.j1 kj1 true a0_0 a0_1 a0_2 a0_3 l0_4 l0_5 l0_6) else (if a0_3 > 1152921504606846976 then (slipwayref06_page.j1 kj1 true a0_0 a0_1 a0_2 a0_3 l0_4 l0_5 l0_6) else (if (l0_6.length:Int) > 0 then (slipwayref06_page.j1 kj1 true a0_0 a0_1 a0_2 a0_3 l0_4 l0_5 l0_6) else (if (l0_4.length:Int) < 1 then (slipwayref06_page.j1 kj1 true a0_0 a0_1 a0_2 a0_3 l0_4 l0_5 l0_6) else (if (l0_4.length:Int) > 64 then (slipwayref06_page.j1 kj1 true a0_0 a0_1 a0_2 a0_3 l0_4 l0_5 l0_6) else (slipwayref06_page.j1 kj1 ((l0_5.length:Int) != (l0_4.length:Int)) a0_0 a0_1 a0_2 a0_3 l0_4 l0_5 l0_6)))))))) else (slipwayref06_page.j1 kj1 true a0_0 a0_1 a0_2 a0_3 l0_4 l0_5 l0_6)))=some r:=by rw [if_neg (show ¬ (false=true) by decide)] at H;exact H
    clear H
    have H:=H1
    clear H1
    by_cases c8:a0_0=2
    ·rw [if_pos c8] at H
     have c8b0:(a0_0 == 2)=true:=beq_iff_eq.mpr c8
     have c8b1:(a0_0 != 2)=false:=bne_eq_false_iff_eq.mpr c8
     clear c8
     replace H:=Option.bind_eq_some_iff.mp H
     obtain ⟨⟨t645,t646,t647,t648,t649,t652,t655,t658⟩,A90,H⟩:=H
     replace H:(if t658=0 then (if a0_2=0 then (if a0_3=0 then (if (l0_4.length:Int)=0 then (some ((l0_5.length:Int) == 0)) else (some false)) else (some false)) else (some false)) else (some false))=some r:=H
     have A9:=zm A90
     clear A90
     by_cases c10:t658=0
     ·rw [if_pos c10] at H
      have c10b0:(t658 == 0)=true:=beq_iff_eq.mpr c10
      have c10b1:(t658 != 0)=false:=bne_eq_false_iff_eq.mpr c10
      clear c10
      by_cases c11:a0_2=0
      ·rw [if_pos c11] at H
       have c11b0:(a0_2 == 0)=true:=beq_iff_eq.mpr c11
       have c11b1:(a0_2 != 0)=false:=bne_eq_false_iff_eq.mpr c11
       clear c11
       by_cases c12:a0_3=0
       ·rw [if_pos c12] at H
        have c12b0:(a0_3 == 0)=true:=beq_iff_eq.mpr c12
        have c12b1:(a0_3 != 0)=false:=bne_eq_false_iff_eq.mpr c12
        clear c12
        by_cases c13:(l0_4.length:Int)=0
        ·rw [if_pos c13] at H
         have c13b0:((l0_4.length:Int) == 0)=true:=beq_iff_eq.mpr c13
         have c13b1:((l0_4.length:Int) != 0)=false:=bne_eq_false_iff_eq.mpr c13
         clear c13
         obtain rfl:=Option.some.inj H
         have hcz14_0:wc.cell? ⟨gb644,0,none⟩=some (.int .i64 a0_0):=(blk_cell BK644.out 0).trans rfl
         have hcz14_1:wc.cell? ⟨gb644,1,none⟩=some (.int .i64 a0_1):=(blk_cell BK644.out 1).trans rfl
         have hcz14_2:wc.cell? ⟨gb644,2,none⟩=some (.int .i64 a0_2):=(blk_cell BK644.out 2).trans rfl
         have hcz14_3:wc.cell? ⟨gb644,3,none⟩=some (.int .i64 a0_3):=(blk_cell BK644.out 3).trans rfl
         have hcz14_4:wc.cell? ⟨gb644,4,none⟩=some (.slice A0_4 l0_4.length c0_4):=(blk_cell BK644.out 4).trans rfl
         have hcz14_5:wc.cell? ⟨gb644,5,none⟩=some (.slice A0_5 l0_5.length c0_5):=(blk_cell BK644.out 5).trans rfl
         have hcz14_6:wc.cell? ⟨gb644,6,none⟩=some (.slice A0_6 l0_6.length c0_6):=(blk_cell BK644.out 6).trans rfl
         have hfz14_0:=blk_frozen BK644.out 0
         have hfz14_1:=blk_frozen BK644.out 1
         have hfz14_2:=blk_frozen BK644.out 2
         have hfz14_3:=blk_frozen BK644.out 3
         have hfz14_4:=blk_frozen BK644.out 4
         have hfz14_5:=blk_frozen BK644.out 5
         have hfz14_6:=blk_frozen BK644.out 6
         go_wp2_with (first|((with_reducible refine gate_callee (f:=30) rfl ?_);refine goesL_ (some 22) rfl rfl Try.func30 (by kernel_rfl) rfl #[.int .i64 a0_1,.slice A0_6 l0_6.length c0_6] rfl (by (try simp only [List.map_toArray,List.map_cons,List.map_nil]);first|done|rfl|(simp only [List.length_drop,List.length_take];rfl)) ?_;(with_reducible refine (slipwayref06_Records.calls kj1 a0_1 _ _ l0_6 t645 t646 t647 t648 t649 t652 t655 t658 _ ?side1 ?side2 A9.out).mono ?_);(case side1=>repeat (first|exact (Kd.C_below HR0_6.out HB.out)|(with_reducible refine Kd.C_alloc ?_ _)|(with_reducible refine Kd.C_drewN ?_ _)|(with_reducible refine Kd.C_drew ?_)));(case side2=>exact HC0_6.out);rintro e w15 ⟨v650,v653,v656,rfl,ho0,ho1,ho2,hb⟩;refine ⟨_,rfl,?_⟩;have n0_:=zm (Kd.R_lower ho0 (below_size (by repeat (first|(with_reducible first|exact HB.out|apply zlA|apply zlN|apply zlD|refine zlS ?_ GE644.out)|exact HB.out))));have n1_:=zm (Kd.R_lower ho1 (below_size (by repeat (first|(with_reducible first|exact HB.out|apply zlA|apply zlN|apply zlD|refine zlS ?_ GE644.out)|exact HB.out))));have n2_:=zm (Kd.R_lower ho2 (below_size (by repeat (first|(with_reducible first|exact HB.out|apply zlA|apply zlN|apply zlD|refine zlS ?_ GE644.out)|exact HB.out))));have n3_:=zm (zbB (g:=gb644) (o:=.cells #[.int .i64 a0_0,.int .i64 a0_1,.int .i64 a0_2,.int .i64 a0_3,.slice A0_4 l0_4.length c0_4,.slice A0_5 l0_5.length c0_5,.slice A0_6 l0_6.length c0_6] 42 (0,0)) (by (with_reducible repeat (first|refine zbN ?_ _|refine zbD ?_|refine zbA ?_ _));exact BK644.out) hb);have n4_:=zm (below_step (by repeat (first|(with_reducible first|exact HB.out|apply zlA|apply zlN|apply zlD|refine zlS ?_ GE644.out)|exact HB.out)) hb);clear BK644 HB;have HO651:=n0_;have HO654:=n1_;have HO657:=n2_;have BK644:=n3_;have HB:=n4_;clear n0_ n1_ n2_ n3_ n4_;(try clear hb);(try clear hb2);(try clear hk);(try clear hi);(try clear ho0);(try clear ho1);(try clear ho2))|((with_reducible refine gate_dst (N:=3) rfl ?_);(try (refine gate_guard (by rfl) ?_;dsimp only));refine box_event ?hg (N:=3) ?hd (cs:=#[.int .i64 0,.int .i64 0,.int .i64 0,.int .i64 0,.slice none 0 0,.slice none 0 0,.slice none 0 0]) (t:=42) ?hr ?_;(case hd=>rfl);(case hg=>rfl);(case hr=>first|(go_simp;done)|(go_simp;rfl));intro gb659 hg w16 hbox hb;have n0_:=zm (Kd.R_below (by (with_reducible repeat (first|apply zrA|apply zrN|apply zrD));exact HO651.out) hb);have n1_:=zm (Kd.R_below (by (with_reducible repeat (first|apply zrA|apply zrN|apply zrD));exact HO654.out) hb);have n2_:=zm (Kd.R_below (by (with_reducible repeat (first|apply zrA|apply zrN|apply zrD));exact HO657.out) hb);have n3_:=zm (zbB (g:=gb644) (o:=.cells #[.int .i64 a0_0,.int .i64 a0_1,.int .i64 a0_2,.int .i64 a0_3,.slice A0_4 l0_4.length c0_4,.slice A0_5 l0_5.length c0_5,.slice A0_6 l0_6.length c0_6] 42 (0,0)) (by (with_reducible repeat (first|refine zbN ?_ _|refine zbD ?_|refine zbA ?_ _));exact BK644.out) hb);have n4_:=zm (below_step (by repeat (first|(with_reducible first|exact HB.out|apply zlA|apply zlN|apply zlD|refine zlS ?_ GE644.out)|exact HB.out)) hb);have n5_:=zm (hbox);have n6_:=zm ((by rw [hg];exact (below_size (by repeat (first|(with_reducible first|exact HB.out|apply zlA|apply zlN|apply zlD|refine zlS ?_ GE644.out)|exact HB.out))):w.heap.size≤gb659));have n7_:=zm ((by rw [hg];exact (below_size (by repeat (first|(with_reducible first|exact HB.out|apply zlA|apply zlN|apply zlD|refine zlS ?_ GE644.out)|exact HB.out))):w.heap.size≤gb659));have n8_:=zm ((by rw [hg];exact Nat.ne_of_lt (blk_lt (g:=gb644) (o:=.cells #[.int .i64 a0_0,.int .i64 a0_1,.int .i64 a0_2,.int .i64 a0_3,.slice A0_4 l0_4.length c0_4,.slice A0_5 l0_5.length c0_5,.slice A0_6 l0_6.length c0_6] 42 (0,0)) (by (with_reducible repeat (first|refine zbN ?_ _|refine zbD ?_|refine zbA ?_ _));exact BK644.out)):gb644≠gb659));have n9_:=zm ((by rw [hg];exact Nat.ne_of_gt (blk_lt (g:=gb644) (o:=.cells #[.int .i64 a0_0,.int .i64 a0_1,.int .i64 a0_2,.int .i64 a0_3,.slice A0_4 l0_4.length c0_4,.slice A0_5 l0_5.length c0_5,.slice A0_6 l0_6.length c0_6] 42 (0,0)) (by (with_reducible repeat (first|refine zbN ?_ _|refine zbD ?_|refine zbA ?_ _));exact BK644.out)):gb659≠gb644));clear HO651 HO654 HO657 BK644 HB;have HO651:=n0_;have HO654:=n1_;have HO657:=n2_;have BK644:=n3_;have HB:=n4_;have BK659:=n5_;have GW659:=n6_;have GE659:=n7_;have NB644_659:=n8_;have NB659_644:=n9_;clear n0_ n1_ n2_ n3_ n4_ n5_ n6_ n7_ n8_ n9_;clear hb hbox hg;have hnb17:=NB659_644.out;have hnc17:=NB644_659.out;have hcz18_0:w16.cell? ⟨gb659,0,none⟩=some (.int .i64 0):=(blk_cell BK659.out 0).trans rfl;have hcz18_1:w16.cell? ⟨gb659,1,none⟩=some (.int .i64 0):=(blk_cell BK659.out 1).trans rfl;have hcz18_2:w16.cell? ⟨gb659,2,none⟩=some (.int .i64 0):=(blk_cell BK659.out 2).trans rfl;have hcz18_3:w16.cell? ⟨gb659,3,none⟩=some (.int .i64 0):=(blk_cell BK659.out 3).trans rfl;have hcz18_4:w16.cell? ⟨gb659,4,none⟩=some (.slice none 0 0):=(blk_cell BK659.out 4).trans rfl;have hcz18_5:w16.cell? ⟨gb659,5,none⟩=some (.slice none 0 0):=(blk_cell BK659.out 5).trans rfl;have hcz18_6:w16.cell? ⟨gb659,6,none⟩=some (.slice none 0 0):=(blk_cell BK659.out 6).trans rfl;have hfz18_0:=blk_frozen BK659.out 0;have hfz18_1:=blk_frozen BK659.out 1;have hfz18_2:=blk_frozen BK659.out 2;have hfz18_3:=blk_frozen BK659.out 3;have hfz18_4:=blk_frozen BK659.out 4;have hfz18_5:=blk_frozen BK659.out 5;have hfz18_6:=blk_frozen BK659.out 6;obtain ⟨Ao19,co19,eo19⟩:=Kd.R_slice HO651.out;subst eo19;obtain ⟨Ao20,co20,eo20⟩:=Kd.R_slice HO654.out;subst eo20;obtain ⟨Ao21,co21,eo21⟩:=Kd.R_slice HO657.out;subst eo21;have hcz22_0:w16.cell? ⟨gb644,0,none⟩=some (.int .i64 a0_0):=(blk_cell BK644.out 0).trans rfl;have hcz22_1:w16.cell? ⟨gb644,1,none⟩=some (.int .i64 a0_1):=(blk_cell BK644.out 1).trans rfl;have hcz22_2:w16.cell? ⟨gb644,2,none⟩=some (.int .i64 a0_2):=(blk_cell BK644.out 2).trans rfl;have hcz22_3:w16.cell? ⟨gb644,3,none⟩=some (.int .i64 a0_3):=(blk_cell BK644.out 3).trans rfl;have hcz22_4:w16.cell? ⟨gb644,4,none⟩=some (.slice A0_4 l0_4.length c0_4):=(blk_cell BK644.out 4).trans rfl;have hcz22_5:w16.cell? ⟨gb644,5,none⟩=some (.slice A0_5 l0_5.length c0_5):=(blk_cell BK644.out 5).trans rfl;have hcz22_6:w16.cell? ⟨gb644,6,none⟩=some (.slice A0_6 l0_6.length c0_6):=(blk_cell BK644.out 6).trans rfl;have hfz22_0:=blk_frozen BK644.out 0;have hfz22_1:=blk_frozen BK644.out 1;have hfz22_2:=blk_frozen BK644.out 2;have hfz22_3:=blk_frozen BK644.out 3;have hfz22_4:=blk_frozen BK644.out 4;have hfz22_5:=blk_frozen BK644.out 5;have hfz22_6:=blk_frozen BK644.out 6))
         go_ret
         exact ⟨by first|rfl|(simp [errW_none,errW_some] <;> rfl)|(simp [*,errW_none,errW_some] <;> rfl),by repeat (first|(with_reducible first|exact HB.out|apply zlA|apply zlN|apply zlD|refine zlS ?_ GE644.out|refine zlS ?_ GE659.out)|exact HB.out)⟩
        ·rw [if_neg c13] at H
         have c13b0:((l0_4.length:Int) == 0)=false:=beq_eq_false_iff_ne.mpr c13
         have c13b1:((l0_4.length:Int) != 0)=true:=bne_iff_ne.mpr c13
         have c13b2:¬ (l0_4=[]):=fun h_=>c13 (by rw [h_];rfl)
         obtain rfl:=Option.some.inj H
         have hcz23_0:wc.cell? ⟨gb644,0,none⟩=some (.int .i64 a0_0):=(blk_cell BK644.out 0).trans rfl
         have hcz23_1:wc.cell? ⟨gb644,1,none⟩=some (.int .i64 a0_1):=(blk_cell BK644.out 1).trans rfl
         have hcz23_2:wc.cell? ⟨gb644,2,none⟩=some (.int .i64 a0_2):=(blk_cell BK644.out 2).trans rfl
         have hcz23_3:wc.cell? ⟨gb644,3,none⟩=some (.int .i64 a0_3):=(blk_cell BK644.out 3).trans rfl
         have hcz23_4:wc.cell? ⟨gb644,4,none⟩=some (.slice A0_4 l0_4.length c0_4):=(blk_cell BK644.out 4).trans rfl
         have hcz23_5:wc.cell? ⟨gb644,5,none⟩=some (.slice A0_5 l0_5.length c0_5):=(blk_cell BK644.out 5).trans rfl
         have hcz23_6:wc.cell? ⟨gb644,6,none⟩=some (.slice A0_6 l0_6.length c0_6):=(blk_cell BK644.out 6).trans rfl
         have hfz23_0:=blk_frozen BK644.out 0
         have hfz23_1:=blk_frozen BK644.out 1
         have hfz23_2:=blk_frozen BK644.out 2
         have hfz23_3:=blk_frozen BK644.out 3
         have hfz23_4:=blk_frozen BK644.out 4
         have hfz23_5:=blk_frozen BK644.out 5
         have hfz23_6:=blk_frozen BK644.out 6
         go_wp2_with (first|((with_reducible refine gate_callee (f:=30) rfl ?_);refine goesL_ (some 22) rfl rfl Try.func30 (by kernel_rfl) rfl #[.int .i64 a0_1,.slice A0_6 l0_6.length c0_6] rfl (by (try simp only [List.map_toArray,List.map_cons,List.map_nil]);first|done|rfl|(simp only [List.length_drop,List.length_take];rfl)) ?_;(with_reducible refine (slipwayref06_Records.calls kj1 a0_1 _ _ l0_6 t645 t646 t647 t648 t649 t652 t655 t658 _ ?side1 ?side2 A9.out).mono ?_);(case side1=>repeat (first|exact (Kd.C_below HR0_6.out HB.out)|(with_reducible refine Kd.C_alloc ?_ _)|(with_reducible refine Kd.C_drewN ?_ _)|(with_reducible refine Kd.C_drew ?_)));(case side2=>exact HC0_6.out);rintro e w24 ⟨v650,v653,v656,rfl,ho0,ho1,ho2,hb⟩;refine ⟨_,rfl,?_⟩;have n0_:=zm (Kd.R_lower ho0 (below_size (by repeat (first|(with_reducible first|exact HB.out|apply zlA|apply zlN|apply zlD|refine zlS ?_ GE644.out)|exact HB.out))));have n1_:=zm (Kd.R_lower ho1 (below_size (by repeat (first|(with_reducible first|exact HB.out|apply zlA|apply zlN|apply zlD|refine zlS ?_ GE644.out)|exact HB.out))));have n2_:=zm (Kd.R_lower ho2 (below_size (by repeat (first|(with_reducible first|exact HB.out|apply zlA|apply zlN|apply zlD|refine zlS ?_ GE644.out)|exact HB.out))));have n3_:=zm (zbB (g:=gb644) (o:=.cells #[.int .i64 a0_0,.int .i64 a0_1,.int .i64 a0_2,.int .i64 a0_3,.slice A0_4 l0_4.length c0_4,.slice A0_5 l0_5.length c0_5,.slice A0_6 l0_6.length c0_6] 42 (0,0)) (by (with_reducible repeat (first|refine zbN ?_ _|refine zbD ?_|refine zbA ?_ _));exact BK644.out) hb);have n4_:=zm (below_step (by repeat (first|(with_reducible first|exact HB.out|apply zlA|apply zlN|apply zlD|refine zlS ?_ GE644.out)|exact HB.out)) hb);clear BK644 HB;have HO651:=n0_;have HO654:=n1_;have HO657:=n2_;have BK644:=n3_;have HB:=n4_;clear n0_ n1_ n2_ n3_ n4_;(try clear hb);(try clear hb2);(try clear hk);(try clear hi);(try clear ho0);(try clear ho1);(try clear ho2))|((with_reducible refine gate_dst (N:=3) rfl ?_);(try (refine gate_guard (by rfl) ?_;dsimp only));refine box_event ?hg (N:=3) ?hd (cs:=#[.int .i64 0,.int .i64 0,.int .i64 0,.int .i64 0,.slice none 0 0,.slice none 0 0,.slice none 0 0]) (t:=42) ?hr ?_;(case hd=>rfl);(case hg=>rfl);(case hr=>first|(go_simp;done)|(go_simp;rfl));intro gb659 hg w25 hbox hb;have n0_:=zm (Kd.R_below (by (with_reducible repeat (first|apply zrA|apply zrN|apply zrD));exact HO651.out) hb);have n1_:=zm (Kd.R_below (by (with_reducible repeat (first|apply zrA|apply zrN|apply zrD));exact HO654.out) hb);have n2_:=zm (Kd.R_below (by (with_reducible repeat (first|apply zrA|apply zrN|apply zrD));exact HO657.out) hb);have n3_:=zm (zbB (g:=gb644) (o:=.cells #[.int .i64 a0_0,.int .i64 a0_1,.int .i64 a0_2,.int .i64 a0_3,.slice A0_4 l0_4.length c0_4,.slice A0_5 l0_5.length c0_5,.slice A0_6 l0_6.length c0_6] 42 (0,0)) (by (with_reducible repeat (first|refine zbN ?_ _|refine zbD ?_|refine zbA ?_ _));exact BK644.out) hb);have n4_:=zm (below_step (by repeat (first|(with_reducible first|exact HB.out|apply zlA|apply zlN|apply zlD|refine zlS ?_ GE644.out)|exact HB.out)) hb);have n5_:=zm (hbox);have n6_:=zm ((by rw [hg];exact (below_size (by repeat (first|(with_reducible first|exact HB.out|apply zlA|apply zlN|apply zlD|refine zlS ?_ GE644.out)|exact HB.out))):w.heap.size≤gb659));have n7_:=zm ((by rw [hg];exact (below_size (by repeat (first|(with_reducible first|exact HB.out|apply zlA|apply zlN|apply zlD|refine zlS ?_ GE644.out)|exact HB.out))):w.heap.size≤gb659));have n8_:=zm ((by rw [hg];exact Nat.ne_of_lt (blk_lt (g:=gb644) (o:=.cells #[.int .i64 a0_0,.int .i64 a0_1,.int .i64 a0_2,.int .i64 a0_3,.slice A0_4 l0_4.length c0_4,.slice A0_5 l0_5.length c0_5,.slice A0_6 l0_6.length c0_6] 42 (0,0)) (by (with_reducible repeat (first|refine zbN ?_ _|refine zbD ?_|refine zbA ?_ _));exact BK644.out)):gb644≠gb659));have n9_:=zm ((by rw [hg];exact Nat.ne_of_gt (blk_lt (g:=gb644) (o:=.cells #[.int .i64 a0_0,.int .i64 a0_1,.int .i64 a0_2,.int .i64 a0_3,.slice A0_4 l0_4.length c0_4,.slice A0_5 l0_5.length c0_5,.slice A0_6 l0_6.length c0_6] 42 (0,0)) (by (with_reducible repeat (first|refine zbN ?_ _|refine zbD ?_|refine zbA ?_ _));exact BK644.out)):gb659≠gb644));clear HO651 HO654 HO657 BK644 HB;have HO651:=n0_;have HO654:=n1_;have HO657:=n2_;have BK644:=n3_;have HB:=n4_;have BK659:=n5_;have GW659:=n6_;have GE659:=n7_;have NB644_659:=n8_;have NB659_644:=n9_;clear n0_ n1_ n2_ n3_ n4_ n5_ n6_ n7_ n8_ n9_;clear hb hbox hg;have hnb26:=NB659_644.out;have hnc26:=NB644_659.out;have hcz27_0:w25.cell? ⟨gb659,0,none⟩=some (.int .i64 0):=(blk_cell BK659.out 0).trans rfl;have hcz27_1:w25.cell? ⟨gb659,1,none⟩=some (.int .i64 0):=(blk_cell BK659.out 1).trans rfl;have hcz27_2:w25.cell? ⟨gb659,2,none⟩=some (.int .i64 0):=(blk_cell BK659.out 2).trans rfl;have hcz27_3:w25.cell? ⟨gb659,3,none⟩=some (.int .i64 0):=(blk_cell BK659.out 3).trans rfl;have hcz27_4:w25.cell? ⟨gb659,4,none⟩=some (.slice none 0 0):=(blk_cell BK659.out 4).trans rfl;have hcz27_5:w25.cell? ⟨gb659,5,none⟩=some (.slice none 0 0):=(blk_cell BK659.out 5).trans rfl;have hcz27_6:w25.cell? ⟨gb659,6,none⟩=some (.slice none 0 0):=(blk_cell BK659.out 6).trans rfl;have hfz27_0:=blk_frozen BK659.out 0;have hfz27_1:=blk_frozen BK659.out 1;have hfz27_2:=blk_frozen BK659.out 2;have hfz27_3:=blk_frozen BK659.out 3;have hfz27_4:=blk_frozen BK659.out 4;have hfz27_5:=blk_frozen BK659.out 5;have hfz27_6:=blk_frozen BK659.out 6;obtain ⟨Ao28,co28,eo28⟩:=Kd.R_slice HO651.out;subst eo28;obtain ⟨Ao29,co29,eo29⟩:=Kd.R_slice HO654.out;subst eo29;obtain ⟨Ao30,co30,eo30⟩:=Kd.R_slice HO657.out;subst eo30;have hcz31_0:w25.cell? ⟨gb644,0,none⟩=some (.int .i64 a0_0):=(blk_cell BK644.out 0).trans rfl;have hcz31_1:w25.cell? ⟨gb644,1,none⟩=some (.int .i64 a0_1):=(blk_cell BK644.out 1).trans rfl;have hcz31_2:w25.cell? ⟨gb644,2,none⟩=some (.int .i64 a0_2):=(blk_cell BK644.out 2).trans rfl;have hcz31_3:w25.cell? ⟨gb644,3,none⟩=some (.int .i64 a0_3):=(blk_cell BK644.out 3).trans rfl;have hcz31_4:w25.cell? ⟨gb644,4,none⟩=some (.slice A0_4 l0_4.length c0_4):=(blk_cell BK644.out 4).trans rfl;have hcz31_5:w25.cell? ⟨gb644,5,none⟩=some (.slice A0_5 l0_5.length c0_5):=(blk_cell BK644.out 5).trans rfl;have hcz31_6:w25.cell? ⟨gb644,6,none⟩=some (.slice A0_6 l0_6.length c0_6):=(blk_cell BK644.out 6).trans rfl;have hfz31_0:=blk_frozen BK644.out 0;have hfz31_1:=blk_frozen BK644.out 1;have hfz31_2:=blk_frozen BK644.out 2;have hfz31_3:=blk_frozen BK644.out 3;have hfz31_4:=blk_frozen BK644.out 4;have hfz31_5:=blk_frozen BK644.out 5;have hfz31_6:=blk_frozen BK644.out 6))
         go_ret
         exact ⟨by first|rfl|(simp [errW_none,errW_some] <;> rfl)|(simp [*,errW_none,errW_some] <;> rfl),by repeat (first|(with_reducible first|exact HB.out|apply zlA|apply zlN|apply zlD|refine zlS ?_ GE644.out|refine zlS ?_ GE659.out)|exact HB.out)⟩
       ·rw [if_neg c12] at H
        have c12b0:(a0_3 == 0)=false:=beq_eq_false_iff_ne.mpr c12
        have c12b1:(a0_3 != 0)=true:=bne_iff_ne.mpr c12
        obtain rfl:=Option.some.inj H
        have hcz32_0:wc.cell? ⟨gb644,0,none⟩=some (.int .i64 a0_0):=(blk_cell BK644.out 0).trans rfl
        have hcz32_1:wc.cell? ⟨gb644,1,none⟩=some (.int .i64 a0_1):=(blk_cell BK644.out 1).trans rfl
        have hcz32_2:wc.cell? ⟨gb644,2,none⟩=some (.int .i64 a0_2):=(blk_cell BK644.out 2).trans rfl
        have hcz32_3:wc.cell? ⟨gb644,3,none⟩=some (.int .i64 a0_3):=(blk_cell BK644.out 3).trans rfl
        have hcz32_4:wc.cell? ⟨gb644,4,none⟩=some (.slice A0_4 l0_4.length c0_4):=(blk_cell BK644.out 4).trans rfl
        have hcz32_5:wc.cell? ⟨gb644,5,none⟩=some (.slice A0_5 l0_5.length c0_5):=(blk_cell BK644.out 5).trans rfl
        have hcz32_6:wc.cell? ⟨gb644,6,none⟩=some (.slice A0_6 l0_6.length c0_6):=(blk_cell BK644.out 6).trans rfl
        have hfz32_0:=blk_frozen BK644.out 0
        have hfz32_1:=blk_frozen BK644.out 1
        have hfz32_2:=blk_frozen BK644.out 2
        have hfz32_3:=blk_frozen BK644.out 3
        have hfz32_4:=blk_frozen BK644.out 4
        have hfz32_5:=blk_frozen BK644.out 5
        have hfz32_6:=blk_frozen BK644.out 6
        go_wp2_with (first|((with_reducible refine gate_callee (f:=30) rfl ?_);refine goesL_ (some 22) rfl rfl Try.func30 (by kernel_rfl) rfl #[.int .i64 a0_1,.slice A0_6 l0_6.length c0_6] rfl (by (try simp only [List.map_toArray,List.map_cons,List.map_nil]);first|done|rfl|(simp only [List.length_drop,List.length_take];rfl)) ?_;(with_reducible refine (slipwayref06_Records.calls kj1 a0_1 _ _ l0_6 t645 t646 t647 t648 t649 t652 t655 t658 _ ?side1 ?side2 A9.out).mono ?_);(case side1=>repeat (first|exact (Kd.C_below HR0_6.out HB.out)|(with_reducible refine Kd.C_alloc ?_ _)|(with_reducible refine Kd.C_drewN ?_ _)|(with_reducible refine Kd.C_drew ?_)));(case side2=>exact HC0_6.out);rintro e w33 ⟨v650,v653,v656,rfl,ho0,ho1,ho2,hb⟩;refine ⟨_,rfl,?_⟩;have n0_:=zm (Kd.R_lower ho0 (below_size (by repeat (first|(with_reducible first|exact HB.out|apply zlA|apply zlN|apply zlD|refine zlS ?_ GE644.out)|exact HB.out))));have n1_:=zm (Kd.R_lower ho1 (below_size (by repeat (first|(with_reducible first|exact HB.out|apply zlA|apply zlN|apply zlD|refine zlS ?_ GE644.out)|exact HB.out))));have n2_:=zm (Kd.R_lower ho2 (below_size (by repeat (first|(with_reducible first|exact HB.out|apply zlA|apply zlN|apply zlD|refine zlS ?_ GE644.out)|exact HB.out))));have n3_:=zm (zbB (g:=gb644) (o:=.cells #[.int .i64 a0_0,.int .i64 a0_1,.int .i64 a0_2,.int .i64 a0_3,.slice A0_4 l0_4.length c0_4,.slice A0_5 l0_5.length c0_5,.slice A0_6 l0_6.length c0_6] 42 (0,0)) (by (with_reducible repeat (first|refine zbN ?_ _|refine zbD ?_|refine zbA ?_ _));exact BK644.out) hb);have n4_:=zm (below_step (by repeat (first|(with_reducible first|exact HB.out|apply zlA|apply zlN|apply zlD|refine zlS ?_ GE644.out)|exact HB.out)) hb);clear BK644 HB;have HO651:=n0_;have HO654:=n1_;have HO657:=n2_;have BK644:=n3_;have HB:=n4_;clear n0_ n1_ n2_ n3_ n4_;(try clear hb);(try clear hb2);(try clear hk);(try clear hi);(try clear ho0);(try clear ho1);(try clear ho2))|((with_reducible refine gate_dst (N:=3) rfl ?_);(try (refine gate_guard (by rfl) ?_;dsimp only));refine box_event ?hg (N:=3) ?hd (cs:=#[.int .i64 0,.int .i64 0,.int .i64 0,.int .i64 0,.slice none 0 0,.slice none 0 0,.slice none 0 0]) (t:=42) ?hr ?_;(case hd=>rfl);(case hg=>rfl);(case hr=>first|(go_simp;done)|(go_simp;rfl));intro gb659 hg w34 hbox hb;have n0_:=zm (Kd.R_below (by (with_reducible repeat (first|apply zrA|apply zrN|apply zrD));exact HO651.out) hb);have n1_:=zm (Kd.R_below (by (with_reducible repeat (first|apply zrA|apply zrN|apply zrD));exact HO654.out) hb);have n2_:=zm (Kd.R_below (by (with_reducible repeat (first|apply zrA|apply zrN|apply zrD));exact HO657.out) hb);have n3_:=zm (zbB (g:=gb644) (o:=.cells #[.int .i64 a0_0,.int .i64 a0_1,.int .i64 a0_2,.int .i64 a0_3,.slice A0_4 l0_4.length c0_4,.slice A0_5 l0_5.length c0_5,.slice A0_6 l0_6.length c0_6] 42 (0,0)) (by (with_reducible repeat (first|refine zbN ?_ _|refine zbD ?_|refine zbA ?_ _));exact BK644.out) hb);have n4_:=zm (below_step (by repeat (first|(with_reducible first|exact HB.out|apply zlA|apply zlN|apply zlD|refine zlS ?_ GE644.out)|exact HB.out)) hb);have n5_:=zm (hbox);have n6_:=zm ((by rw [hg];exact (below_size (by repeat (first|(with_reducible first|exact HB.out|apply zlA|apply zlN|apply zlD|refine zlS ?_ GE644.out)|exact HB.out))):w.heap.size≤gb659));have n7_:=zm ((by rw [hg];exact (below_size (by repeat (first|(with_reducible first|exact HB.out|apply zlA|apply zlN|apply zlD|refine zlS ?_ GE644.out)|exact HB.out))):w.heap.size≤gb659));have n8_:=zm ((by rw [hg];exact Nat.ne_of_lt (blk_lt (g:=gb644) (o:=.cells #[.int .i64 a0_0,.int .i64 a0_1,.int .i64 a0_2,.int .i64 a0_3,.slice A0_4 l0_4.length c0_4,.slice A0_5 l0_5.length c0_5,.slice A0_6 l0_6.length c0_6] 42 (0,0)) (by (with_reducible repeat (first|refine zbN ?_ _|refine zbD ?_|refine zbA ?_ _));exact BK644.out)):gb644≠gb659));have n9_:=zm ((by rw [hg];exact Nat.ne_of_gt (blk_lt (g:=gb644) (o:=.cells #[.int .i64 a0_0,.int .i64 a0_1,.int .i64 a0_2,.int .i64 a0_3,.slice A0_4 l0_4.length c0_4,.slice A0_5 l0_5.length c0_5,.slice A0_6 l0_6.length c0_6] 42 (0,0)) (by (with_reducible repeat (first|refine zbN ?_ _|refine zbD ?_|refine zbA ?_ _));exact BK644.out)):gb659≠gb644));clear HO651 HO654 HO657 BK644 HB;have HO651:=n0_;have HO654:=n1_;have HO657:=n2_;have BK644:=n3_;have HB:=n4_;have BK659:=n5_;have GW659:=n6_;have GE659:=n7_;have NB644_659:=n8_;have NB659_644:=n9_;clear n0_ n1_ n2_ n3_ n4_ n5_ n6_ n7_ n8_ n9_;clear hb hbox hg;have hnb35:=NB659_644.out;have hnc35:=NB644_659.out;have hcz36_0:w34.cell? ⟨gb659,0,none⟩=some (.int .i64 0):=(blk_cell BK659.out 0).trans rfl;have hcz36_1:w34.cell? ⟨gb659,1,none⟩=some (.int .i64 0):=(blk_cell BK659.out 1).trans rfl;have hcz36_2:w34.cell? ⟨gb659,2,none⟩=some (.int .i64 0):=(blk_cell BK659.out 2).trans rfl;have hcz36_3:w34.cell? ⟨gb659,3,none⟩=some (.int .i64 0):=(blk_cell BK659.out 3).trans rfl;have hcz36_4:w34.cell? ⟨gb659,4,none⟩=some (.slice none 0 0):=(blk_cell BK659.out 4).trans rfl;have hcz36_5:w34.cell? ⟨gb659,5,none⟩=some (.slice none 0 0):=(blk_cell BK659.out 5).trans rfl;have hcz36_6:w34.cell? ⟨gb659,6,none⟩=some (.slice none 0 0):=(blk_cell BK659.out 6).trans rfl;have hfz36_0:=blk_frozen BK659.out 0;have hfz36_1:=blk_frozen BK659.out 1;have hfz36_2:=blk_frozen BK659.out 2;have hfz36_3:=blk_frozen BK659.out 3;have hfz36_4:=blk_frozen BK659.out 4;have hfz36_5:=blk_frozen BK659.out 5;have hfz36_6:=blk_frozen BK659.out 6;obtain ⟨Ao37,co37,eo37⟩:=Kd.R_slice HO651.out;subst eo37;obtain ⟨Ao38,co38,eo38⟩:=Kd.R_slice HO654.out;subst eo38;obtain ⟨Ao39,co39,eo39⟩:=Kd.R_slice HO657.out;subst eo39;have hcz40_0:w34.cell? ⟨gb644,0,none⟩=some (.int .i64 a0_0):=(blk_cell BK644.out 0).trans rfl;have hcz40_1:w34.cell? ⟨gb644,1,none⟩=some (.int .i64 a0_1):=(blk_cell BK644.out 1).trans rfl;have hcz40_2:w34.cell? ⟨gb644,2,none⟩=some (.int .i64 a0_2):=(blk_cell BK644.out 2).trans rfl;have hcz40_3:w34.cell? ⟨gb644,3,none⟩=some (.int .i64 a0_3):=(blk_cell BK644.out 3).trans rfl;have hcz40_4:w34.cell? ⟨gb644,4,none⟩=some (.slice A0_4 l0_4.length c0_4):=(blk_cell BK644.out 4).trans rfl;have hcz40_5:w34.cell? ⟨gb644,5,none⟩=some (.slice A0_5 l0_5.length c0_5):=(blk_cell BK644.out 5).trans rfl;have hcz40_6:w34.cell? ⟨gb644,6,none⟩=some (.slice A0_6 l0_6.length c0_6):=(blk_cell BK644.out 6).trans rfl;have hfz40_0:=blk_frozen BK644.out 0;have hfz40_1:=blk_frozen BK644.out 1;have hfz40_2:=blk_frozen BK644.out 2;have hfz40_3:=blk_frozen BK644.out 3;have hfz40_4:=blk_frozen BK644.out 4;have hfz40_5:=blk_frozen BK644.out 5;have hfz40_6:=blk_frozen BK644.out 6))
        go_ret
        exact ⟨by first|rfl|(simp [errW_none,errW_some] <;> rfl)|(simp [*,errW_none,errW_some] <;> rfl),by repeat (first|(with_reducible first|exact HB.out|apply zlA|apply zlN|apply zlD|refine zlS ?_ GE644.out|refine zlS ?_ GE659.out)|exact HB.out)⟩
      ·rw [if_neg c11] at H
       have c11b0:(a0_2 == 0)=false:=beq_eq_false_iff_ne.mpr c11
       have c11b1:(a0_2 != 0)=true:=bne_iff_ne.mpr c11
       obtain rfl:=Option.some.inj H
       have hcz41_0:wc.cell? ⟨gb644,0,none⟩=some (.int .i64 a0_0):=(blk_cell BK644.out 0).trans rfl
       have hcz41_1:wc.cell? ⟨gb644,1,none⟩=some (.int .i64 a0_1):=(blk_cell BK644.out 1).trans rfl
       have hcz41_2:wc.cell? ⟨gb644,2,none⟩=some (.int .i64 a0_2):=(blk_cell BK644.out 2).trans rfl
       have hcz41_3:wc.cell? ⟨gb644,3,none⟩=some (.int .i64 a0_3):=(blk_cell BK644.out 3).trans rfl
       have hcz41_4:wc.cell? ⟨gb644,4,none⟩=some (.slice A0_4 l0_4.length c0_4):=(blk_cell BK644.out 4).trans rfl
       have hcz41_5:wc.cell? ⟨gb644,5,none⟩=some (.slice A0_5 l0_5.length c0_5):=(blk_cell BK644.out 5).trans rfl
       have hcz41_6:wc.cell? ⟨gb644,6,none⟩=some (.slice A0_6 l0_6.length c0_6):=(blk_cell BK644.out 6).trans rfl
       have hfz41_0:=blk_frozen BK644.out 0
       have hfz41_1:=blk_frozen BK644.out 1
       have hfz41_2:=blk_frozen BK644.out 2
       have hfz41_3:=blk_frozen BK644.out 3
       have hfz41_4:=blk_frozen BK644.out 4
       have hfz41_5:=blk_frozen BK644.out 5
       have hfz41_6:=blk_frozen BK644.out 6
       go_wp2_with (first|((with_reducible refine gate_callee (f:=30) rfl ?_);refine goesL_ (some 22) rfl rfl Try.func30 (by kernel_rfl) rfl #[.int .i64 a0_1,.slice A0_6 l0_6.length c0_6] rfl (by (try simp only [List.map_toArray,List.map_cons,List.map_nil]);first|done|rfl|(simp only [List.length_drop,List.length_take];rfl)) ?_;(with_reducible refine (slipwayref06_Records.calls kj1 a0_1 _ _ l0_6 t645 t646 t647 t648 t649 t652 t655 t658 _ ?side1 ?side2 A9.out).mono ?_);(case side1=>repeat (first|exact (Kd.C_below HR0_6.out HB.out)|(with_reducible refine Kd.C_alloc ?_ _)|(with_reducible refine Kd.C_drewN ?_ _)|(with_reducible refine Kd.C_drew ?_)));(case side2=>exact HC0_6.out);rintro e w42 ⟨v650,v653,v656,rfl,ho0,ho1,ho2,hb⟩;refine ⟨_,rfl,?_⟩;have n0_:=zm (Kd.R_lower ho0 (below_size (by repeat (first|(with_reducible first|exact HB.out|apply zlA|apply zlN|apply zlD|refine zlS ?_ GE644.out)|exact HB.out))));have n1_:=zm (Kd.R_lower ho1 (below_size (by repeat (first|(with_reducible first|exact HB.out|apply zlA|apply zlN|apply zlD|refine zlS ?_ GE644.out)|exact HB.out))));have n2_:=zm (Kd.R_lower ho2 (below_size (by repeat (first|(with_reducible first|exact HB.out|apply zlA|apply zlN|apply zlD|refine zlS ?_ GE644.out)|exact HB.out))));have n3_:=zm (zbB (g:=gb644) (o:=.cells #[.int .i64 a0_0,.int .i64 a0_1,.int .i64 a0_2,.int .i64 a0_3,.slice A0_4 l0_4.length c0_4,.slice A0_5 l0_5.length c0_5,.slice A0_6 l0_6.length c0_6] 42 (0,0)) (by (with_reducible repeat (first|refine zbN ?_ _|refine zbD ?_|refine zbA ?_ _));exact BK644.out) hb);have n4_:=zm (below_step (by repeat (first|(with_reducible first|exact HB.out|apply zlA|apply zlN|apply zlD|refine zlS ?_ GE644.out)|exact HB.out)) hb);clear BK644 HB;have HO651:=n0_;have HO654:=n1_;have HO657:=n2_;have BK644:=n3_;have HB:=n4_;clear n0_ n1_ n2_ n3_ n4_;(try clear hb);(try clear hb2);(try clear hk);(try clear hi);(try clear ho0);(try clear ho1);(try clear ho2))|((with_reducible refine gate_dst (N:=3) rfl ?_);(try (refine gate_guard (by rfl) ?_;dsimp only));refine box_event ?hg (N:=3) ?hd (cs:=#[.int .i64 0,.int .i64 0,.int .i64 0,.int .i64 0,.slice none 0 0,.slice none 0 0,.slice none 0 0]) (t:=42) ?hr ?_;(case hd=>rfl);(case hg=>rfl);(case hr=>first|(go_simp;done)|(go_simp;rfl));intro gb659 hg w43 hbox hb;have n0_:=zm (Kd.R_below (by (with_reducible repeat (first|apply zrA|apply zrN|apply zrD));exact HO651.out) hb);have n1_:=zm (Kd.R_below (by (with_reducible repeat (first|apply zrA|apply zrN|apply zrD));exact HO654.out) hb);have n2_:=zm (Kd.R_below (by (with_reducible repeat (first|apply zrA|apply zrN|apply zrD));exact HO657.out) hb);have n3_:=zm (zbB (g:=gb644) (o:=.cells #[.int .i64 a0_0,.int .i64 a0_1,.int .i64 a0_2,.int .i64 a0_3,.slice A0_4 l0_4.length c0_4,.slice A0_5 l0_5.length c0_5,.slice A0_6 l0_6.length c0_6] 42 (0,0)) (by (with_reducible repeat (first|refine zbN ?_ _|refine zbD ?_|refine zbA ?_ _));exact BK644.out) hb);have n4_:=zm (below_step (by repeat (first|(with_reducible first|exact HB.out|apply zlA|apply zlN|apply zlD|refine zlS ?_ GE644.out)|exact HB.out)) hb);have n5_:=zm (hbox);have n6_:=zm ((by rw [hg];exact (below_size (by repeat (first|(with_reducible first|exact HB.out|apply zlA|apply zlN|apply zlD|refine zlS ?_ GE644.out)|exact HB.out))):w.heap.size≤gb659));have n7_:=zm ((by rw [hg];exact (below_size (by repeat (first|(with_reducible first|exact HB.out|apply zlA|apply zlN|apply zlD|refine zlS ?_ GE644.out)|exact HB.out))):w.heap.size≤gb659));have n8_:=zm ((by rw [hg];exact Nat.ne_of_lt (blk_lt (g:=gb644) (o:=.cells #[.int .i64 a0_0,.int .i64 a0_1,.int .i64 a0_2,.int .i64 a0_3,.slice A0_4 l0_4.length c0_4,.slice A0_5 l0_5.length c0_5,.slice A0_6 l0_6.length c0_6] 42 (0,0)) (by (with_reducible repeat (first|refine zbN ?_ _|refine zbD ?_|refine zbA ?_ _));exact BK644.out)):gb644≠gb659));have n9_:=zm ((by rw [hg];exact Nat.ne_of_gt (blk_lt (g:=gb644) (o:=.cells #[.int .i64 a0_0,.int .i64 a0_1,.int .i64 a0_2,.int .i64 a0_3,.slice A0_4 l0_4.length c0_4,.slice A0_5 l0_5.length c0_5,.slice A0_6 l0_6.length c0_6] 42 (0,0)) (by (with_reducible repeat (first|refine zbN ?_ _|refine zbD ?_|refine zbA ?_ _));exact BK644.out)):gb659≠gb644));clear HO651 HO654 HO657 BK644 HB;have HO651:=n0_;have HO654:=n1_;have HO657:=n2_;have BK644:=n3_;have HB:=n4_;have BK659:=n5_;have GW659:=n6_;have GE659:=n7_;have NB644_659:=n8_;have NB659_644:=n9_;clear n0_ n1_ n2_ n3_ n4_ n5_ n6_ n7_ n8_ n9_;clear hb hbox hg;have hnb44:=NB659_644.out;have hnc44:=NB644_659.out;have hcz45_0:w43.cell? ⟨gb659,0,none⟩=some (.int .i64 0):=(blk_cell BK659.out 0).trans rfl;have hcz45_1:w43.cell? ⟨gb659,1,none⟩=some (.int .i64 0):=(blk_cell BK659.out 1).trans rfl;have hcz45_2:w43.cell? ⟨gb659,2,none⟩=some (.int .i64 0):=(blk_cell BK659.out 2).trans rfl;have hcz45_3:w43.cell? ⟨gb659,3,none⟩=some (.int .i64 0):=(blk_cell BK659.out 3).trans rfl;have hcz45_4:w43.cell? ⟨gb659,4,none⟩=some (.slice none 0 0):=(blk_cell BK659.out 4).trans rfl;have hcz45_5:w43.cell? ⟨gb659,5,none⟩=some (.slice none 0 0):=(blk_cell BK659.out 5).trans rfl;have hcz45_6:w43.cell? ⟨gb659,6,none⟩=some (.slice none 0 0):=(blk_cell BK659.out 6).trans rfl;have hfz45_0:=blk_frozen BK659.out 0;have hfz45_1:=blk_frozen BK659.out 1;have hfz45_2:=blk_frozen BK659.out 2;have hfz45_3:=blk_frozen BK659.out 3;have hfz45_4:=blk_frozen BK659.out 4;have hfz45_5:=blk_frozen BK659.out 5;have hfz45_6:=blk_frozen BK659.out 6;obtain ⟨Ao46,co46,eo46⟩:=Kd.R_slice HO651.out;subst eo46;obtain ⟨Ao47,co47,eo47⟩:=Kd.R_slice HO654.out;subst eo47;obtain ⟨Ao48,co48,eo48⟩:=Kd.R_slice HO657.out;subst eo48;have hcz49_0:w43.cell? ⟨gb644,0,none⟩=some (.int .i64 a0_0):=(blk_cell BK644.out 0).trans rfl;have hcz49_1:w43.cell? ⟨gb644,1,none⟩=some (.int .i64 a0_1):=(blk_cell BK644.out 1).trans rfl;have hcz49_2:w43.cell? ⟨gb644,2,none⟩=some (.int .i64 a0_2):=(blk_cell BK644.out 2).trans rfl;have hcz49_3:w43.cell? ⟨gb644,3,none⟩=some (.int .i64 a0_3):=(blk_cell BK644.out 3).trans rfl;have hcz49_4:w43.cell? ⟨gb644,4,none⟩=some (.slice A0_4 l0_4.length c0_4):=(blk_cell BK644.out 4).trans rfl;have hcz49_5:w43.cell? ⟨gb644,5,none⟩=some (.slice A0_5 l0_5.length c0_5):=(blk_cell BK644.out 5).trans rfl;have hcz49_6:w43.cell? ⟨gb644,6,none⟩=some (.slice A0_6 l0_6.length c0_6):=(blk_cell BK644.out 6).trans rfl;have hfz49_0:=blk_frozen BK644.out 0;have hfz49_1:=blk_frozen BK644.out 1;have hfz49_2:=blk_frozen BK644.out 2;have hfz49_3:=blk_frozen BK644.out 3;have hfz49_4:=blk_frozen BK644.out 4;have hfz49_5:=blk_frozen BK644.out 5;have hfz49_6:=blk_frozen BK644.out 6))
       go_ret
       exact ⟨by first|rfl|(simp [errW_none,errW_some] <;> rfl)|(simp [*,errW_none,errW_some] <;> rfl),by repeat (first|(with_reducible first|exact HB.out|apply zlA|apply zlN|apply zlD|refine zlS ?_ GE644.out|refine zlS ?_ GE659.out)|exact HB.out)⟩
     ·rw [if_neg c10] at H
      have c10b0:(t658 == 0)=false:=beq_eq_false_iff_ne.mpr c10
      have c10b1:(t658 != 0)=true:=bne_iff_ne.mpr c10
      obtain rfl:=Option.some.inj H
      have hcz50_0:wc.cell? ⟨gb644,0,none⟩=some (.int .i64 a0_0):=(blk_cell BK644.out 0).trans rfl
      have hcz50_1:wc.cell? ⟨gb644,1,none⟩=some (.int .i64 a0_1):=(blk_cell BK644.out 1).trans rfl
      have hcz50_2:wc.cell? ⟨gb644,2,none⟩=some (.int .i64 a0_2):=(blk_cell BK644.out 2).trans rfl
      have hcz50_3:wc.cell? ⟨gb644,3,none⟩=some (.int .i64 a0_3):=(blk_cell BK644.out 3).trans rfl
      have hcz50_4:wc.cell? ⟨gb644,4,none⟩=some (.slice A0_4 l0_4.length c0_4):=(blk_cell BK644.out 4).trans rfl
      have hcz50_5:wc.cell? ⟨gb644,5,none⟩=some (.slice A0_5 l0_5.length c0_5):=(blk_cell BK644.out 5).trans rfl
      have hcz50_6:wc.cell? ⟨gb644,6,none⟩=some (.slice A0_6 l0_6.length c0_6):=(blk_cell BK644.out 6).trans rfl
      have hfz50_0:=blk_frozen BK644.out 0
      have hfz50_1:=blk_frozen BK644.out 1
      have hfz50_2:=blk_frozen BK644.out 2
      have hfz50_3:=blk_frozen BK644.out 3
      have hfz50_4:=blk_frozen BK644.out 4
      have hfz50_5:=blk_frozen BK644.out 5
      have hfz50_6:=blk_frozen BK644.out 6
      go_wp2_with (first|((with_reducible refine gate_callee (f:=30) rfl ?_);refine goesL_ (some 22) rfl rfl Try.func30 (by kernel_rfl) rfl #[.int .i64 a0_1,.slice A0_6 l0_6.length c0_6] rfl (by (try simp only [List.map_toArray,List.map_cons,List.map_nil]);first|done|rfl|(simp only [List.length_drop,List.length_take];rfl)) ?_;(with_reducible refine (slipwayref06_Records.calls kj1 a0_1 _ _ l0_6 t645 t646 t647 t648 t649 t652 t655 t658 _ ?side1 ?side2 A9.out).mono ?_);(case side1=>repeat (first|exact (Kd.C_below HR0_6.out HB.out)|(with_reducible refine Kd.C_alloc ?_ _)|(with_reducible refine Kd.C_drewN ?_ _)|(with_reducible refine Kd.C_drew ?_)));(case side2=>exact HC0_6.out);rintro e w51 ⟨v650,v653,v656,rfl,ho0,ho1,ho2,hb⟩;refine ⟨_,rfl,?_⟩;have n0_:=zm (Kd.R_lower ho0 (below_size (by repeat (first|(with_reducible first|exact HB.out|apply zlA|apply zlN|apply zlD|refine zlS ?_ GE644.out)|exact HB.out))));have n1_:=zm (Kd.R_lower ho1 (below_size (by repeat (first|(with_reducible first|exact HB.out|apply zlA|apply zlN|apply zlD|refine zlS ?_ GE644.out)|exact HB.out))));have n2_:=zm (Kd.R_lower ho2 (below_size (by repeat (first|(with_reducible first|exact HB.out|apply zlA|apply zlN|apply zlD|refine zlS ?_ GE644.out)|exact HB.out))));have n3_:=zm (zbB (g:=gb644) (o:=.cells #[.int .i64 a0_0,.int .i64 a0_1,.int .i64 a0_2,.int .i64 a0_3,.slice A0_4 l0_4.length c0_4,.slice A0_5 l0_5.length c0_5,.slice A0_6 l0_6.length c0_6] 42 (0,0)) (by (with_reducible repeat (first|refine zbN ?_ _|refine zbD ?_|refine zbA ?_ _));exact BK644.out) hb);have n4_:=zm (below_step (by repeat (first|(with_reducible first|exact HB.out|apply zlA|apply zlN|apply zlD|refine zlS ?_ GE644.out)|exact HB.out)) hb);clear BK644 HB;have HO651:=n0_;have HO654:=n1_;have HO657:=n2_;have BK644:=n3_;have HB:=n4_;clear n0_ n1_ n2_ n3_ n4_;(try clear hb);(try clear hb2);(try clear hk);(try clear hi);(try clear ho0);(try clear ho1);(try clear ho2))|((with_reducible refine gate_dst (N:=3) rfl ?_);(try (refine gate_guard (by rfl) ?_;dsimp only));refine box_event ?hg (N:=3) ?hd (cs:=#[.int .i64 0,.int .i64 0,.int .i64 0,.int .i64 0,.slice none 0 0,.slice none 0 0,.slice none 0 0]) (t:=42) ?hr ?_;(case hd=>rfl);(case hg=>rfl);(case hr=>first|(go_simp;done)|(go_simp;rfl));intro gb659 hg w52 hbox hb;have n0_:=zm (Kd.R_below (by (with_reducible repeat (first|apply zrA|apply zrN|apply zrD));exact HO651.out) hb);have n1_:=zm (Kd.R_below (by (with_reducible repeat (first|apply zrA|apply zrN|apply zrD));exact HO654.out) hb);have n2_:=zm (Kd.R_below (by (with_reducible repeat (first|apply zrA|apply zrN|apply zrD));exact HO657.out) hb);have n3_:=zm (zbB (g:=gb644) (o:=.cells #[.int .i64 a0_0,.int .i64 a0_1,.int .i64 a0_2,.int .i64 a0_3,.slice A0_4 l0_4.length c0_4,.slice A0_5 l0_5.length c0_5,.slice A0_6 l0_6.length c0_6] 42 (0,0)) (by (with_reducible repeat (first|refine zbN ?_ _|refine zbD ?_|refine zbA ?_ _));exact BK644.out) hb);have n4_:=zm (below_step (by repeat (first|(with_reducible first|exact HB.out|apply zlA|apply zlN|apply zlD|refine zlS ?_ GE644.out)|exact HB.out)) hb);have n5_:=zm (hbox);have n6_:=zm ((by rw [hg];exact (below_size (by repeat (first|(with_reducible first|exact HB.out|apply zlA|apply zlN|apply zlD|refine zlS ?_ GE644.out)|exact HB.out))):w.heap.size≤gb659));have n7_:=zm ((by rw [hg];exact (below_size (by repeat (first|(with_reducible first|exact HB.out|apply zlA|apply zlN|apply zlD|refine zlS ?_ GE644.out)|exact HB.out))):w.heap.size≤gb659));have n8_:=zm ((by rw [hg];exact Nat.ne_of_lt (blk_lt (g:=gb644) (o:=.cells #[.int .i64 a0_0,.int .i64 a0_1,.int .i64 a0_2,.int .i64 a0_3,.slice A0_4 l0_4.length c0_4,.slice A0_5 l0_5.length c0_5,.slice A0_6 l0_6.length c0_6] 42 (0,0)) (by (with_reducible repeat (first|refine zbN ?_ _|refine zbD ?_|refine zbA ?_ _));exact BK644.out)):gb644≠gb659));have n9_:=zm ((by rw [hg];exact Nat.ne_of_gt (blk_lt (g:=gb644) (o:=.cells #[.int .i64 a0_0,.int .i64 a0_1,.int .i64 a0_2,.int .i64 a0_3,.slice A0_4 l0_4.length c0_4,.slice A0_5 l0_5.length c0_5,.slice A0_6 l0_6.length c0_6] 42 (0,0)) (by (with_reducible repeat (first|refine zbN ?_ _|refine zbD ?_|refine zbA ?_ _));exact BK644.out)):gb659≠gb644));clear HO651 HO654 HO657 BK644 HB;have HO651:=n0_;have HO654:=n1_;have HO657:=n2_;have BK644:=n3_;have HB:=n4_;have BK659:=n5_;have GW659:=n6_;have GE659:=n7_;have NB644_659:=n8_;have NB659_644:=n9_;clear n0_ n1_ n2_ n3_ n4_ n5_ n6_ n7_ n8_ n9_;clear hb hbox hg;have hnb53:=NB659_644.out;have hnc53:=NB644_659.out;have hcz54_0:w52.cell? ⟨gb659,0,none⟩=some (.int .i64 0):=(blk_cell BK659.out 0).trans rfl;have hcz54_1:w52.cell? ⟨gb659,1,none⟩=some (.int .i64 0):=(blk_cell BK659.out 1).trans rfl;have hcz54_2:w52.cell? ⟨gb659,2,none⟩=some (.int .i64 0):=(blk_cell BK659.out 2).trans rfl;have hcz54_3:w52.cell? ⟨gb659,3,none⟩=some (.int .i64 0):=(blk_cell BK659.out 3).trans rfl;have hcz54_4:w52.cell? ⟨gb659,4,none⟩=some (.slice none 0 0):=(blk_cell BK659.out 4).trans rfl;have hcz54_5:w52.cell? ⟨gb659,5,none⟩=some (.slice none 0 0):=(blk_cell BK659.out 5).trans rfl;have hcz54_6:w52.cell? ⟨gb659,6,none⟩=some (.slice none 0 0):=(blk_cell BK659.out 6).trans rfl;have hfz54_0:=blk_frozen BK659.out 0;have hfz54_1:=blk_frozen BK659.out 1;have hfz54_2:=blk_frozen BK659.out 2;have hfz54_3:=blk_frozen BK659.out 3;have hfz54_4:=blk_frozen BK659.out 4;have hfz54_5:=blk_frozen BK659.out 5;have hfz54_6:=blk_frozen BK659.out 6;obtain ⟨Ao55,co55,eo55⟩:=Kd.R_slice HO651.out;subst eo55;obtain ⟨Ao56,co56,eo56⟩:=Kd.R_slice HO654.out;subst eo56;obtain ⟨Ao57,co57,eo57⟩:=Kd.R_slice HO657.out;subst eo57))
      go_ret
      exact ⟨by first|rfl|(simp [errW_none,errW_some] <;> rfl)|(simp [*,errW_none,errW_some] <;> rfl),by repeat (first|(with_reducible first|exact HB.out|apply zlA|apply zlN|apply zlD|refine zlS ?_ GE644.out|refine zlS ?_ GE659.out)|exact HB.out)⟩
    ·rw [if_neg c8] at H
     have c8b0:(a0_0 == 2)=false:=beq_eq_false_iff_ne.mpr c8
     have c8b1:(a0_0 != 2)=true:=bne_iff_ne.mpr c8
     have HC58:=zm H
     clear H
     have hcz59_0:wc.cell? ⟨gb644,0,none⟩=some (.int .i64 a0_0):=(blk_cell BK644.out 0).trans rfl
     have hcz59_1:wc.cell? ⟨gb644,1,none⟩=some (.int .i64 a0_1):=(blk_cell BK644.out 1).trans rfl
     have hcz59_2:wc.cell? ⟨gb644,2,none⟩=some (.int .i64 a0_2):=(blk_cell BK644.out 2).trans rfl
     have hcz59_3:wc.cell? ⟨gb644,3,none⟩=some (.int .i64 a0_3):=(blk_cell BK644.out 3).trans rfl
     have hcz59_4:wc.cell? ⟨gb644,4,none⟩=some (.slice A0_4 l0_4.length c0_4):=(blk_cell BK644.out 4).trans rfl
     have hcz59_5:wc.cell? ⟨gb644,5,none⟩=some (.slice A0_5 l0_5.length c0_5):=(blk_cell BK644.out 5).trans rfl
     have hcz59_6:wc.cell? ⟨gb644,6,none⟩=some (.slice A0_6 l0_6.length c0_6):=(blk_cell BK644.out 6).trans rfl
     have hfz59_0:=blk_frozen BK644.out 0
     have hfz59_1:=blk_frozen BK644.out 1
     have hfz59_2:=blk_frozen BK644.out 2
     have hfz59_3:=blk_frozen BK644.out 3
     have hfz59_4:=blk_frozen BK644.out 4
     have hfz59_5:=blk_frozen BK644.out 5
     have hfz59_6:=blk_frozen BK644.out 6
     go_upto_region 6 with (fail)
     go_cut [98] (fun v98 wc=>∃ (kq:Nat) (x98_57:Bool),v98=.bool x98_57∧Aside0 (slipwayref06_page.j1 kq x98_57 a0_0 a0_1 a0_2 a0_3 l0_4 l0_5 l0_6=some r)∧Aside0 (kq≤kj1)∧Aside0 (wc.heap[gb644]?=some (.cells #[.int .i64 a0_0,.int .i64 a0_1,.int .i64 a0_2,.int .i64 a0_3,(.slice A0_4 l0_4.length c0_4),(.slice A0_5 l0_5.length c0_5),(.slice A0_6 l0_6.length c0_6)] 42 (0,0)))∧Aside0 (Below w.heap.size w wc))
     case first =>
      have H:=HC58.out
      clear HC58
      by_cases c60:a0_0=1
      ·rw [if_pos c60] at H
       have c60b0:(a0_0 == 1)=true:=beq_iff_eq.mpr c60
       have c60b1:(a0_0 != 1)=false:=bne_eq_false_iff_eq.mpr c60
       clear c60
       (first|rw [c60b0]|(simp only [i64_w,i32_w];rw [c60b0])|skip)
       by_cases c61:a0_2 < 0
       ·rw [if_pos c61] at H
        have c61b0:decide (a0_2 < 0)=true:=decide_eq_true c61
        clear c61
        have H':=zm H
        clear H
        have hcz62_0:wc.cell? ⟨gb644,0,none⟩=some (.int .i64 a0_0):=(blk_cell BK644.out 0).trans rfl
        have hcz62_1:wc.cell? ⟨gb644,1,none⟩=some (.int .i64 a0_1):=(blk_cell BK644.out 1).trans rfl
        have hcz62_2:wc.cell? ⟨gb644,2,none⟩=some (.int .i64 a0_2):=(blk_cell BK644.out 2).trans rfl
        have hcz62_3:wc.cell? ⟨gb644,3,none⟩=some (.int .i64 a0_3):=(blk_cell BK644.out 3).trans rfl
        have hcz62_4:wc.cell? ⟨gb644,4,none⟩=some (.slice A0_4 l0_4.length c0_4):=(blk_cell BK644.out 4).trans rfl
        have hcz62_5:wc.cell? ⟨gb644,5,none⟩=some (.slice A0_5 l0_5.length c0_5):=(blk_cell BK644.out 5).trans rfl
        have hcz62_6:wc.cell? ⟨gb644,6,none⟩=some (.slice A0_6 l0_6.length c0_6):=(blk_cell BK644.out 6).trans rfl
        have hfz62_0:=blk_frozen BK644.out 0
        have hfz62_1:=blk_frozen BK644.out 1
        have hfz62_2:=blk_frozen BK644.out 2
        have hfz62_3:=blk_frozen BK644.out 3
        have hfz62_4:=blk_frozen BK644.out 4
        have hfz62_5:=blk_frozen BK644.out 5
        have hfz62_6:=blk_frozen BK644.out 6
        go_wp2
        go_meet
        case rel=>exact ⟨_,(true),(by first|rfl|(simp;done)|(simp [*];done)),H',⟨by have:=HJ1.out;first|omega|exact Nat.le_refl _⟩,⟨by (with_reducible repeat (first|refine zbN ?_ _|refine zbD ?_|refine zbA ?_ _));exact BK644.out⟩,⟨by repeat (first|(with_reducible first|exact HB.out|apply zlA|apply zlN|apply zlD|refine zlS ?_ GE644.out)|exact HB.out)⟩⟩
       ·rw [if_neg c61] at H
        have c61b0:decide (a0_2 < 0)=false:=decide_eq_false c61
        clear c61
        by_cases c63:a0_2 > 3
        ·rw [if_pos c63] at H
         have c63b0:decide (3 < a0_2)=true:=decide_eq_true c63
         clear c63
         have H':=zm H
         clear H
         have hcz64_0:wc.cell? ⟨gb644,0,none⟩=some (.int .i64 a0_0):=(blk_cell BK644.out 0).trans rfl
         have hcz64_1:wc.cell? ⟨gb644,1,none⟩=some (.int .i64 a0_1):=(blk_cell BK644.out 1).trans rfl
         have hcz64_2:wc.cell? ⟨gb644,2,none⟩=some (.int .i64 a0_2):=(blk_cell BK644.out 2).trans rfl
         have hcz64_3:wc.cell? ⟨gb644,3,none⟩=some (.int .i64 a0_3):=(blk_cell BK644.out 3).trans rfl
         have hcz64_4:wc.cell? ⟨gb644,4,none⟩=some (.slice A0_4 l0_4.length c0_4):=(blk_cell BK644.out 4).trans rfl
         have hcz64_5:wc.cell? ⟨gb644,5,none⟩=some (.slice A0_5 l0_5.length c0_5):=(blk_cell BK644.out 5).trans rfl
         have hcz64_6:wc.cell? ⟨gb644,6,none⟩=some (.slice A0_6 l0_6.length c0_6):=(blk_cell BK644.out 6).trans rfl
         have hfz64_0:=blk_frozen BK644.out 0
         have hfz64_1:=blk_frozen BK644.out 1
         have hfz64_2:=blk_frozen BK644.out 2
         have hfz64_3:=blk_frozen BK644.out 3
         have hfz64_4:=blk_frozen BK644.out 4
         have hfz64_5:=blk_frozen BK644.out 5
         have hfz64_6:=blk_frozen BK644.out 6
         go_wp2
         go_meet
         case rel=>exact ⟨_,(true),(by first|rfl|(simp;done)|(simp [*];done)),H',⟨by have:=HJ1.out;first|omega|exact Nat.le_refl _⟩,⟨by (with_reducible repeat (first|refine zbN ?_ _|refine zbD ?_|refine zbA ?_ _));exact BK644.out⟩,⟨by repeat (first|(with_reducible first|exact HB.out|apply zlA|apply zlN|apply zlD|refine zlS ?_ GE644.out)|exact HB.out)⟩⟩
        ·rw [if_neg c63] at H
         have c63b0:decide (3 < a0_2)=false:=decide_eq_false c63
         clear c63
         by_cases c65:a0_3 < 0
         ·rw [if_pos c65] at H
          have c65b0:decide (a0_3 < 0)=true:=decide_eq_true c65
          clear c65
          have H':=zm H
          clear H
          have hcz66_0:wc.cell? ⟨gb644,0,none⟩=some (.int .i64 a0_0):=(blk_cell BK644.out 0).trans rfl
          have hcz66_1:wc.cell? ⟨gb644,1,none⟩=some (.int .i64 a0_1):=(blk_cell BK644.out 1).trans rfl
          have hcz66_2:wc.cell? ⟨gb644,2,none⟩=some (.int .i64 a0_2):=(blk_cell BK644.out 2).trans rfl
          have hcz66_3:wc.cell? ⟨gb644,3,none⟩=some (.int .i64 a0_3):=(blk_cell BK644.out 3).trans rfl
          have hcz66_4:wc.cell? ⟨gb644,4,none⟩=some (.slice A0_4 l0_4.length c0_4):=(blk_cell BK644.out 4).trans rfl
          have hcz66_5:wc.cell? ⟨gb644,5,none⟩=some (.slice A0_5 l0_5.length c0_5):=(blk_cell BK644.out 5).trans rfl
          have hcz66_6:wc.cell? ⟨gb644,6,none⟩=some (.slice A0_6 l0_6.length c0_6):=(blk_cell BK644.out 6).trans rfl
          have hfz66_0:=blk_frozen BK644.out 0
          have hfz66_1:=blk_frozen BK644.out 1
          have hfz66_2:=blk_frozen BK644.out 2
          have hfz66_3:=blk_frozen BK644.out 3
          have hfz66_4:=blk_frozen BK644.out 4
          have hfz66_5:=blk_frozen BK644.out 5
          have hfz66_6:=blk_frozen BK644.out 6
          go_wp2
          go_meet
          case rel=>exact ⟨_,(true),(by first|rfl|(simp;done)|(simp [*];done)),H',⟨by have:=HJ1.out;first|omega|exact Nat.le_refl _⟩,⟨by (with_reducible repeat (first|refine zbN ?_ _|refine zbD ?_|refine zbA ?_ _));exact BK644.out⟩,⟨by repeat (first|(with_reducible first|exact HB.out|apply zlA|apply zlN|apply zlD|refine zlS ?_ GE644.out)|exact HB.out)⟩⟩
         ·rw [if_neg c65] at H
          have c65b0:decide (a0_3 < 0)=false:=decide_eq_false c65
          clear c65
          by_cases c67:a0_3 > 1152921504606846976
          ·rw [if_pos c67] at H
           have c67b0:decide (1152921504606846976 < a0_3)=true:=decide_eq_true c67
           clear c67
           have H':=zm H
           clear H
           have hcz68_0:wc.cell? ⟨gb644,0,none⟩=some (.int .i64 a0_0):=(blk_cell BK644.out 0).trans rfl
           have hcz68_1:wc.cell? ⟨gb644,1,none⟩=some (.int .i64 a0_1):=(blk_cell BK644.out 1).trans rfl
           have hcz68_2:wc.cell? ⟨gb644,2,none⟩=some (.int .i64 a0_2):=(blk_cell BK644.out 2).trans rfl
           have hcz68_3:wc.cell? ⟨gb644,3,none⟩=some (.int .i64 a0_3):=(blk_cell BK644.out 3).trans rfl
           have hcz68_4:wc.cell? ⟨gb644,4,none⟩=some (.slice A0_4 l0_4.length c0_4):=(blk_cell BK644.out 4).trans rfl
           have hcz68_5:wc.cell? ⟨gb644,5,none⟩=some (.slice A0_5 l0_5.length c0_5):=(blk_cell BK644.out 5).trans rfl
           have hcz68_6:wc.cell? ⟨gb644,6,none⟩=some (.slice A0_6 l0_6.length c0_6):=(blk_cell BK644.out 6).trans rfl
           have hfz68_0:=blk_frozen BK644.out 0
           have hfz68_1:=blk_frozen BK644.out 1
           have hfz68_2:=blk_frozen BK644.out 2
           have hfz68_3:=blk_frozen BK644.out 3
           have hfz68_4:=blk_frozen BK644.out 4
           have hfz68_5:=blk_frozen BK644.out 5
           have hfz68_6:=blk_frozen BK644.out 6
           go_wp2
           go_meet
           case rel=>exact ⟨_,(true),(by first|rfl|(simp;done)|(simp [*];done)),H',⟨by have:=HJ1.out;first|omega|exact Nat.le_refl _⟩,⟨by (with_reducible repeat (first|refine zbN ?_ _|refine zbD ?_|refine zbA ?_ _));exact BK644.out⟩,⟨by repeat (first|(with_reducible first|exact HB.out|apply zlA|apply zlN|apply zlD|refine zlS ?_ GE644.out)|exact HB.out)⟩⟩
          ·rw [if_neg c67] at H
           have c67b0:decide (1152921504606846976 < a0_3)=false:=decide_eq_false c67
           clear c67
           by_cases c69:(l0_6.length:Int) > 0
           ·rw [if_pos c69] at H
            have c69b0:decide (0 < (l0_6.length:Int))=true:=decide_eq_true c69
            have c69b1:decide (0 < l0_6.length)=true:=decide_eq_true (by omega)
            clear c69
            have H':=zm H
            clear H
            have hcz70_0:wc.cell? ⟨gb644,0,none⟩=some (.int .i64 a0_0):=(blk_cell BK644.out 0).trans rfl
            have hcz70_1:wc.cell? ⟨gb644,1,none⟩=some (.int .i64 a0_1):=(blk_cell BK644.out 1).trans rfl
            have hcz70_2:wc.cell? ⟨gb644,2,none⟩=some (.int .i64 a0_2):=(blk_cell BK644.out 2).trans rfl
            have hcz70_3:wc.cell? ⟨gb644,3,none⟩=some (.int .i64 a0_3):=(blk_cell BK644.out 3).trans rfl
            have hcz70_4:wc.cell? ⟨gb644,4,none⟩=some (.slice A0_4 l0_4.length c0_4):=(blk_cell BK644.out 4).trans rfl
            have hcz70_5:wc.cell? ⟨gb644,5,none⟩=some (.slice A0_5 l0_5.length c0_5):=(blk_cell BK644.out 5).trans rfl
            have hcz70_6:wc.cell? ⟨gb644,6,none⟩=some (.slice A0_6 l0_6.length c0_6):=(blk_cell BK644.out 6).trans rfl
            have hfz70_0:=blk_frozen BK644.out 0
            have hfz70_1:=blk_frozen BK644.out 1
            have hfz70_2:=blk_frozen BK644.out 2
            have hfz70_3:=blk_frozen BK644.out 3
            have hfz70_4:=blk_frozen BK644.out 4
            have hfz70_5:=blk_frozen BK644.out 5
            have hfz70_6:=blk_frozen BK644.out 6
            go_wp2
            go_meet
            case rel=>exact ⟨_,(true),(by first|rfl|(simp;done)|(simp [*];done)),H',⟨by have:=HJ1.out;first|omega|exact Nat.le_refl _⟩,⟨by (with_reducible repeat (first|refine zbN ?_ _|refine zbD ?_|refine zbA ?_ _));exact BK644.out⟩,⟨by repeat (first|(with_reducible first|exact HB.out|apply zlA|apply zlN|apply zlD|refine zlS ?_ GE644.out)|exact HB.out)⟩⟩
           ·rw [if_neg c69] at H
            have c69b0:decide (0 < (l0_6.length:Int))=false:=decide_eq_false c69
            have c69b1:decide (0 < l0_6.length)=false:=decide_eq_false (by omega)
            clear c69
            by_cases c71:(l0_4.length:Int) < 1
            ·rw [if_pos c71] at H
             have c71b0:decide ((l0_4.length:Int) < 1)=true:=decide_eq_true c71
             have c71b1:decide (l0_4.length < 1)=true:=decide_eq_true (by omega)
             clear c71
             have H':=zm H
             clear H
             have hcz72_0:wc.cell? ⟨gb644,0,none⟩=some (.int .i64 a0_0):=(blk_cell BK644.out 0).trans rfl
             have hcz72_1:wc.cell? ⟨gb644,1,none⟩=some (.int .i64 a0_1):=(blk_cell BK644.out 1).trans rfl
             have hcz72_2:wc.cell? ⟨gb644,2,none⟩=some (.int .i64 a0_2):=(blk_cell BK644.out 2).trans rfl
             have hcz72_3:wc.cell? ⟨gb644,3,none⟩=some (.int .i64 a0_3):=(blk_cell BK644.out 3).trans rfl
             have hcz72_4:wc.cell? ⟨gb644,4,none⟩=some (.slice A0_4 l0_4.length c0_4):=(blk_cell BK644.out 4).trans rfl
             have hcz72_5:wc.cell? ⟨gb644,5,none⟩=some (.slice A0_5 l0_5.length c0_5):=(blk_cell BK644.out 5).trans rfl
             have hcz72_6:wc.cell? ⟨gb644,6,none⟩=some (.slice A0_6 l0_6.length c0_6):=(blk_cell BK644.out 6).trans rfl
             have hfz72_0:=blk_frozen BK644.out 0
             have hfz72_1:=blk_frozen BK644.out 1
             have hfz72_2:=blk_frozen BK644.out 2
             have hfz72_3:=blk_frozen BK644.out 3
             have hfz72_4:=blk_frozen BK644.out 4
             have hfz72_5:=blk_frozen BK644.out 5
             have hfz72_6:=blk_frozen BK644.out 6
             go_wp2
             go_meet
             case rel=>exact ⟨_,(true),(by first|rfl|(simp;done)|(simp [*];done)),H',⟨by have:=HJ1.out;first|omega|exact Nat.le_refl _⟩,⟨by (with_reducible repeat (first|refine zbN ?_ _|refine zbD ?_|refine zbA ?_ _));exact BK644.out⟩,⟨by repeat (first|(with_reducible first|exact HB.out|apply zlA|apply zlN|apply zlD|refine zlS ?_ GE644.out)|exact HB.out)⟩⟩
            ·rw [if_neg c71] at H
             have c71b0:decide ((l0_4.length:Int) < 1)=false:=decide_eq_false c71
             have c71b1:decide (l0_4.length < 1)=false:=decide_eq_false (by omega)
             clear c71
             by_cases c73:(l0_4.length:Int) > 64
             ·rw [if_pos c73] at H
              have c73b0:decide (64 < (l0_4.length:Int))=true:=decide_eq_true c73
              have c73b1:decide (64 < l0_4.length)=true:=decide_eq_true (by omega)
              clear c73
              have H':=zm H
              clear H
              have hcz74_0:wc.cell? ⟨gb644,0,none⟩=some (.int .i64 a0_0):=(blk_cell BK644.out 0).trans rfl
              have hcz74_1:wc.cell? ⟨gb644,1,none⟩=some (.int .i64 a0_1):=(blk_cell BK644.out 1).trans rfl
              have hcz74_2:wc.cell? ⟨gb644,2,none⟩=some (.int .i64 a0_2):=(blk_cell BK644.out 2).trans rfl
              have hcz74_3:wc.cell? ⟨gb644,3,none⟩=some (.int .i64 a0_3):=(blk_cell BK644.out 3).trans rfl
              have hcz74_4:wc.cell? ⟨gb644,4,none⟩=some (.slice A0_4 l0_4.length c0_4):=(blk_cell BK644.out 4).trans rfl
              have hcz74_5:wc.cell? ⟨gb644,5,none⟩=some (.slice A0_5 l0_5.length c0_5):=(blk_cell BK644.out 5).trans rfl
              have hcz74_6:wc.cell? ⟨gb644,6,none⟩=some (.slice A0_6 l0_6.length c0_6):=(blk_cell BK644.out 6).trans rfl
              have hfz74_0:=blk_frozen BK644.out 0
              have hfz74_1:=blk_frozen BK644.out 1
              have hfz74_2:=blk_frozen BK644.out 2
              have hfz74_3:=blk_frozen BK644.out 3
              have hfz74_4:=blk_frozen BK644.out 4
              have hfz74_5:=blk_frozen BK644.out 5
              have hfz74_6:=blk_frozen BK644.out 6
              go_wp2
              go_meet
              case rel=>exact ⟨_,(true),(by first|rfl|(simp;done)|(simp [*];done)),H',⟨by have:=HJ1.out;first|omega|exact Nat.le_refl _⟩,⟨by (with_reducible repeat (first|refine zbN ?_ _|refine zbD ?_|refine zbA ?_ _));exact BK644.out⟩,⟨by repeat (first|(with_reducible first|exact HB.out|apply zlA|apply zlN|apply zlD|refine zlS ?_ GE644.out)|exact HB.out)⟩⟩
             ·rw [if_neg c73] at H
              have c73b0:decide (64 < (l0_4.length:Int))=false:=decide_eq_false c73
              have c73b1:decide (64 < l0_4.length)=false:=decide_eq_false (by omega)
              clear c73
              have H':=zm H
              clear H
              have hcz75_0:wc.cell? ⟨gb644,0,none⟩=some (.int .i64 a0_0):=(blk_cell BK644.out 0).trans rfl
              have hcz75_1:wc.cell? ⟨gb644,1,none⟩=some (.int .i64 a0_1):=(blk_cell BK644.out 1).trans rfl
              have hcz75_2:wc.cell? ⟨gb644,2,none⟩=some (.int .i64 a0_2):=(blk_cell BK644.out 2).trans rfl
              have hcz75_3:wc.cell? ⟨gb644,3,none⟩=some (.int .i64 a0_3):=(blk_cell BK644.out 3).trans rfl
              have hcz75_4:wc.cell? ⟨gb644,4,none⟩=some (.slice A0_4 l0_4.length c0_4):=(blk_cell BK644.out 4).trans rfl
              have hcz75_5:wc.cell? ⟨gb644,5,none⟩=some (.slice A0_5 l0_5.length c0_5):=(blk_cell BK644.out 5).trans rfl
              have hcz75_6:wc.cell? ⟨gb644,6,none⟩=some (.slice A0_6 l0_6.length c0_6):=(blk_cell BK644.out 6).trans rfl
              have hfz75_0:=blk_frozen BK644.out 0
              have hfz75_1:=blk_frozen BK644.out 1
              have hfz75_2:=blk_frozen BK644.out 2
              have hfz75_3:=blk_frozen BK644.out 3
              have hfz75_4:=blk_frozen BK644.out 4
              have hfz75_5:=blk_frozen BK644.out 5
              have hfz75_6:=blk_frozen BK644.out 6
              go_wp2
              go_meet
              case rel=>exact ⟨_,(((l0_5.length:Int) != (l0_4.length:Int))),(by first|rfl|(simp;done)|(simp [*];done)),H',⟨by have:=HJ1.out;first|omega|exact Nat.le_refl _⟩,⟨by (with_reducible repeat (first|refine zbN ?_ _|refine zbD ?_|refine zbA ?_ _));exact BK644.out⟩,⟨by repeat (first|(with_reducible first|exact HB.out|apply zlA|apply zlN|apply zlD|refine zlS ?_ GE644.out)|exact HB.out)⟩⟩
      ·rw [if_neg c60] at H
       have c60b0:(a0_0 == 1)=false:=beq_eq_false_iff_ne.mpr c60
       have c60b1:(a0_0 != 1)=true:=bne_iff_ne.mpr c60
       (first|rw [c60b0]|(simp only [i64_w,i32_w];rw [c60b0])|skip)
       have H':=zm H
       clear H
       have hcz76_0:wc.cell? ⟨gb644,0,none⟩=some (.int .i64 a0_0):=(blk_cell BK644.out 0).trans rfl
       have hcz76_1:wc.cell? ⟨gb644,1,none⟩=some (.int .i64 a0_1):=(blk_cell BK644.out 1).trans rfl
       have hcz76_2:wc.cell? ⟨gb644,2,none⟩=some (.int .i64 a0_2):=(blk_cell BK644.out 2).trans rfl
       have hcz76_3:wc.cell? ⟨gb644,3,none⟩=some (.int .i64 a0_3):=(blk_cell BK644.out 3).trans rfl
       have hcz76_4:wc.cell? ⟨gb644,4,none⟩=some (.slice A0_4 l0_4.length c0_4):=(blk_cell BK644.out 4).trans rfl
       have hcz76_5:wc.cell? ⟨gb644,5,none⟩=some (.slice A0_5 l0_5.length c0_5):=(blk_cell BK644.out 5).trans rfl
       have hcz76_6:wc.cell? ⟨gb644,6,none⟩=some (.slice A0_6 l0_6.length c0_6):=(blk_cell BK644.out 6).trans rfl
       have hfz76_0:=blk_frozen BK644.out 0
       have hfz76_1:=blk_frozen BK644.out 1
       have hfz76_2:=blk_frozen BK644.out 2
       have hfz76_3:=blk_frozen BK644.out 3
       have hfz76_4:=blk_frozen BK644.out 4
       have hfz76_5:=blk_frozen BK644.out 5
       have hfz76_6:=blk_frozen BK644.out 6
       go_wp2
       go_meet
       case rel=>exact ⟨_,(true),(by first|rfl|(simp;done)|(simp [*];done)),H',⟨by have:=HJ1.out;first|omega|exact Nat.le_refl _⟩,⟨by (with_reducible repeat (first|refine zbN ?_ _|refine zbD ?_|refine zbA ?_ _));exact BK644.out⟩,⟨by repeat (first|(with_reducible first|exact HB.out|apply zlA|apply zlN|apply zlD|refine zlS ?_ GE644.out)|exact HB.out)⟩⟩
     case rest =>
      clear HC58
      try clear c1
      try clear c2
      try clear p2
      try clear c3
      try clear c4
      try clear c4b0
      try clear c5
      try clear c6
      try clear c7
      try clear c8
      try clear c8b0
      try clear c8b1
      try clear c10
      try clear c10b0
      try clear c10b1
      try clear c11
      try clear c11b0
      try clear c11b1
      try clear c12
      try clear c12b0
      try clear c12b1
      try clear c13
      try clear c13b0
      try clear c13b1
      try clear c13b2
      try clear c17
      try clear c26
      try clear c30
      try clear c35
      try clear c44
      try clear c53
      try clear c60
      try clear c60b0
      try clear c60b1
      try clear c61
      try clear c61b0
      try clear c63
      try clear c63b0
      try clear c65
      try clear c65b0
      try clear c67
      try clear c67b0
      try clear c69
      try clear c69b0
      try clear c69b1
      try clear c71
      try clear c71b0
      try clear c71b1
      try clear c73
      try clear c73b0
      try clear c73b1
      try clear hcz14_0
      try clear hcz14_1
      try clear hcz14_2
      try clear hcz14_3
      try clear hcz14_4
      try clear hcz14_5
      try clear hcz14_6
      try clear hcz18_0
      try clear hcz18_1
      try clear hcz18_2
      try clear hcz18_3
      try clear hcz18_4
      try clear hcz18_5
      try clear hcz18_6
      try clear hcz22_0
      try clear hcz22_1
      try clear hcz22_2
      try clear hcz22_3
      try clear hcz22_4
      try clear hcz22_5
      try clear hcz22_6
      try clear hcz23_0
      try clear hcz23_1
      try clear hcz23_2
      try clear hcz23_3
      try clear hcz23_4
      try clear hcz23_5
      try clear hcz23_6
      try clear hcz27_0
      try clear hcz27_1
      try clear hcz27_2
      try clear hcz27_3
      try clear hcz27_4
      try clear hcz27_5
      try clear hcz27_6
      try clear hcz31_0
      try clear hcz31_1
      try clear hcz31_2
      try clear hcz31_3
      try clear hcz31_4
      try clear hcz31_5
      try clear hcz31_6
      try clear hcz32_0
      try clear hcz32_1
      try clear hcz32_2
      try clear hcz32_3
      try clear hcz32_4
      try clear hcz32_5
      try clear hcz32_6
      try clear hcz36_0
      try clear hcz36_1
      try clear hcz36_2
      try clear hcz36_3
      try clear hcz36_4
      try clear hcz36_5
      try clear hcz36_6
      try clear hcz40_0
      try clear hcz40_1
      try clear hcz40_2
      try clear hcz40_3
      try clear hcz40_4
      try clear hcz40_5
      try clear hcz40_6
      try clear hcz41_0
      try clear hcz41_1
      try clear hcz41_2
      try clear hcz41_3
      try clear hcz41_4
      try clear hcz41_5
      try clear hcz41_6
      try clear hcz45_0
      try clear hcz45_1
      try clear hcz45_2
      try clear hcz45_3
      try clear hcz45_4
      try clear hcz45_5
      try clear hcz45_6
      try clear hcz49_0
      try clear hcz49_1
      try clear hcz49_2
      try clear hcz49_3
      try clear hcz49_4
      try clear hcz49_5
      try clear hcz49_6
      try clear hcz50_0
      try clear hcz50_1
      try clear hcz50_2
      try clear hcz50_3
      try clear hcz50_4
      try clear hcz50_5
      try clear hcz50_6
      try clear hcz54_0
      try clear hcz54_1
      try clear hcz54_2
      try clear hcz54_3
      try clear hcz54_4
      try clear hcz54_5
      try clear hcz54_6
      try clear hcz59_0
      try clear hcz59_1
      try clear hcz59_2
      try clear hcz59_3
      try clear hcz59_4
      try clear hcz59_5
      try clear hcz59_6
      try clear hcz5_0
      try clear hcz5_1
      try clear hcz5_2
      try clear hcz5_3
      try clear hcz5_4
      try clear hcz5_5
      try clear hcz5_6
      try clear hcz62_0
      try clear hcz62_1
      try clear hcz62_2
      try clear hcz62_3
      try clear hcz62_4
      try clear hcz62_5
      try clear hcz62_6
      try clear hcz64_0
      try clear hcz64_1
      try clear hcz64_2
      try clear hcz64_3
      try clear hcz64_4
      try clear hcz64_5
      try clear hcz64_6
      try clear hcz66_0
      try clear hcz66_1
      try clear hcz66_2
      try clear hcz66_3
      try clear hcz66_4
      try clear hcz66_5
      try clear hcz66_6
      try clear hcz68_0
      try clear hcz68_1
      try clear hcz68_2
      try clear hcz68_3
      try clear hcz68_4
      try clear hcz68_5
      try clear hcz68_6
      try clear hcz6_0
      try clear hcz6_1
      try clear hcz6_2
      try clear hcz6_3
      try clear hcz6_4
      try clear hcz6_5
      try clear hcz6_6
      try clear hcz70_0
      try clear hcz70_1
      try clear hcz70_2
      try clear hcz70_3
      try clear hcz70_4
      try clear hcz70_5
      try clear hcz70_6
      try clear hcz72_0
      try clear hcz72_1
      try clear hcz72_2
      try clear hcz72_3
      try clear hcz72_4
      try clear hcz72_5
      try clear hcz72_6
      try clear hcz74_0
      try clear hcz74_1
      try clear hcz74_2
      try clear hcz74_3
      try clear hcz74_4
      try clear hcz74_5
      try clear hcz74_6
      try clear hcz75_0
      try clear hcz75_1
      try clear hcz75_2
      try clear hcz75_3
      try clear hcz75_4
      try clear hcz75_5
      try clear hcz75_6
      try clear hcz76_0
      try clear hcz76_1
      try clear hcz76_2
      try clear hcz76_3
      try clear hcz76_4
      try clear hcz76_5
      try clear hcz76_6
      try clear hfz14_0
      try clear hfz14_1
      try clear hfz14_2
      try clear hfz14_3
      try clear hfz14_4
      try clear hfz14_5
      try clear hfz14_6
      try clear hfz18_0
      try clear hfz18_1
      try clear hfz18_2
      try clear hfz18_3
      try clear hfz18_4
      try clear hfz18_5
      try clear hfz18_6
      try clear hfz22_0
      try clear hfz22_1
      try clear hfz22_2
      try clear hfz22_3
      try clear hfz22_4
      try clear hfz22_5
      try clear hfz22_6
      try clear hfz23_0
      try clear hfz23_1
      try clear hfz23_2
      try clear hfz23_3
      try clear hfz23_4
      try clear hfz23_5
      try clear hfz23_6
      try clear hfz27_0
      try clear hfz27_1
      try clear hfz27_2
      try clear hfz27_3
      try clear hfz27_4
      try clear hfz27_5
      try clear hfz27_6
      try clear hfz31_0
      try clear hfz31_1
      try clear hfz31_2
      try clear hfz31_3
      try clear hfz31_4
      try clear hfz31_5
      try clear hfz31_6
      try clear hfz32_0
      try clear hfz32_1
      try clear hfz32_2
      try clear hfz32_3
      try clear hfz32_4
      try clear hfz32_5
      try clear hfz32_6
      try clear hfz36_0
      try clear hfz36_1
      try clear hfz36_2
      try clear hfz36_3
      try clear hfz36_4
      try clear hfz36_5
      try clear hfz36_6
      try clear hfz40_0
      try clear hfz40_1
      try clear hfz40_2
      try clear hfz40_3
      try clear hfz40_4
      try clear hfz40_5
      try clear hfz40_6
      try clear hfz41_0
      try clear hfz41_1
      try clear hfz41_2
      try clear hfz41_3
      try clear hfz41_4
      try clear hfz41_5
      try clear hfz41_6
      try clear hfz45_0
      try clear hfz45_1
      try clear hfz45_2
      try clear hfz45_3
      try clear hfz45_4
      try clear hfz45_5
      try clear hfz45_6
      try clear hfz49_0
      try clear hfz49_1
      try clear hfz49_2
      try clear hfz49_3
      try clear hfz49_4
      try clear hfz49_5
      try clear hfz49_6
      try clear hfz50_0
      try clear hfz50_1
      try clear hfz50_2
      try clear hfz50_3
      try clear hfz50_4
      try clear hfz50_5
      try clear hfz50_6
      try clear hfz54_0
      try clear hfz54_1
      try clear hfz54_2
      try clear hfz54_3
      try clear hfz54_4
      try clear hfz54_5
      try clear hfz54_6
      try clear hfz59_0
      try clear hfz59_1
      try clear hfz59_2
      try clear hfz59_3
      try clear hfz59_4
      try clear hfz59_5
      try clear hfz59_6
      try clear hfz5_0
      try clear hfz5_1
      try clear hfz5_2
      try clear hfz5_3
      try clear hfz5_4
      try clear hfz5_5
      try clear hfz5_6
      try clear hfz62_0
      try clear hfz62_1
      try clear hfz62_2
      try clear hfz62_3
      try clear hfz62_4
      try clear hfz62_5
      try clear hfz62_6
      try clear hfz64_0
      try clear hfz64_1
      try clear hfz64_2
      try clear hfz64_3
      try clear hfz64_4
      try clear hfz64_5
      try clear hfz64_6
      try clear hfz66_0
      try clear hfz66_1
      try clear hfz66_2
      try clear hfz66_3
      try clear hfz66_4
      try clear hfz66_5
      try clear hfz66_6
      try clear hfz68_0
      try clear hfz68_1
      try clear hfz68_2
      try clear hfz68_3
      try clear hfz68_4
      try clear hfz68_5
      try clear hfz68_6
      try clear hfz6_0
      try clear hfz6_1
      try clear hfz6_2
      try clear hfz6_3
      try clear hfz6_4
      try clear hfz6_5
      try clear hfz6_6
      try clear hfz70_0
      try clear hfz70_1
      try clear hfz70_2
      try clear hfz70_3
      try clear hfz70_4
      try clear hfz70_5
      try clear hfz70_6
      try clear hfz72_0
      try clear hfz72_1
      try clear hfz72_2
      try clear hfz72_3
      try clear hfz72_4
      try clear hfz72_5
      try clear hfz72_6
      try clear hfz74_0
      try clear hfz74_1
      try clear hfz74_2
      try clear hfz74_3
      try clear hfz74_4
      try clear hfz74_5
      try clear hfz74_6
      try clear hfz75_0
      try clear hfz75_1
      try clear hfz75_2
      try clear hfz75_3
      try clear hfz75_4
      try clear hfz75_5
      try clear hfz75_6
      try clear hfz76_0
      try clear hfz76_1
      try clear hfz76_2
      try clear hfz76_3
      try clear hfz76_4
      try clear hfz76_5
      try clear hfz76_6
      try clear p2
      obtain ⟨kq,x98_57,rfl,HA,HJ57,BK644,HB⟩:=hcut
      cases kq with
      | zero=>exact absurd HA.out (by simp [slipwayref06_page.j1])
      | succ kj57 =>
       have H:=HA.out
       clear HA
       simp only [slipwayref06_page.j1] at H
       by_cases c77:x98_57=true
       ·subst c77
        have H1:(some false)=some r:=by rw [if_pos rfl] at H;exact H
        clear H
        have H:=H1
        clear H1
        obtain rfl:=Option.some.inj H
        go_wp2
        go_ret
        exact ⟨by first|rfl|(simp [errW_none,errW_some] <;> rfl)|(simp [*,errW_none,errW_some] <;> rfl),by repeat (first|(with_reducible first|exact HB.out|apply zlA|apply zlN|apply zlD|refine zlS ?_ GE644.out)|exact HB.out)⟩
       ·replace c77:=Bool.eq_false_iff.mpr c77
        subst c77
        have H1:(slipwayref06_page.l0 kj57 0 a0_0 a0_1 a0_2 a0_3 l0_4 l0_5 l0_6)=some r:=by rw [if_neg (show ¬ (false=true) by decide)] at H;exact H
        clear H
        have H:=H1
        clear H1
        have H':=zm H
        clear H
        go_wp2
        go_loopg [5] kj57 (fun kq v5 w'=>∃ (x5_3:Int),v5=.int .i64 x5_3∧Aside0 (slipwayref06_page.l0 kq x5_3 a0_0 a0_1 a0_2 a0_3 l0_4 l0_5 l0_6=some r)∧Aside0 (kq≤kj57)∧Aside0 (w'.heap[gb644]?=some (.cells #[.int .i64 a0_0,.int .i64 a0_1,.int .i64 a0_2,.int .i64 a0_3,(.slice A0_4 l0_4.length c0_4),(.slice A0_5 l0_5.length c0_5),(.slice A0_6 l0_6.length c0_6)] 42 (0,0)))∧Aside0 (Below w.heap.size w w'))
        case atStart=>exact ⟨(0),(by first|rfl|(simp;done)|(simp [*];done)),H',⟨Nat.le_refl _⟩,⟨by (with_reducible repeat (first|refine zbN ?_ _|refine zbD ?_|refine zbA ?_ _));exact BK644.out⟩,⟨by repeat (first|(with_reducible first|exact HB.out|apply zlA|apply zlN|apply zlD|refine zlS ?_ GE644.out)|exact HB.out)⟩⟩
        case round =>
         clear H'
         try clear c1
         try clear c2
         try clear p2
         try clear c3
         try clear c4
         try clear c4b0
         try clear c5
         try clear c6
         try clear c7
         try clear c8
         try clear c8b0
         try clear c8b1
         try clear c10
         try clear c10b0
         try clear c10b1
         try clear c11
         try clear c11b0
         try clear c11b1
         try clear c12
         try clear c12b0
         try clear c12b1
         try clear c13
         try clear c13b0
         try clear c13b1
         try clear c13b2
         try clear c17
         try clear c26
         try clear c30
         try clear c35
         try clear c44
         try clear c53
         try clear c60
         try clear c60b0
         try clear c60b1
         try clear c61
         try clear c61b0
         try clear c63
         try clear c63b0
         try clear c65
         try clear c65b0
         try clear c67
         try clear c67b0
         try clear c69
         try clear c69b0
         try clear c69b1
         try clear c71
         try clear c71b0
         try clear c71b1
         try clear c73
         try clear c73b0
         try clear c73b1
         try clear c77
         try clear hcz14_0
         try clear hcz14_1
         try clear hcz14_2
         try clear hcz14_3
         try clear hcz14_4
         try clear hcz14_5
         try clear hcz14_6
         try clear hcz18_0
         try clear hcz18_1
         try clear hcz18_2
         try clear hcz18_3
         try clear hcz18_4
         try clear hcz18_5
         try clear hcz18_6
         try clear hcz22_0
         try clear hcz22_1
         try clear hcz22_2
         try clear hcz22_3
         try clear hcz22_4
         try clear hcz22_5
         try clear hcz22_6
         try clear hcz23_0
         try clear hcz23_1
         try clear hcz23_2
         try clear hcz23_3
         try clear hcz23_4
         try clear hcz23_5
         try clear hcz23_6
         try clear hcz27_0
         try clear hcz27_1
         try clear hcz27_2
         try clear hcz27_3
         try clear hcz27_4
         try clear hcz27_5
         try clear hcz27_6
         try clear hcz31_0
         try clear hcz31_1
         try clear hcz31_2
         try clear hcz31_3
         try clear hcz31_4
         try clear hcz31_5
         try clear hcz31_6
         try clear hcz32_0
         try clear hcz32_1
         try clear hcz32_2
         try clear hcz32_3
         try clear hcz32_4
         try clear hcz32_5
         try clear hcz32_6
         try clear hcz36_0
         try clear hcz36_1
         try clear hcz36_2
         try clear hcz36_3
         try clear hcz36_4
         try clear hcz36_5
         try clear hcz36_6
         try clear hcz40_0
         try clear hcz40_1
         try clear hcz40_2
         try clear hcz40_3
         try clear hcz40_4
         try clear hcz40_5
         try clear hcz40_6
         try clear hcz41_0
         try clear hcz41_1
         try clear hcz41_2
         try clear hcz41_3
         try clear hcz41_4
         try clear hcz41_5
         try clear hcz41_6
         try clear hcz45_0
         try clear hcz45_1
         try clear hcz45_2
         try clear hcz45_3
         try clear hcz45_4
         try clear hcz45_5
         try clear hcz45_6
         try clear hcz49_0
         try clear hcz49_1
         try clear hcz49_2
         try clear hcz49_3
         try clear hcz49_4
         try clear hcz49_5
         try clear hcz49_6
         try clear hcz50_0
         try clear hcz50_1
         try clear hcz50_2
         try clear hcz50_3
         try clear hcz50_4
         try clear hcz50_5
         try clear hcz50_6
         try clear hcz54_0
         try clear hcz54_1
         try clear hcz54_2
         try clear hcz54_3
         try clear hcz54_4
         try clear hcz54_5
         try clear hcz54_6
         try clear hcz59_0
         try clear hcz59_1
         try clear hcz59_2
         try clear hcz59_3
         try clear hcz59_4
         try clear hcz59_5
         try clear hcz59_6
         try clear hcz5_0
         try clear hcz5_1
         try clear hcz5_2
         try clear hcz5_3
         try clear hcz5_4
         try clear hcz5_5
         try clear hcz5_6
         try clear hcz62_0
         try clear hcz62_1
         try clear hcz62_2
         try clear hcz62_3
         try clear hcz62_4
         try clear hcz62_5
         try clear hcz62_6
         try clear hcz64_0
         try clear hcz64_1
         try clear hcz64_2
         try clear hcz64_3
         try clear hcz64_4
         try clear hcz64_5
         try clear hcz64_6
         try clear hcz66_0
         try clear hcz66_1
         try clear hcz66_2
         try clear hcz66_3
         try clear hcz66_4
         try clear hcz66_5
         try clear hcz66_6
         try clear hcz68_0
         try clear hcz68_1
         try clear hcz68_2
         try clear hcz68_3
         try clear hcz68_4
         try clear hcz68_5
         try clear hcz68_6
         try clear hcz6_0
         try clear hcz6_1
         try clear hcz6_2
         try clear hcz6_3
         try clear hcz6_4
         try clear hcz6_5
         try clear hcz6_6
         try clear hcz70_0
         try clear hcz70_1
         try clear hcz70_2
         try clear hcz70_3
         try clear hcz70_4
         try clear hcz70_5
         try clear hcz70_6
         try clear hcz72_0
         try clear hcz72_1
         try clear hcz72_2
         try clear hcz72_3
         try clear hcz72_4
         try clear hcz72_5
         try clear hcz72_6
         try clear hcz74_0
         try clear hcz74_1
         try clear hcz74_2
         try clear hcz74_3
         try clear hcz74_4
         try clear hcz74_5
         try clear hcz74_6
         try clear hcz75_0
         try clear hcz75_1
         try clear hcz75_2
         try clear hcz75_3
         try clear hcz75_4
         try clear hcz75_5
         try clear hcz75_6
         try clear hcz76_0
         try clear hcz76_1
         try clear hcz76_2
         try clear hcz76_3
         try clear hcz76_4
         try clear hcz76_5
         try clear hcz76_6
         try clear hfz14_0
         try clear hfz14_1
         try clear hfz14_2
         try clear hfz14_3
         try clear hfz14_4
         try clear hfz14_5
         try clear hfz14_6
         try clear hfz18_0
         try clear hfz18_1
         try clear hfz18_2
         try clear hfz18_3
         try clear hfz18_4
         try clear hfz18_5
         try clear hfz18_6
         try clear hfz22_0
         try clear hfz22_1
         try clear hfz22_2
         try clear hfz22_3
         try clear hfz22_4
         try clear hfz22_5
         try clear hfz22_6
         try clear hfz23_0
         try clear hfz23_1
         try clear hfz23_2
         try clear hfz23_3
         try clear hfz23_4
         try clear hfz23_5
         try clear hfz23_6
         try clear hfz27_0
         try clear hfz27_1
         try clear hfz27_2
         try clear hfz27_3
         try clear hfz27_4
         try clear hfz27_5
         try clear hfz27_6
         try clear hfz31_0
         try clear hfz31_1
         try clear hfz31_2
         try clear hfz31_3
         try clear hfz31_4
         try clear hfz31_5
         try clear hfz31_6
         try clear hfz32_0
         try clear hfz32_1
         try clear hfz32_2
         try clear hfz32_3
         try clear hfz32_4
         try clear hfz32_5
         try clear hfz32_6
         try clear hfz36_0
         try clear hfz36_1
         try clear hfz36_2
         try clear hfz36_3
         try clear hfz36_4
         try clear hfz36_5
         try clear hfz36_6
         try clear hfz40_0
         try clear hfz40_1
         try clear hfz40_2
         try clear hfz40_3
         try clear hfz40_4
         try clear hfz40_5
         try clear hfz40_6
         try clear hfz41_0
         try clear hfz41_1
         try clear hfz41_2
         try clear hfz41_3
         try clear hfz41_4
         try clear hfz41_5
         try clear hfz41_6
         try clear hfz45_0
         try clear hfz45_1
         try clear hfz45_2
         try clear hfz45_3
         try clear hfz45_4
         try clear hfz45_5
         try clear hfz45_6
         try clear hfz49_0
         try clear hfz49_1
         try clear hfz49_2
         try clear hfz49_3
         try clear hfz49_4
         try clear hfz49_5
         try clear hfz49_6
         try clear hfz50_0
         try clear hfz50_1
         try clear hfz50_2
         try clear hfz50_3
         try clear hfz50_4
         try clear hfz50_5
         try clear hfz50_6
         try clear hfz54_0
         try clear hfz54_1
         try clear hfz54_2
         try clear hfz54_3
         try clear hfz54_4
         try clear hfz54_5
         try clear hfz54_6
         try clear hfz59_0
         try clear hfz59_1
         try clear hfz59_2
         try clear hfz59_3
         try clear hfz59_4
         try clear hfz59_5
         try clear hfz59_6
         try clear hfz5_0
         try clear hfz5_1
         try clear hfz5_2
         try clear hfz5_3
         try clear hfz5_4
         try clear hfz5_5
         try clear hfz5_6
         try clear hfz62_0
         try clear hfz62_1
         try clear hfz62_2
         try clear hfz62_3
         try clear hfz62_4
         try clear hfz62_5
         try clear hfz62_6
         try clear hfz64_0
         try clear hfz64_1
         try clear hfz64_2
         try clear hfz64_3
         try clear hfz64_4
         try clear hfz64_5
         try clear hfz64_6
         try clear hfz66_0
         try clear hfz66_1
         try clear hfz66_2
         try clear hfz66_3
         try clear hfz66_4
         try clear hfz66_5
         try clear hfz66_6
         try clear hfz68_0
         try clear hfz68_1
         try clear hfz68_2
         try clear hfz68_3
         try clear hfz68_4
         try clear hfz68_5
         try clear hfz68_6
         try clear hfz6_0
         try clear hfz6_1
         try clear hfz6_2
         try clear hfz6_3
         try clear hfz6_4
         try clear hfz6_5
         try clear hfz6_6
         try clear hfz70_0
         try clear hfz70_1
         try clear hfz70_2
         try clear hfz70_3
         try clear hfz70_4
         try clear hfz70_5
         try clear hfz70_6
         try clear hfz72_0
         try clear hfz72_1
         try clear hfz72_2
         try clear hfz72_3
         try clear hfz72_4
         try clear hfz72_5
         try clear hfz72_6
         try clear hfz74_0
         try clear hfz74_1
         try clear hfz74_2
         try clear hfz74_3
         try clear hfz74_4
         try clear hfz74_5
         try clear hfz74_6
         try clear hfz75_0
         try clear hfz75_1
         try clear hfz75_2
         try clear hfz75_3
         try clear hfz75_4
         try clear hfz75_5
         try clear hfz75_6
         try clear hfz76_0
         try clear hfz76_1
         try clear hfz76_2
         try clear hfz76_3
         try clear hfz76_4
         try clear hfz76_5
         try clear hfz76_6
         try clear p2
         obtain ⟨x5_3,rfl,HA,HK3,BK644,HB⟩:=hrel
         cases gk with
         | zero=>exact absurd HA.out (by simp [slipwayref06_page.l0])
         | succ k3 =>
          have H:=HA.out
          clear HA
          simp only [slipwayref06_page.l0] at H
          by_cases c78:x5_3 < (l0_5.length:Int)
          ·rw [if_pos c78] at H
           have c78b0:decide (x5_3 < (l0_5.length:Int))=true:=decide_eq_true c78
           clear c78
           by_cases c79:0≤x5_3
           ·rw [if_pos c79] at H
            have c79b0:decide (0≤x5_3)=true:=decide_eq_true c79
            clear c79
            by_cases c80:(rd l0_5 x5_3) < 0
            ·rw [if_pos c80] at H
             have c80b0:decide ((rd l0_5 x5_3) < 0)=true:=decide_eq_true c80
             clear c80
             obtain rfl:=Option.some.inj H
             have hcz81_0:wr.cell? ⟨gb644,0,none⟩=some (.int .i64 a0_0):=(blk_cell BK644.out 0).trans rfl
             have hcz81_1:wr.cell? ⟨gb644,1,none⟩=some (.int .i64 a0_1):=(blk_cell BK644.out 1).trans rfl
             have hcz81_2:wr.cell? ⟨gb644,2,none⟩=some (.int .i64 a0_2):=(blk_cell BK644.out 2).trans rfl
             have hcz81_3:wr.cell? ⟨gb644,3,none⟩=some (.int .i64 a0_3):=(blk_cell BK644.out 3).trans rfl
             have hcz81_4:wr.cell? ⟨gb644,4,none⟩=some (.slice A0_4 l0_4.length c0_4):=(blk_cell BK644.out 4).trans rfl
             have hcz81_5:wr.cell? ⟨gb644,5,none⟩=some (.slice A0_5 l0_5.length c0_5):=(blk_cell BK644.out 5).trans rfl
             have hcz81_6:wr.cell? ⟨gb644,6,none⟩=some (.slice A0_6 l0_6.length c0_6):=(blk_cell BK644.out 6).trans rfl
             have hfz81_0:=blk_frozen BK644.out 0
             have hfz81_1:=blk_frozen BK644.out 1
             have hfz81_2:=blk_frozen BK644.out 2
             have hfz81_3:=blk_frozen BK644.out 3
             have hfz81_4:=blk_frozen BK644.out 4
             have hfz81_5:=blk_frozen BK644.out 5
             have hfz81_6:=blk_frozen BK644.out 6
             have p660:0≤(x5_3:Int):=of_decide_eq_true (by first|(with_reducible assumption)|assumption)
             have q660:x5_3 < (l0_5.length:Int):=of_decide_eq_true (by first|(with_reducible assumption)|assumption)
             obtain ⟨ad660,e660,hx660_0⟩:=Kd.at_int HR0_5.out x5_3 p660 q660
             cases e660
             replace hx660_0:=(HB.out.cell (World.block_lt_of_cell? w _ hx660_0)).trans hx660_0
             replace p660:=eq_true p660
             replace q660:=eq_true q660
             go_wp2
             go_ret
             exact ⟨by first|rfl|(simp [errW_none,errW_some] <;> rfl)|(simp [*,errW_none,errW_some] <;> rfl),by repeat (first|(with_reducible first|exact HB.out|apply zlA|apply zlN|apply zlD|refine zlS ?_ GE644.out)|exact HB.out)⟩
            ·rw [if_neg c80] at H
             have c80b0:decide ((rd l0_5 x5_3) < 0)=false:=decide_eq_false c80
             clear c80
             by_cases c82:(rd l0_5 x5_3) > 16777215
             ·rw [if_pos c82] at H
              have c82b0:decide (16777215 < (rd l0_5 x5_3))=true:=decide_eq_true c82
              clear c82
              obtain rfl:=Option.some.inj H
              have hcz83_0:wr.cell? ⟨gb644,0,none⟩=some (.int .i64 a0_0):=(blk_cell BK644.out 0).trans rfl
              have hcz83_1:wr.cell? ⟨gb644,1,none⟩=some (.int .i64 a0_1):=(blk_cell BK644.out 1).trans rfl
              have hcz83_2:wr.cell? ⟨gb644,2,none⟩=some (.int .i64 a0_2):=(blk_cell BK644.out 2).trans rfl
              have hcz83_3:wr.cell? ⟨gb644,3,none⟩=some (.int .i64 a0_3):=(blk_cell BK644.out 3).trans rfl
              have hcz83_4:wr.cell? ⟨gb644,4,none⟩=some (.slice A0_4 l0_4.length c0_4):=(blk_cell BK644.out 4).trans rfl
              have hcz83_5:wr.cell? ⟨gb644,5,none⟩=some (.slice A0_5 l0_5.length c0_5):=(blk_cell BK644.out 5).trans rfl
              have hcz83_6:wr.cell? ⟨gb644,6,none⟩=some (.slice A0_6 l0_6.length c0_6):=(blk_cell BK644.out 6).trans rfl
              have hfz83_0:=blk_frozen BK644.out 0
              have hfz83_1:=blk_frozen BK644.out 1
              have hfz83_2:=blk_frozen BK644.out 2
              have hfz83_3:=blk_frozen BK644.out 3
              have hfz83_4:=blk_frozen BK644.out 4
              have hfz83_5:=blk_frozen BK644.out 5
              have hfz83_6:=blk_frozen BK644.out 6
              have p660:0≤(x5_3:Int):=of_decide_eq_true (by first|(with_reducible assumption)|assumption)
              have q660:x5_3 < (l0_5.length:Int):=of_decide_eq_true (by first|(with_reducible assumption)|assumption)
              obtain ⟨ad660,e660,hx660_0⟩:=Kd.at_int HR0_5.out x5_3 p660 q660
              cases e660
              replace hx660_0:=(HB.out.cell (World.block_lt_of_cell? w _ hx660_0)).trans hx660_0
              replace p660:=eq_true p660
              replace q660:=eq_true q660
              have p661:0≤(x5_3:Int):=of_decide_eq_true (by first|(with_reducible assumption)|assumption)
              have q661:x5_3 < (l0_5.length:Int):=of_decide_eq_true (by first|(with_reducible assumption)|assumption)
              obtain ⟨ad661,e661,hx661_0⟩:=Kd.at_int HR0_5.out x5_3 p661 q661
              obtain rfl:ad660=ad661:=(by injection e661)
              replace hx661_0:=(HB.out.cell (World.block_lt_of_cell? w _ hx661_0)).trans hx661_0
              replace p661:=eq_true p661
              replace q661:=eq_true q661
              go_wp2
              go_ret
              exact ⟨by first|rfl|(simp [errW_none,errW_some] <;> rfl)|(simp [*,errW_none,errW_some] <;> rfl),by repeat (first|(with_reducible first|exact HB.out|apply zlA|apply zlN|apply zlD|refine zlS ?_ GE644.out)|exact HB.out)⟩
             ·rw [if_neg c82] at H
              have c82b0:decide (16777215 < (rd l0_5 x5_3))=false:=decide_eq_false c82
              clear c82
              have H':=zm H
              clear H
              have hcz84_0:wr.cell? ⟨gb644,0,none⟩=some (.int .i64 a0_0):=(blk_cell BK644.out 0).trans rfl
              have hcz84_1:wr.cell? ⟨gb644,1,none⟩=some (.int .i64 a0_1):=(blk_cell BK644.out 1).trans rfl
              have hcz84_2:wr.cell? ⟨gb644,2,none⟩=some (.int .i64 a0_2):=(blk_cell BK644.out 2).trans rfl
              have hcz84_3:wr.cell? ⟨gb644,3,none⟩=some (.int .i64 a0_3):=(blk_cell BK644.out 3).trans rfl
              have hcz84_4:wr.cell? ⟨gb644,4,none⟩=some (.slice A0_4 l0_4.length c0_4):=(blk_cell BK644.out 4).trans rfl
              have hcz84_5:wr.cell? ⟨gb644,5,none⟩=some (.slice A0_5 l0_5.length c0_5):=(blk_cell BK644.out 5).trans rfl
              have hcz84_6:wr.cell? ⟨gb644,6,none⟩=some (.slice A0_6 l0_6.length c0_6):=(blk_cell BK644.out 6).trans rfl
              have hfz84_0:=blk_frozen BK644.out 0
              have hfz84_1:=blk_frozen BK644.out 1
              have hfz84_2:=blk_frozen BK644.out 2
              have hfz84_3:=blk_frozen BK644.out 3
              have hfz84_4:=blk_frozen BK644.out 4
              have hfz84_5:=blk_frozen BK644.out 5
              have hfz84_6:=blk_frozen BK644.out 6
              have p660:0≤(x5_3:Int):=of_decide_eq_true (by first|(with_reducible assumption)|assumption)
              have q660:x5_3 < (l0_5.length:Int):=of_decide_eq_true (by first|(with_reducible assumption)|assumption)
              obtain ⟨ad660,e660,hx660_0⟩:=Kd.at_int HR0_5.out x5_3 p660 q660
              cases e660
              replace hx660_0:=(HB.out.cell (World.block_lt_of_cell? w _ hx660_0)).trans hx660_0
              replace p660:=eq_true p660
              replace q660:=eq_true q660
              have p661:0≤(x5_3:Int):=of_decide_eq_true (by first|(with_reducible assumption)|assumption)
              have q661:x5_3 < (l0_5.length:Int):=of_decide_eq_true (by first|(with_reducible assumption)|assumption)
              obtain ⟨ad661,e661,hx661_0⟩:=Kd.at_int HR0_5.out x5_3 p661 q661
              obtain rfl:ad660=ad661:=(by injection e661)
              replace hx661_0:=(HB.out.cell (World.block_lt_of_cell? w _ hx661_0)).trans hx661_0
              replace p661:=eq_true p661
              replace q661:=eq_true q661
              go_wp2
              go_roundg k3
              case measure=>have:=HJ1.out;have:=HJ57.out;have:=HK3.out;omega
              case rel=>exact ⟨(wrap64 (x5_3 + 1)),(by first|rfl|(simp;done)|(simp [*];done)),H',⟨by have:=HJ1.out;have:=HJ57.out;have:=HK3.out;omega⟩,⟨by (with_reducible repeat (first|refine zbN ?_ _|refine zbD ?_|refine zbA ?_ _));exact BK644.out⟩,⟨by repeat (first|(with_reducible first|exact HB.out|apply zlA|apply zlN|apply zlD|refine zlS ?_ GE644.out)|exact HB.out)⟩⟩
           ·rw [if_neg c79] at H
            exact absurd H (by simp)
          ·rw [if_neg c78] at H
           have c78b0:decide (x5_3 < (l0_5.length:Int))=false:=decide_eq_false c78
           clear c78
           obtain rfl:=Option.some.inj H
           have hcz85_0:wr.cell? ⟨gb644,0,none⟩=some (.int .i64 a0_0):=(blk_cell BK644.out 0).trans rfl
           have hcz85_1:wr.cell? ⟨gb644,1,none⟩=some (.int .i64 a0_1):=(blk_cell BK644.out 1).trans rfl
           have hcz85_2:wr.cell? ⟨gb644,2,none⟩=some (.int .i64 a0_2):=(blk_cell BK644.out 2).trans rfl
           have hcz85_3:wr.cell? ⟨gb644,3,none⟩=some (.int .i64 a0_3):=(blk_cell BK644.out 3).trans rfl
           have hcz85_4:wr.cell? ⟨gb644,4,none⟩=some (.slice A0_4 l0_4.length c0_4):=(blk_cell BK644.out 4).trans rfl
           have hcz85_5:wr.cell? ⟨gb644,5,none⟩=some (.slice A0_5 l0_5.length c0_5):=(blk_cell BK644.out 5).trans rfl
           have hcz85_6:wr.cell? ⟨gb644,6,none⟩=some (.slice A0_6 l0_6.length c0_6):=(blk_cell BK644.out 6).trans rfl
           have hfz85_0:=blk_frozen BK644.out 0
           have hfz85_1:=blk_frozen BK644.out 1
           have hfz85_2:=blk_frozen BK644.out 2
           have hfz85_3:=blk_frozen BK644.out 3
           have hfz85_4:=blk_frozen BK644.out 4
           have hfz85_5:=blk_frozen BK644.out 5
           have hfz85_6:=blk_frozen BK644.out 6
           go_wp2
           go_ret
           exact ⟨by first|rfl|(simp [errW_none,errW_some] <;> rfl)|(simp [*,errW_none,errW_some] <;> rfl),by repeat (first|(with_reducible first|exact HB.out|apply zlA|apply zlN|apply zlD|refine zlS ?_ GE644.out)|exact HB.out)⟩
end Go.Proofs.Ytkhbmgclklmimaa.Print
end
