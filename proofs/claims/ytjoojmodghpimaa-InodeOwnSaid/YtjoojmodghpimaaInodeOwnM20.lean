/- Texts of the proof of InodeOwn, part 20. -/
import Derived.Test.YtjoojmodghpimaaInodeOwnM14
import Derived.Test.YtjoojmodghpimaaInodeOwnMA
import Derived.Test.YtjoojmodghpimaaInodeOwnM19
import Derived.Test.YtjoojmodghpimaaInodeOwnM12
section
namespace Go.Proofs.Ytjoojmodghpimaa.Print
open Go.RowKit Go.Proofs.YtjoojmodghpimaaW.PrintWords Go.Proofs.YtjoojmodghpimaaW.PrintLast Go.Proofs.YtjoojmodghpimaaW.PrintMore
attribute [local go_sem] max2_int min2_int max_two min_two max_three min_three max_four min_four   -- for this text's walks alone
attribute [local go_sem ↓] Go.Proofs.Ytjoojmodghpimaa.Sem.isSome_setCell
attribute [local go_sem] Go.Instr.field Go.asAgg
set_option linter.unusedVariables false
set_option linter.unusedSimpArgs false
def slices_Equal_byte_byte.l0:Nat → List Int → List Int → Int → Int → Option (Bool)
 | 0,_,_,_,_=>none
 | k + 1,x0,x1,x12,x13=>if x13 < x12 then (if 0≤x13 then (if x13 < (x0.length:Int) then (if x13 < (x1.length:Int) then (if (rd x0 x13)=(rd x1 x13) then (slices_Equal_byte_byte.l0 k x0 x1 x12 (wrap64 (x13 + 1))) else (some false)) else (none)) else (none)) else (none)) else (some true)
def slices_Equal_byte_byte.f (k:Nat) (l0:List Int) (l1:List Int):Option (Bool):=if (l0.length:Int)=(l1.length:Int) then (slices_Equal_byte_byte.l0 k l0 l1 (l0.length:Int) 0) else (some false)
set_option maxHeartbeats 8000000 in
set_option maxRecDepth 100000 in
theorem slices_Equal_byte_byte.calls (k:Nat) (A0:Option Addr) (c0:Nat) (l0:List Int) (A1:Option Addr) (c1:Nat) (l1:List Int) (r:Bool) (w:World) (hr0:Kd.C (Kd.int .u8) w A0 l0.length l0) (hc0:l0.length≤c0) (hr1:Kd.C (Kd.int .u8) w A1 l1.length l1) (hc1:l1.length≤c1) (h:slices_Equal_byte_byte.f k l0 l1=some r) :
  Calls Try.prog 33 #[.slice A0 l0.length c0,.slice A1 l1.length c1] w fun e w'=>e=.returned (.bool r)∧Drawn0 w w':=by
 have HR0:=zm hr0
 have HC0:=zm hc0
 clear hr0 hc0
 have HR1:=zm hr1
 have HC1:=zm hc1
 clear hr1 hc1
 have H:(if (l0.length:Int)=(l1.length:Int) then (slices_Equal_byte_byte.l0 k l0 l1 (l0.length:Int) 0) else (some false))=some r:=h
 clear h
 by_cases c3:(l0.length:Int)=(l1.length:Int)
 ·rw [if_pos c3] at H
  have c3b0:((l0.length:Int) == (l1.length:Int))=true:=beq_iff_eq.mpr c3
  have c3b1:((l0.length:Int) != (l1.length:Int))=false:=bne_eq_false_iff_eq.mpr c3
  have c3b2:(l0.length == l1.length)=true:=by first|simpa using c3|(simp at c3 ⊢;omega)
  clear c3
  have H':=zm H
  clear H
  go_enter Try.func33,Try.ntmps33
  go_wp2
  repeat (go_quiet (fail);try go_wp2)
  go_loopg [13] k (fun kq v13 w'=>∃ (x13_1:Int),v13=.int .i64 x13_1∧Aside0 (slices_Equal_byte_byte.l0 kq l0 l1 (l0.length:Int) x13_1=some r)∧Aside0 (kq≤k)∧Drawn0 w w')
  case atStart=>exact ⟨(0),zs_,H',⟨Nat.le_refl _⟩,by repeat (first|exact Drawn0.refl _|apply Drawn0.step)⟩
  case round =>
   clear H'
   try clear c1
   try clear p2
   try clear c3
   try clear c3b0
   try clear c3b1
   try clear c3b2
   obtain ⟨x13_1,rfl,HA,HK1,⟨m1,rfl⟩⟩:=hrel
   cases gk with
   | zero=>exact absurd HA.out (by simp [slices_Equal_byte_byte.l0])
   | succ k1 =>
    have H:=HA.out
    clear HA
    simp only [slices_Equal_byte_byte.l0] at H
    by_cases c4:x13_1 < (l0.length:Int)
    ·rw [if_pos c4] at H
     have c4b0:decide (x13_1 < (l0.length:Int))=true:=decide_eq_true c4
     clear c4
     by_cases c5:0≤x13_1
     ·rw [if_pos c5] at H
      have c5b0:decide (0≤x13_1)=true:=decide_eq_true c5
      clear c5
      by_cases c6:x13_1 < (l0.length:Int)
      ·rw [if_pos c6] at H
       have c6b0:decide (x13_1 < (l0.length:Int))=true:=decide_eq_true c6
       clear c6
       by_cases c7:x13_1 < (l1.length:Int)
       ·rw [if_pos c7] at H
        have c7b0:decide (x13_1 < (l1.length:Int))=true:=decide_eq_true c7
        clear c7
        by_cases c8:(rd l0 x13_1)=(rd l1 x13_1)
        ·rw [if_pos c8] at H
         have c8b0:((rd l0 x13_1) == (rd l1 x13_1))=true:=beq_iff_eq.mpr c8
         have c8b1:((rd l0 x13_1) != (rd l1 x13_1))=false:=bne_eq_false_iff_eq.mpr c8
         clear c8
         have H':=zm H
         clear H
         have p157:0≤(x13_1:Int):=za_
         have q157:x13_1 < (l0.length:Int):=za_
         obtain ⟨ad157,e157,hx157_0⟩:=Kd.at_int HR0.out x13_1 p157 q157
         cases e157
         replace p157:=eq_true p157
         replace q157:=eq_true q157
         have p158:0≤(x13_1:Int):=za_
         have q158:x13_1 < (l1.length:Int):=za_
         obtain ⟨ad158,e158,hx158_0⟩:=Kd.at_int HR1.out x13_1 p158 q158
         cases e158
         replace p158:=eq_true p158
         replace q158:=eq_true q158
         go_wp2
         repeat (go_quiet (fail);try go_wp2)
         go_roundg k1
         case measure=>have:=HK1.out;omega
         case rel=>exact ⟨(wrap64 (x13_1 + 1)),zs_,H',⟨by have:=HK1.out;omega⟩,by repeat (first|exact Drawn0.refl _|apply Drawn0.step)⟩
        ·rw [if_neg c8] at H
         have c8b0:((rd l0 x13_1) == (rd l1 x13_1))=false:=beq_eq_false_iff_ne.mpr c8
         have c8b1:((rd l0 x13_1) != (rd l1 x13_1))=true:=bne_iff_ne.mpr c8
         obtain rfl:=Option.some.inj H
         have p157:0≤(x13_1:Int):=za_
         have q157:x13_1 < (l0.length:Int):=za_
         obtain ⟨ad157,e157,hx157_0⟩:=Kd.at_int HR0.out x13_1 p157 q157
         cases e157
         replace p157:=eq_true p157
         replace q157:=eq_true q157
         have p158:0≤(x13_1:Int):=za_
         have q158:x13_1 < (l1.length:Int):=za_
         obtain ⟨ad158,e158,hx158_0⟩:=Kd.at_int HR1.out x13_1 p158 q158
         cases e158
         replace p158:=eq_true p158
         replace q158:=eq_true q158
         go_wp2
         repeat (go_quiet (fail);try go_wp2)
         go_ret
         exact ⟨by first|rfl|(simp;done)|(simp [*];done),by repeat (first|exact Drawn0.refl _|apply Drawn0.step)⟩
       ·rw [if_neg c7] at H
        exact absurd H (by simp)
      ·rw [if_neg c6] at H
       exact absurd H (by simp)
     ·rw [if_neg c5] at H
      exact absurd H (by simp)
    ·rw [if_neg c4] at H
     have c4b0:decide (x13_1 < (l0.length:Int))=false:=decide_eq_false c4
     clear c4
     obtain rfl:=Option.some.inj H
     go_wp2
     repeat (go_quiet (fail);try go_wp2)
     go_ret
     exact ⟨by first|rfl|(simp;done)|(simp [*];done),by repeat (first|exact Drawn0.refl _|apply Drawn0.step)⟩
 ·rw [if_neg c3] at H
  have c3b0:((l0.length:Int) == (l1.length:Int))=false:=beq_eq_false_iff_ne.mpr c3
  have c3b1:((l0.length:Int) != (l1.length:Int))=true:=bne_iff_ne.mpr c3
  have c3b2:(l0.length == l1.length)=false:=by first|simpa using c3|(simp at c3 ⊢;omega)
  obtain rfl:=Option.some.inj H
  go_enter Try.func33,Try.ntmps33
  go_wp2
  repeat (go_quiet (fail);try go_wp2)
  go_ret
  exact ⟨by first|rfl|(simp;done)|(simp [*];done),by repeat (first|exact Drawn0.refl _|apply Drawn0.step)⟩
end Go.Proofs.Ytjoojmodghpimaa.Print
end
section
namespace Go.Proofs.Ytjoojmodghpimaa.Print
open Go.RowKit Go.Proofs.YtjoojmodghpimaaW.PrintWords Go.Proofs.YtjoojmodghpimaaW.PrintLast Go.Proofs.YtjoojmodghpimaaW.PrintMore
attribute [local go_sem] max2_int min2_int max_two min_two max_three min_three max_four min_four   -- for this text's walks alone
attribute [local go_sem ↓] Go.Proofs.Ytjoojmodghpimaa.Sem.isSome_setCell
attribute [local go_sem] Go.Instr.field Go.asAgg
set_option linter.unusedVariables false
set_option linter.unusedSimpArgs false
-- CX
def inode_Decode.go (k:Nat) (b:List Int):Nat → Nat → List S51 → Option (List S51)
 | 0,_,r=>some r
 | d + 1,i,r=>(seal_Unpack.f k [24,16,32] ((b.take (24 + (i + 1) * 9)).drop (24 + i * 9))).bind fun p=>if p.2=0 then (if p.1.length=3 then inode_Decode.go k b d (i + 1) (r ++ [⟨wrap64 (rd p.1 0),wrap64 (rd p.1 1),wrap64 (rd p.1 2)⟩]) else none) else none
def inode_Decode.f (k:Nat) (l0:List Int):Option (Int × Int × Int × Int × Int × Int × (List (S51)) × Int) :=
 if l0.length=64 then
 (seal_Width.f k [8,8,8,8,32,64,32,32]).bind fun n=>if n=(24,0) then (seal_Width.f k [24,16,32]).bind fun s=>if s=(9,0) then
 (seal_Unpack.f k [8,8,8,8,32,64,32,32] (l0.take 24)).bind fun l=>if l.2=0 then if l.1.length=8 then
 if rd l.1 2 > 4 then some (0,0,0,0,0,0,[],140) else if rd l.1 5 > 16777216 then some (0,0,0,0,0,0,[],140) else
 if 0≤rd l.1 2 then
 (inode_Decode.go k l0 (rd l.1 2).toNat 0 []).bind fun r =>
 (inode_Encode.f k (wrap64 (rd l.1 0)) (wrap64 (rd l.1 4)) (wrap64 (rd l.1 5)) (wrap64 (rd l.1 6)) (wrap64 (rd l.1 7)) (wrap64 (rd l.1 1)) r).bind fun p=>if p.2=0 then
 (slices_Equal_byte_byte.f k p.1 l0).bind fun t=>if t=true then some (wrap64 (rd l.1 0),wrap64 (rd l.1 4),wrap64 (rd l.1 5),wrap64 (rd l.1 6),wrap64 (rd l.1 7),wrap64 (rd l.1 1),r,0) else some (0,0,0,0,0,0,[],140)
 else some (0,0,0,0,0,0,[],140)
 else none else none else none else none else none
 else some (0,0,0,0,0,0,[],140)
section
variable {ops : Array Oper} {rest : List Oper} {o : Oper} {a : Act} {Q : Exit → Act → World → Prop} {W : World} {g : Nat} {p : Operand} {x0 x1 x2 x3 x4 x5 x6 : Value}
theorem ID_st7 {x:Operand} {n0 n1 n2 n3 n4 n5:Int} {A:Option Addr} {n c:Nat} (hop:o.op=.store 24 p x) (hp:a.eval p=.pointer (some ⟨g,0,none⟩)) (hx:a.eval x=.agg #[.int .i64 n0,.int .i64 n1,.int .i64 n2,.int .i64 n3,.int .i64 n4,.int .i64 n5,.slice A n c]) (hb:W.heap[g]?=some (.cells #[x0,x1,x2,x3,x4,x5,x6] 24 (0,0))) :
  (execOp a.eval o).run Try.prog W=.ok .skip (Cw.setL W g 0 [.int .i64 n0,.int .i64 n1,.int .i64 n2,.int .i64 n3,.int .i64 n4,.int .i64 n5,.slice A n c]):=by
 have hu:=Try.underlying24
 have c0:W.cell? ⟨g,0,none⟩=some x0:=(blk_cell hb 0).trans rfl
 have c1:W.cell? ⟨g,1,none⟩=some x1:=(blk_cell hb 1).trans rfl
 have c2:W.cell? ⟨g,2,none⟩=some x2:=(blk_cell hb 2).trans rfl
 have c3:W.cell? ⟨g,3,none⟩=some x3:=(blk_cell hb 3).trans rfl
 have c4:W.cell? ⟨g,4,none⟩=some x4:=(blk_cell hb 4).trans rfl
 have c5:W.cell? ⟨g,5,none⟩=some x5:=(blk_cell hb 5).trans rfl
 have c6:W.cell? ⟨g,6,none⟩=some x6:=(blk_cell hb 6).trans rfl
 have f0:=blk_frozen hb 0
 have f1:=blk_frozen hb 1
 have f2:=blk_frozen hb 2
 have f3:=blk_frozen hb 3
 have f4:=blk_frozen hb 4
 have f5:=blk_frozen hb 5
 have f6:=blk_frozen hb 6
 simp only [execOp,hop,hp,hx]
 go_simp
 rfl
theorem ID_mid {α:Type} {d:Kd α} (hs:d.sz=1) {w:World} {A:Option Addr} {xs:List α} {lo hi c:Nat} (h:d.C w A xs.length xs) (h1:lo≤hi) (h2:hi≤xs.length) (hc:xs.length≤c):d.C w (if c=lo then A else A.map (fun x=>x.add lo)) ((xs.take hi).drop lo).length ((xs.take hi).drop lo):=by
 have:=Kd.C_mid (c:=c) h h1 h2 hc
 rw [hs,Nat.mul_one] at this
 exact this
theorem ID_lo {j:Nat} (h:(j:Int)≤3):wrap64 (24 + wrap64 ((j:Int) * 9))=((24 + j * 9:Nat):Int):=by unfold wrap64;omega
theorem ID_hi {j:Nat} (h:(j:Int)≤3):wrap64 (24 + wrap64 (wrap64 ((j:Int) + 1) * 9))=((24 + (j + 1) * 9:Nat):Int):=by unfold wrap64;omega
theorem ID_cut {s x y:Operand} {A0:Option Addr} {n c0:Nat} {lo hi:Int} (hop:o.op=.slice 25 s (some x) (some y) none) (hs:a.eval s=.slice A0 n c0) (hx:a.eval x=.int .i64 lo) (hy:a.eval y=.int .i64 hi) (h0:0≤lo) (h1:lo≤hi) (h2:hi≤(c0:Int)) :
  (execOp a.eval o).run Try.prog W=.ok (.value (.slice (if c0=lo.toNat then A0 else A0.map (·.add (lo.toNat * 1))) (hi.toNat - lo.toNat) (c0 - lo.toNat))) W:=by
 obtain ⟨i0,hi0,hzz⟩:=Option.map_eq_some_iff.1 info5
 simp only [Prod.mk.injEq] at hzz
 have hel:Try.prog.elem 25=5:=by simp [Program.elem,Try.underlying25]
 have hu:Try.prog.underlying 25=some (.slice (Try.prog.elem 25)):=by rw [hel];exact Try.underlying25
 have h:=run_slice_lh W 25 A0 n c0 hu .i64 .i64 lo hi h0 h1 h2
 rw [hel] at h
 generalize hE:a.eval=ev at hs hx hy ⊢
 simp only [execOp,hop,hs,hx,hy,Option.map_some,Option.map_none]
 have hs':=(run_sliceAt_slice (P:=Try.prog) (w:=W) 25 (.slice A0 n c0) (some (.int .i64 lo)) (some (.int .i64 hi)) none hu).trans h
 simp [hs',sizeOf,typeInfo,hi0,hzz.2.1,sliced,Result.andThen]
theorem ID_add0 (ad:Addr):ad.add 0=ad:=by unfold Addr.add;simp
theorem ID_u64 {ad:Addr} {n i:Nat} {xs:List Int} (hop:o.op=.load 58 p) (hp:a.eval p=.pointer (some ⟨ad.block,ad.off + i,none⟩)) (hC:(Kd.int .u64).C W (some ad) n xs) (h1:i < n) (h0:0 < i):(execOp a.eval o).run Try.prog W=.ok (.value (.int .u64 (rd xs (i:Int)))) W:=by
 obtain ⟨ad',e,hc⟩:=Kd.at_int hC (i:Int) (by omega) (by omega)
 obtain rfl:=Option.some.inj e
 have ha:=add_field ad 0 i h0
 rw [ID_add0,Nat.zero_add] at ha
 rw [Int.toNat_natCast,ha] at hc
 simp only [execOp,hop,hp]
 go_simp
theorem ID_u64z {ad:Addr} {n:Nat} {xs:List Int} (hop:o.op=.load 58 p) (hp:a.eval p=.pointer (some ad)) (hC:(Kd.int .u64).C W (some ad) n xs) (h1:0 < n):(execOp a.eval o).run Try.prog W=.ok (.value (.int .u64 (rd xs 0))) W:=by
 obtain ⟨ad',e,hc⟩:=Kd.at_int hC 0 (by omega) (by omega)
 obtain rfl:=Option.some.inj e
 have e0:(0:Int).toNat=0:=rfl
 rw [e0,ID_add0] at hc
 simp only [execOp,hop,hp]
 go_simp
end
theorem ID_unpack (k:Nat) (A0:Option Addr) (c0 n0:Nat) (l0:List Int) (A1:Option Addr) (c1 n1:Nat) (l1:List Int) (r1:List Int) (r2:Int) (w:World) (e0:l0.length=n0) (e1:l1.length=n1) (hr0:Kd.C (Kd.int .i64) w A0 l0.length l0) (hc0:l0.length≤c0) (hr1:Kd.C (Kd.int .u8) w A1 l1.length l1) (hc1:l1.length≤c1) (h:seal_Unpack.f k l0 l1=some (r1,r2)) :
  Calls Try.prog 32 #[.slice A0 n0 c0,.slice A1 n1 c1] w fun e w'=>∃ (A:Option Addr) (c:Nat),e=.returned (.tuple #[.slice A r1.length c,.int .i64 r2])∧r1.length≤c∧Kd.C (Kd.int .u64) w' A r1.length r1∧Below w.heap.size w w':=by
 subst e0 e1
 refine (seal_Unpack.calls k A0 c0 l0 A1 c1 l1 r1 r2 w hr0 hc0 hr1 hc1 h).mono ?_
 rintro e w' ⟨v,rfl,ho,hb⟩
 obtain ⟨A,c,rfl,hl,hC⟩:=Kd.R_reads ho
 exact ⟨A,c,rfl,hl,hC,hb⟩
theorem ID_new24 {o:Oper} {a:Act} {W:World} (hop:o.op=.alloc 24) :
  (execOp a.eval o).run Try.prog W=.ok (.value (.pointer (some ⟨W.heap.size,0,none⟩))) (W.alloc (.cells #[.int .i64 0,.int .i64 0,.int .i64 0,.int .i64 0,.int .i64 0,.int .i64 0,.slice none 0 0] 24 (0,0))):=by
 simp only [execOp,hop]
 go_simp
theorem ID_lit1 {o:Oper} {a:Act} {W:World} {y:Operand} {n0 n1 n2:Int} (hop:o.op=.buildSlice 22 1 #[(0,y)]) (hy:a.eval y=.agg #[.int .i64 n0,.int .i64 n1,.int .i64 n2]) :
  (execOp a.eval o).run Try.prog W=.ok (.value (.slice (some ⟨W.heap.size,0,none⟩) 1 1)) (W.alloc (.cells #[.int .i64 n0,.int .i64 n1,.int .i64 n2] 51 (0,0))):=by
 generalize hE:a.eval=ev at hy ⊢
 simp only [execOp,hop]
 go_simp
theorem ID_st1 {o:Oper} {a:Act} {W:World} {g n c:Nat} {A:Option Addr} {p x:Operand} {x0 x1 x2 x3 x4 x5 x6:Value} (hop:o.op=.store 22 p x) (hp:a.eval p=.pointer (some ⟨g,6,none⟩)) (hx:a.eval x=.slice A n c) (hb:W.heap[g]?=some (.cells #[x0,x1,x2,x3,x4,x5,x6] 24 (0,0))) :
  (execOp a.eval o).run Try.prog W=.ok .skip (W.setCell ⟨g,6,none⟩ (.slice A n c)):=by
 have c6:W.cell? ⟨g,6,none⟩=some x6:=(blk_cell hb 6).trans rfl
 have f6:=blk_frozen hb 6
 simp only [execOp,hop,hp,hx]
 go_simp
theorem ID_meas {j:Nat} {m:Int} (hm:(j:Int) < m):m.toNat - (intOf (.int .i64 ((j:Int) + 1))).toNat < m.toNat - (intOf (.int .i64 (j:Int))).toNat:=by
 simp only [intOf,Int.toNat_natCast]
 omega
theorem ID_R1 {w wd:World} {g t:Nat} {x:S51} (hB:w.heap[g]?=some (.cells #[.int .i64 x.f0,.int .i64 x.f1,.int .i64 x.f2] t (0,0))):ReadsRow (k51.K wd) k51.sz w (some ⟨g,0,none⟩) 1 [x]:=by
 refine ⟨rfl,by omega,fun _=>⟨_,rfl,fun j p hj=>?_⟩⟩
 rcases j with _|j
 ·cases hj
  refine ⟨[.int .i64 x.f0,.int .i64 x.f1,.int .i64 x.f2],rfl,k51_mk _ _,fun i u hu=>?_⟩
  show w.cell? ((⟨g,0,none⟩:Addr).add (0 * 3 + i))=_
  rw [Nat.zero_mul,Nat.zero_add,add_plain,blk_cell hB]
  simpa using hu
 ·simp at hj
set_option maxHeartbeats 4000000 in
set_option maxRecDepth 100000 in
theorem inode_Decode.calls (k:Nat) (A0:Option Addr) (c0:Nat) (l0:List Int) (r1:Int) (r2:Int) (r3:Int) (r4:Int) (r5:Int) (r6:Int) (r7:List (S51)) (r8:Int) (w:World) (hr0:Kd.C (Kd.int .u8) w A0 l0.length l0) (hc0:l0.length≤c0) (h:inode_Decode.f k l0=some (r1,r2,r3,r4,r5,r6,r7,r8)) :
  Calls Try.prog 9 #[.slice A0 l0.length c0] w fun e w'=>∃ v6_:Value,e=.returned (.tuple #[.agg #[.int .i64 r1,.int .i64 r2,.int .i64 r3,.int .i64 r4,.int .i64 r5,.int .i64 r6,v6_],.int .i64 r8])∧Kd.R k51 51 w' w.heap.size (fun _=>True) v6_ r7∧Below w.heap.size w w':=by
 have hu24:=Try.underlying24
 have H:inode_Decode.f k l0=some (r1,r2,r3,r4,r5,r6,r7,r8):=h
 clear h
 unfold inode_Decode.f at H
 by_cases hl:l0.length=64
 ·rw [if_pos hl] at H
  have hg_:=Option.bind_eq_some_iff.mp H;clear H;obtain ⟨n,F1,H⟩:=hg_;have hh_:=zm F1;clear F1;have F1:=hh_;clear hh_;(try dsimp only at H);have hg_:=Cw.gt_ H;clear H;obtain ⟨rfl,H⟩:=hg_;have hg_:=Option.bind_eq_some_iff.mp H;clear H;obtain ⟨s,F2,H⟩:=hg_;have hh_:=zm F2;clear F2;have F2:=hh_;clear hh_;(try dsimp only at H);have hg_:=Cw.gt_ H;clear H;obtain ⟨rfl,H⟩:=hg_;have hg_:=Option.bind_eq_some_iff.mp H;clear H;obtain ⟨⟨l1,e⟩,F3,H⟩:=hg_;have hh_:=zm F3;clear F3;have F3:=hh_;clear hh_;(try dsimp only at H);have hg_:=Cw.gt_ H;clear H;obtain ⟨rfl,H⟩:=hg_;have hg_:=Cw.gt_ H;clear H;obtain ⟨hl8,H⟩:=hg_
  have h64:((l0.length:Int) != 64)=false:=by rw [hl];rfl
  have hc24:(24:Int)≤(c0:Int):=by omega
  have hh_:=zm hr0;clear hr0;have hr0:=hh_;clear hh_;have hh_:=zm hc0;clear hc0;have hc0:=hh_;clear hh_;have hh_:=zm H;clear H;have H:=hh_;clear hh_;have hh_:=zm hl;clear hl;have hl:=hh_;clear hh_;have hh_:=zm hl8;clear hl8;have hl8:=hh_;clear hh_
  go_enter Try.func9,Try.ntmps9
  go_wp2_with (first|((with_reducible refine gate_dst (N:=2) rfl ?_);refine box_event rfl (N:=2) rfl (by first|(go_simp;done)|(go_simp;rfl)) ?_;rintro g2 hg wc hbk hb;have hg2:Aside0 (w.heap.size≤g2):=⟨Nat.le_of_eq hg.symm⟩;clear hg;have hh_:=zm hbk;clear hbk;have hbk:=hh_;clear hh_;have hh_:=zm hb;clear hb;have hb:=hh_;clear hh_)|(go_at_call 28;refine (inode_headWidths.calls _).mono ?_;rintro e w1 ⟨rfl,hb⟩;have hh_:=zm hb;clear hb;have hb:=hh_;clear hh_)|(go_at_call 29;refine (inode_rootWidths.calls _).mono ?_;rintro e w1 ⟨rfl,hb⟩;have hh_:=zm hb;clear hb;have hb:=hh_;clear hh_)|((with_reducible refine gate_ (.alloc 52) rfl ?_);refine box_event rfl rfl (by first|(go_simp;done)|(go_simp;rfl)) ?_;rintro gh hg w1 hbk hb;have hge:Aside0 (wc.heap.size≤gh):=⟨Nat.le_trans (below_size (by repeat (first|exact Below.refl _ _|with_reducible apply zlN|with_reducible apply zlA|refine below_step ?_ (Aside0.out (by assumption))))) (Nat.le_of_eq hg.symm)⟩; clear hg;have hh_:=zm hbk;clear hbk;have hbk:=hh_;clear hh_;have hh_:=zm hb;clear hb;have hb:=hh_;clear hh_)|((with_reducible refine gate_ (.alloc 54) rfl ?_);refine box_event rfl rfl (by first|(go_simp;done)|(go_simp;rfl)) ?_;rintro gr hg w1 hbk hb;have hge:Aside0 (wc.heap.size≤gr):=⟨Nat.le_trans (below_size (by repeat (first|exact Below.refl _ _|with_reducible apply zlN|with_reducible apply zlA|refine below_step ?_ (Aside0.out (by assumption))))) (Nat.le_of_eq hg.symm)⟩;have hne:Aside0 (gr≠gh):=⟨by rw [hg];exact Nat.ne_of_gt (blk_lt (g:=gh) (o:=Obj.cells #[.int .i64 0,.int .i64 0,.int .i64 0,.int .i64 0,.int .i64 0,.int .i64 0,.int .i64 0,.int .i64 0] 52 (0,0)) (zbB (Aside0.out (by assumption)) (by repeat (first|exact Below.refl _ _|with_reducible apply zlN|with_reducible apply zlA|refine below_step ?_ (Aside0.out (by assumption))))))⟩;clear hg;have hh_:=zm hbk;clear hbk;have hbk:=hh_;clear hh_;have hh_:=zm hb;clear hb;have hb:=hh_;clear hh_)|((with_reducible refine gate_ (.store 52 _ _) rfl ?_);refine Cw.put_event (g:=gh) (ys:=[.int .i64 8,.int .i64 8,.int .i64 8,.int .i64 8,.int .i64 32,.int .i64 64,.int .i64 32,.int .i64 32]) rfl rfl rfl (by apply IE_st8;exact rfl;exact rfl;exact rfl;exact (show _=some (Obj.cells #[.int .i64 0,.int .i64 0,.int .i64 0,.int .i64 0,.int .i64 0,.int .i64 0,.int .i64 0,.int .i64 0] 52 (0,0)) from (zbB (Aside0.out (by assumption)) (by repeat (first|exact Below.refl _ _|with_reducible apply zlN|with_reducible apply zlA|refine below_step ?_ (Aside0.out (by assumption))))))) ?_;rintro w2 hw2;have hb2:Aside0 (Below wc.heap.size wc w2):=⟨by rw [hw2];exact Cw.setL_below (Aside0.out (by assumption)) _ _ _ (by repeat (first|exact Below.refl _ _|with_reducible apply zlN|with_reducible apply zlA|refine below_step ?_ (Aside0.out (by assumption))))⟩;have hh8:Aside0 (w2.heap[gh]?=some (.cells #[.int .i64 8,.int .i64 8,.int .i64 8,.int .i64 8,.int .i64 32,.int .i64 64,.int .i64 32,.int .i64 32] 52 (0,0))):=⟨by rw [hw2];exact Cw.setL_full [.int .i64 8,.int .i64 8,.int .i64 8,.int .i64 8,.int .i64 32,.int .i64 64,.int .i64 32,.int .i64 32] (show _=some (Obj.cells #[.int .i64 0,.int .i64 0,.int .i64 0,.int .i64 0,.int .i64 0,.int .i64 0,.int .i64 0,.int .i64 0] 52 (0,0)) from (zbB (Aside0.out (by assumption)) (by repeat (first|exact Below.refl _ _|with_reducible apply zlN|with_reducible apply zlA|refine below_step ?_ (Aside0.out (by assumption)))))) rfl⟩;have hr3:Aside0 (w2.heap[gr]?=some (.cells #[.int .i64 0,.int .i64 0,.int .i64 0] 54 (0,0))):=⟨by rw [hw2,Cw.setL_far hne.out];exact (zbB (Aside0.out (by assumption)) (by repeat (first|exact Below.refl _ _|with_reducible apply zlN|with_reducible apply zlA|refine below_step ?_ (Aside0.out (by assumption)))))⟩;clear hw2)|((with_reducible refine gate_ (.store 54 _ _) rfl ?_);refine Cw.put_event (g:=gr) (ys:=[.int .i64 24,.int .i64 16,.int .i64 32]) rfl rfl rfl (by apply IE_st3;exact rfl;exact rfl;exact rfl;exact hr3.out) ?_;rintro w3 hw3;have hb3:Aside0 (Below wc.heap.size wc w3):=⟨by rw [hw3];exact Cw.setL_below (Aside0.out (by assumption)) _ _ _ hb2.out⟩;have hr3':Aside0 (w3.heap[gr]?=some (.cells #[.int .i64 24,.int .i64 16,.int .i64 32] 54 (0,0))):=⟨by rw [hw3];exact Cw.setL_full [.int .i64 24,.int .i64 16,.int .i64 32] hr3.out rfl⟩;have hh8':Aside0 (w3.heap[gh]?=some (.cells #[.int .i64 8,.int .i64 8,.int .i64 8,.int .i64 8,.int .i64 32,.int .i64 64,.int .i64 32,.int .i64 32] 52 (0,0))):=⟨by rw [hw3,Cw.setL_far (fun e=>hne.out e.symm)];exact hh8.out⟩;clear hw3 hr3 hh8 hb2))
  (refine (seal_Width.calls k _ 8 [8,8,8,8,32,64,32,32] 24 0 _ (Cw.C_ints (zbB (Aside0.out (by assumption)) (by repeat (first|exact Below.refl _ _|with_reducible apply zlN|with_reducible apply zlA|refine below_step ?_ (Aside0.out (by assumption))))) rfl (by simp)) (by simp) F1.out).mono ?_;rintro e w1 ⟨rfl,hd⟩;have hb:=Drawn0.below hd;clear hd;have hh_:=zm hb;clear hb;have hb:=hh_;clear hh_)
  go_wp2_with fail
  (refine (seal_Width.calls k _ 3 [24,16,32] 9 0 _ (Cw.C_ints (zbB (Aside0.out (by assumption)) (by repeat (first|exact Below.refl _ _|with_reducible apply zlN|with_reducible apply zlA|refine below_step ?_ (Aside0.out (by assumption))))) rfl (by simp)) (by simp) F2.out).mono ?_;rintro e w1 ⟨rfl,hd⟩;have hb:=Drawn0.below hd;clear hd;have hh_:=zm hb;clear hb;have hb:=hh_;clear hh_)
  go_wp2_with fail
  refine Cw.dstart (by as_aux_lemma=>kernel_rfl) rfl (fun wd hb=>?_)
  have hh_:=zm hb;clear hb;have hb:=hh_;clear hh_
  refine Cw.dpu (i:=0) (v:=?_) (a':=?_) (by simp only [List.getElem?_toArray,List.getElem?_cons_succ,List.getElem?_cons_zero];rfl) rfl (by as_aux_lemma=>kernel_rfl) (by rfl) (by exact fun _ _ _ h=>h) ?_ ?_ ?_
  rotate_left
  ·intro w'
   go_simp
   with_reducible rfl
  rotate_left
  ·simp only [Act.put,List.setIfInBounds_toArray,List.set_cons_zero,List.set_cons_succ,i64_w,i32_w]
   rfl
  refine Cw.dpu (i:=1) (v:=?_) (a':=?_) (by simp only [List.getElem?_toArray,List.getElem?_cons_succ,List.getElem?_cons_zero];rfl) rfl (by as_aux_lemma=>kernel_rfl) (by rfl) (by exact fun _ _ _ h=>h) ?_ ?_ ?_
  rotate_left
  ·intro w'
   go_simp
   with_reducible rfl
  rotate_left
  ·simp only [Act.put,List.setIfInBounds_toArray,List.set_cons_zero,List.set_cons_succ,i64_w,i32_w]
   rfl
  refine Cw.dpu (i:=2) (v:=?_) (a':=?_) (by simp only [List.getElem?_toArray,List.getElem?_cons_succ,List.getElem?_cons_zero];rfl) rfl (by as_aux_lemma=>kernel_rfl) (by rfl) (by exact fun _ _ _ h=>h) ?_ ?_ ?_
  rotate_left
  ·intro w'
   go_simp
   with_reducible rfl
  rotate_left
  ·simp only [Act.put,List.setIfInBounds_toArray,List.set_cons_zero,List.set_cons_succ,i64_w,i32_w]
   rfl
  refine Cw.dpu (i:=3) (v:=?_) (a':=?_) (by simp only [List.getElem?_toArray,List.getElem?_cons_succ,List.getElem?_cons_zero];rfl) rfl (by as_aux_lemma=>kernel_rfl) (by rfl) (by exact fun _ _ _ h=>h) ?_ ?_ ?_
  rotate_left
  ·intro w'
   go_simp
   with_reducible rfl
  rotate_left
  ·simp only [Act.put,List.setIfInBounds_toArray,List.set_cons_zero,List.set_cons_succ,i64_w,i32_w]
   rfl
  refine Cw.done1 (i:=4) (N:=some 39) (by simp only [List.getElem?_toArray,List.getElem?_cons_succ,List.getElem?_cons_zero];rfl) rfl (by as_aux_lemma=>kernel_rfl) (fun K hK=>?_)
  refine goes_ Try.func32 (by as_aux_lemma=>kernel_rfl) rfl _ (by rfl) rfl rfl (by go_simp;rfl) ?_
  refine (ID_unpack k _ 8 8 [8,8,8,8,32,64,32,32] _ c0 24 (l0.take 24) l1 0 _ rfl (by rw [List.length_take];have:=hl.out;omega) (Cw.C_ints (zbB (Aside0.out (by assumption)) (by repeat (first|exact Below.refl _ _|with_reducible apply zlN|with_reducible apply zlA|refine below_step ?_ (Aside0.out (by assumption))))) rfl (by simp)) (by simp) (Kd.C_take (m:=24) (Kd.C_below (Aside0.out (by assumption)) (by repeat (first|exact Below.refl _ _|with_reducible apply zlN|with_reducible apply zlA|refine below_step ?_ (Aside0.out (by assumption))))) (by have:=hl.out;omega)) (by rw [List.length_take];have:=hl.out;omega) F3.out).mono ?_
  rintro e w1 ⟨A1,c1,rfl,hc1,hr1,hb⟩
  obtain ⟨ad1,rfl,_⟩:=hr1.2.2 (by rw [hl8.out];omega)
  rw [hl8.out] at hr1 hc1 ⊢
  have hh_:=zm hc1;clear hc1;have hc1:=hh_;clear hh_;have hh_:=zm hr1;clear hr1;have hr1:=hh_;clear hh_;have hh_:=zm hb;clear hb;have hb:=hh_;clear hh_
  refine ⟨_,rfl,?_⟩
  refine hK.out _ _ (by repeat (first|exact Below.refl _ _|with_reducible apply zlN|with_reducible apply zlA|refine below_step ?_ (Aside0.out (by assumption)))) (fun _=>?_)
  clear hK K
  refine znm (some 39) ?_
  refine Cw.dpu (i:=5) (v:=?_) (a':=?_) (by simp only [List.getElem?_toArray,List.getElem?_cons_succ,List.getElem?_cons_zero];rfl) rfl (by as_aux_lemma=>kernel_rfl) (by rfl) (by exact fun _ _ _ h=>h) ?_ ?_ ?_
  rotate_left
  ·intro w'
   go_simp
   with_reducible rfl
  rotate_left
  ·simp only [Act.put,List.setIfInBounds_toArray,List.set_cons_zero,List.set_cons_succ,i64_w,i32_w]
   rfl
  refine Cw.dpu (i:=6) (v:=?_) (a':=?_) (by simp only [List.getElem?_toArray,List.getElem?_cons_succ,List.getElem?_cons_zero];rfl) rfl (by as_aux_lemma=>kernel_rfl) (by rfl) (by exact fun _ _ _ h=>h) ?_ ?_ ?_
  rotate_left
  ·intro w'
   go_simp
   with_reducible rfl
  rotate_left
  ·simp only [Act.put,List.setIfInBounds_toArray,List.set_cons_zero,List.set_cons_succ,i64_w,i32_w]
   rfl
  refine Cw.dpu (i:=7) (v:=?_) (a':=?_) (by simp only [List.getElem?_toArray,List.getElem?_cons_succ,List.getElem?_cons_zero];rfl) rfl (by as_aux_lemma=>kernel_rfl) (by rfl) (by exact fun _ _ _ h=>h) ?_ ?_ ?_
  rotate_left
  ·intro w'
   go_simp
   with_reducible rfl
  rotate_left
  ·simp only [Act.put,List.setIfInBounds_toArray,List.set_cons_zero,List.set_cons_succ,i64_w,i32_w]
   rfl
  refine Cw.dpu (i:=8) (v:=?_) (a':=?_) (by simp only [List.getElem?_toArray,List.getElem?_cons_succ,List.getElem?_cons_zero];rfl) rfl (by as_aux_lemma=>kernel_rfl) (by rfl) (by exact fun _ _ _ h=>h) ?_ ?_ ?_
  rotate_left
  ·intro w'
   go_simp
   with_reducible rfl
  rotate_left
  ·simp only [Act.put,List.setIfInBounds_toArray,List.set_cons_zero,List.set_cons_succ,i64_w,i32_w]
   rfl
  refine Cw.dpu (i:=9) (v:=?_) (a':=?_) (by simp only [List.getElem?_toArray,List.getElem?_cons_succ,List.getElem?_cons_zero];rfl) rfl (by as_aux_lemma=>kernel_rfl) (by rfl) (by exact fun _ _ _ h=>h) ?_ ?_ ?_
  rotate_left
  ·intro w'
   go_simp
   with_reducible rfl
  rotate_left
  ·simp only [Act.put,List.setIfInBounds_toArray,List.set_cons_zero,List.set_cons_succ,i64_w,i32_w]
   rfl
  refine zdo ?_
  have H:=H.out
  by_cases hq:rd l1 2 > 4
  ·rw [if_pos hq] at H
   simp only [Option.some.injEq,Prod.mk.injEq] at H
   obtain ⟨rfl,rfl,rfl,rfl,rfl,rfl,rfl,rfl⟩:=H
   have hq4:decide (4 < rd l1 2)=true:=decide_eq_true hq
   clear hq
   go_wp2_with (first|((with_reducible refine gate_ (.load 58 _) rfl ?_);refine Kd.event_run rfl (by apply ID_u64;exact rfl;exact rfl;exact (Kd.C_below (Aside0.out (by assumption)) (by repeat (first|exact Below.refl _ _|with_reducible apply zlN|with_reducible apply zlA|refine below_step ?_ (Aside0.out (by assumption)))));omega;omega) ?_)|((with_reducible refine Cw.guarded rfl ?gw ?_);(case gw=>first|rfl|(go_simp;done));dsimp only)|((with_reducible refine gate_ (.store 24 (.tmp 2) _) rfl ?_);refine Cw.put_event (g:=g2) (ys:=[.int .i64 0,.int .i64 0,.int .i64 0,.int .i64 0,.int .i64 0,.int .i64 0,.slice none 0 0]) rfl rfl rfl (by apply ID_st7;exact rfl;exact rfl;exact rfl;exact (zbB (Aside0.out (by assumption)) (by repeat (first|exact Below.refl _ _|with_reducible apply zlN|with_reducible apply zlA|refine below_step ?_ (Aside0.out (by assumption)))))) ?_;rintro w2 hw2;have hb2:Aside0 (Below w.heap.size w w2):=⟨by rw [hw2];exact Cw.setL_below hg2.out _ _ _ (by repeat (first|exact Below.refl _ _|with_reducible apply zlN|with_reducible apply zlA|refine below_step ?_ (Aside0.out (by assumption))))⟩;have hzz:Aside0 (w2.heap[g2]?=some (.cells #[.int .i64 0,.int .i64 0,.int .i64 0,.int .i64 0,.int .i64 0,.int .i64 0,.slice none 0 0] 24 (0,0))):=⟨by rw [hw2];exact Cw.setL_full [.int .i64 0,.int .i64 0,.int .i64 0,.int .i64 0,.int .i64 0,.int .i64 0,.slice none 0 0] (zbB (Aside0.out (by assumption)) (by repeat (first|exact Below.refl _ _|with_reducible apply zlN|with_reducible apply zlA|refine below_step ?_ (Aside0.out (by assumption))))) rfl⟩;clear hw2))
   refine bodyPost_ret (results_ct rfl _ _ g2 24 #[.int .i64 0,.int .i64 0,.int .i64 0,.int .i64 0,.int .i64 0,.int .i64 0,.slice none 0 0] (0,0) _ rfl hzz.out Try.underlying24 rfl (by kernel_rfl)) rfl ?_
   exact ⟨_,rfl,Kd.R_nil _ _ _ _ _,hb2.out⟩
  ·rw [if_neg hq] at H
   have hq4:decide (4 < rd l1 2)=false:=decide_eq_false hq
   have hqm:rd l1 2≤4:=by omega
   clear hq
   by_cases hr:rd l1 5 > 16777216
   ·rw [if_pos hr] at H
    simp only [Option.some.injEq,Prod.mk.injEq] at H
    obtain ⟨rfl,rfl,rfl,rfl,rfl,rfl,rfl,rfl⟩:=H
    have hr4:decide (16777216 < rd l1 5)=true:=decide_eq_true hr
    clear hr
    go_wp2_with (first|((with_reducible refine gate_ (.load 58 _) rfl ?_);refine Kd.event_run rfl (by apply ID_u64;exact rfl;exact rfl;exact (Kd.C_below (Aside0.out (by assumption)) (by repeat (first|exact Below.refl _ _|with_reducible apply zlN|with_reducible apply zlA|refine below_step ?_ (Aside0.out (by assumption)))));omega;omega) ?_)|((with_reducible refine Cw.guarded rfl ?gw ?_);(case gw=>first|rfl|(go_simp;done));dsimp only)|((with_reducible refine gate_ (.store 24 (.tmp 2) _) rfl ?_);refine Cw.put_event (g:=g2) (ys:=[.int .i64 0,.int .i64 0,.int .i64 0,.int .i64 0,.int .i64 0,.int .i64 0,.slice none 0 0]) rfl rfl rfl (by apply ID_st7;exact rfl;exact rfl;exact rfl;exact (zbB (Aside0.out (by assumption)) (by repeat (first|exact Below.refl _ _|with_reducible apply zlN|with_reducible apply zlA|refine below_step ?_ (Aside0.out (by assumption)))))) ?_;rintro w2 hw2;have hb2:Aside0 (Below w.heap.size w w2):=⟨by rw [hw2];exact Cw.setL_below hg2.out _ _ _ (by repeat (first|exact Below.refl _ _|with_reducible apply zlN|with_reducible apply zlA|refine below_step ?_ (Aside0.out (by assumption))))⟩;have hzz:Aside0 (w2.heap[g2]?=some (.cells #[.int .i64 0,.int .i64 0,.int .i64 0,.int .i64 0,.int .i64 0,.int .i64 0,.slice none 0 0] 24 (0,0))):=⟨by rw [hw2];exact Cw.setL_full [.int .i64 0,.int .i64 0,.int .i64 0,.int .i64 0,.int .i64 0,.int .i64 0,.slice none 0 0] (zbB (Aside0.out (by assumption)) (by repeat (first|exact Below.refl _ _|with_reducible apply zlN|with_reducible apply zlA|refine below_step ?_ (Aside0.out (by assumption))))) rfl⟩;clear hw2))
    refine bodyPost_ret (results_ct rfl _ _ g2 24 #[.int .i64 0,.int .i64 0,.int .i64 0,.int .i64 0,.int .i64 0,.int .i64 0,.slice none 0 0] (0,0) _ rfl hzz.out Try.underlying24 rfl (by kernel_rfl)) rfl ?_
    exact ⟨_,rfl,Kd.R_nil _ _ _ _ _,hb2.out⟩
   ·rw [if_neg hr] at H
    have hr4:decide (16777216 < rd l1 5)=false:=decide_eq_false hr
    clear hr
    have hg_:=Cw.gt_ H;clear H;obtain ⟨hm0,H⟩:=hg_;have hg_:=Option.bind_eq_some_iff.mp H;clear H;obtain ⟨root,F4,H⟩:=hg_;have hh_:=zm F4;clear F4;have F4:=hh_;clear hh_;(try dsimp only at H);have hg_:=Option.bind_eq_some_iff.mp H;clear H;obtain ⟨⟨pb,pe⟩,F5,H⟩:=hg_;have hh_:=zm F5;clear F5;have F5:=hh_;clear hh_;(try dsimp only at H)
    have HO:=zm H;clear H;have hh_:=zm hqm;clear hqm;have hqm:=hh_;clear hh_;have hh_:=zm hm0;clear hm0;have hm0:=hh_;clear hh_
    go_wp2_with (first|((with_reducible refine gate_ (.load 58 _) rfl ?_);refine Kd.event_run rfl (by apply ID_u64;exact rfl;exact rfl;exact (Kd.C_below (Aside0.out (by assumption)) (by repeat (first|exact Below.refl _ _|with_reducible apply zlN|with_reducible apply zlA|refine below_step ?_ (Aside0.out (by assumption)))));omega;omega) ?_)|((with_reducible refine Cw.guarded rfl ?gw ?_);(case gw=>first|rfl|(go_simp;done));dsimp only))
    refine Cw.dstart (by as_aux_lemma=>kernel_rfl) rfl (fun wd hb=>?_)
    have hh_:=zm hb;clear hb;have hb:=hh_;clear hh_
    refine Cw.dpu (i:=0) (v:=?_) (a':=?_) (by simp only [List.getElem?_toArray,List.getElem?_cons_succ,List.getElem?_cons_zero];rfl) rfl (by as_aux_lemma=>kernel_rfl) (by rfl) (by exact fun _ _ _ h=>h) ?_ ?_ ?_
    rotate_left
    ·intro w'
     go_simp
     with_reducible rfl
    rotate_left
    ·simp only [Act.put,List.setIfInBounds_toArray,List.set_cons_zero,List.set_cons_succ,i64_w,i32_w]
     rfl
    refine Cw.dpu (i:=1) (v:=?_) (a':=?_) (by simp only [List.getElem?_toArray,List.getElem?_cons_succ,List.getElem?_cons_zero];rfl) rfl (by as_aux_lemma=>kernel_rfl) (by rfl) (by exact fun _ _ _ h=>h) ?_ ?_ ?_
    rotate_left
    ·intro w'
     go_simp
     with_reducible rfl
    rotate_left
    ·simp only [Act.put,List.setIfInBounds_toArray,List.set_cons_zero,List.set_cons_succ,i64_w,i32_w]
     rfl
    refine Cw.dtk (i:=2) (v:=?_) (a':=?_) (by simp only [List.getElem?_toArray,List.getElem?_cons_succ,List.getElem?_cons_zero];rfl) rfl (by as_aux_lemma=>kernel_rfl) (by rfl) (by exact fun _ _ _ h=>h) ?_ (by repeat (first|exact Below.refl _ _|with_reducible apply zlN|with_reducible apply zlA|refine below_step ?_ (Aside0.out (by assumption)))) ?_ ?_
    rotate_left
    ·intro w' hs_
     have hs:=zm hs_
     clear hs_
     apply Eq.trans
     ·apply ID_u64z
      ·rfl
      ·rfl
      ·exact (Kd.C_below (Aside0.out (by assumption)) (by repeat (first|exact Below.refl _ _|with_reducible apply zlN|with_reducible apply zlA|refine below_step ?_ (Aside0.out (by assumption)))))
      ·omega
     ·rfl
    rotate_left
    ·simp only [Act.put,List.setIfInBounds_toArray,List.set_cons_zero,List.set_cons_succ,i64_w,i32_w]
     rfl
    refine Cw.dpu (i:=3) (v:=?_) (a':=?_) (by simp only [List.getElem?_toArray,List.getElem?_cons_succ,List.getElem?_cons_zero];rfl) rfl (by as_aux_lemma=>kernel_rfl) (by rfl) (by exact fun _ _ _ h=>h) ?_ ?_ ?_
    rotate_left
    ·intro w'
     go_simp
     with_reducible rfl
    rotate_left
    ·simp only [Act.put,List.setIfInBounds_toArray,List.set_cons_zero,List.set_cons_succ,i64_w,i32_w]
     rfl
    refine Cw.dpu (i:=4) (v:=?_) (a':=?_) (by simp only [List.getElem?_toArray,List.getElem?_cons_succ,List.getElem?_cons_zero];rfl) rfl (by as_aux_lemma=>kernel_rfl) (by rfl) (by exact fun _ _ _ h=>h) ?_ ?_ ?_
    rotate_left
    ·intro w'
     go_simp
     with_reducible rfl
    rotate_left
    ·simp only [Act.put,List.setIfInBounds_toArray,List.set_cons_zero,List.set_cons_succ,i64_w,i32_w]
     rfl
    refine Cw.dpu (i:=5) (v:=?_) (a':=?_) (by simp only [List.getElem?_toArray,List.getElem?_cons_succ,List.getElem?_cons_zero];rfl) rfl (by as_aux_lemma=>kernel_rfl) (by rfl) (by exact fun _ _ _ h=>h) ?_ ?_ ?_
    rotate_left
    ·intro w'
     go_simp
     with_reducible rfl
    rotate_left
    ·simp only [Act.put,List.setIfInBounds_toArray,List.set_cons_zero,List.set_cons_succ,i64_w,i32_w]
     rfl
    refine Cw.dtk (i:=6) (v:=?_) (a':=?_) (by simp only [List.getElem?_toArray,List.getElem?_cons_succ,List.getElem?_cons_zero];rfl) rfl (by as_aux_lemma=>kernel_rfl) (by rfl) (by exact fun _ _ _ h=>h) ?_ (by repeat (first|exact Below.refl _ _|with_reducible apply zlN|with_reducible apply zlA|refine below_step ?_ (Aside0.out (by assumption)))) ?_ ?_
    rotate_left
    ·intro w' hs_
     have hs:=zm hs_
     clear hs_
     apply Eq.trans
     ·apply ID_u64
      ·rfl
      ·rfl
      ·exact (Kd.C_below (Aside0.out (by assumption)) (by repeat (first|exact Below.refl _ _|with_reducible apply zlN|with_reducible apply zlA|refine below_step ?_ (Aside0.out (by assumption)))))
      ·omega
      ·omega
     ·rfl
    rotate_left
    ·simp only [Act.put,List.setIfInBounds_toArray,List.set_cons_zero,List.set_cons_succ,i64_w,i32_w]
     rfl
    refine Cw.dpu (i:=7) (v:=?_) (a':=?_) (by simp only [List.getElem?_toArray,List.getElem?_cons_succ,List.getElem?_cons_zero];rfl) rfl (by as_aux_lemma=>kernel_rfl) (by rfl) (by exact fun _ _ _ h=>h) ?_ ?_ ?_
    rotate_left
    ·intro w'
     go_simp
     with_reducible rfl
    rotate_left
    ·simp only [Act.put,List.setIfInBounds_toArray,List.set_cons_zero,List.set_cons_succ,i64_w,i32_w]
     rfl
    refine Cw.dpu (i:=8) (v:=?_) (a':=?_) (by simp only [List.getElem?_toArray,List.getElem?_cons_succ,List.getElem?_cons_zero];rfl) rfl (by as_aux_lemma=>kernel_rfl) (by rfl) (by exact fun _ _ _ h=>h) ?_ ?_ ?_
    rotate_left
    ·intro w'
     go_simp
     with_reducible rfl
    rotate_left
    ·simp only [Act.put,List.setIfInBounds_toArray,List.set_cons_zero,List.set_cons_succ,i64_w,i32_w]
     rfl
    refine Cw.dpu (i:=9) (v:=?_) (a':=?_) (by simp only [List.getElem?_toArray,List.getElem?_cons_succ,List.getElem?_cons_zero];rfl) rfl (by as_aux_lemma=>kernel_rfl) (by rfl) (by exact fun _ _ _ h=>h) ?_ ?_ ?_
    rotate_left
    ·intro w'
     go_simp
     with_reducible rfl
    rotate_left
    ·simp only [Act.put,List.setIfInBounds_toArray,List.set_cons_zero,List.set_cons_succ,i64_w,i32_w]
     rfl
    refine Cw.dtk (i:=10) (v:=?_) (a':=?_) (by simp only [List.getElem?_toArray,List.getElem?_cons_succ,List.getElem?_cons_zero];rfl) rfl (by as_aux_lemma=>kernel_rfl) (by rfl) (by exact fun _ _ _ h=>h) ?_ (by repeat (first|exact Below.refl _ _|with_reducible apply zlN|with_reducible apply zlA|refine below_step ?_ (Aside0.out (by assumption)))) ?_ ?_
    rotate_left
    ·intro w' hs_
     have hs:=zm hs_
     clear hs_
     apply Eq.trans
     ·apply ID_u64
      ·rfl
      ·rfl
      ·exact (Kd.C_below (Aside0.out (by assumption)) (by repeat (first|exact Below.refl _ _|with_reducible apply zlN|with_reducible apply zlA|refine below_step ?_ (Aside0.out (by assumption)))))
      ·omega
      ·omega
     ·rfl
    rotate_left
    ·simp only [Act.put,List.setIfInBounds_toArray,List.set_cons_zero,List.set_cons_succ,i64_w,i32_w]
     rfl
    refine Cw.dpu (i:=11) (v:=?_) (a':=?_) (by simp only [List.getElem?_toArray,List.getElem?_cons_succ,List.getElem?_cons_zero];rfl) rfl (by as_aux_lemma=>kernel_rfl) (by rfl) (by exact fun _ _ _ h=>h) ?_ ?_ ?_
    rotate_left
    ·intro w'
     go_simp
     with_reducible rfl
    rotate_left
    ·simp only [Act.put,List.setIfInBounds_toArray,List.set_cons_zero,List.set_cons_succ,i64_w,i32_w]
     rfl
    refine Cw.dpu (i:=12) (v:=?_) (a':=?_) (by simp only [List.getElem?_toArray,List.getElem?_cons_succ,List.getElem?_cons_zero];rfl) rfl (by as_aux_lemma=>kernel_rfl) (by rfl) (by exact fun _ _ _ h=>h) ?_ ?_ ?_
    rotate_left
    ·intro w'
     go_simp
     with_reducible rfl
    rotate_left
    ·simp only [Act.put,List.setIfInBounds_toArray,List.set_cons_zero,List.set_cons_succ,i64_w,i32_w]
     rfl
    refine Cw.dpu (i:=13) (v:=?_) (a':=?_) (by simp only [List.getElem?_toArray,List.getElem?_cons_succ,List.getElem?_cons_zero];rfl) rfl (by as_aux_lemma=>kernel_rfl) (by rfl) (by exact fun _ _ _ h=>h) ?_ ?_ ?_
    rotate_left
    ·intro w'
     go_simp
     with_reducible rfl
    rotate_left
    ·simp only [Act.put,List.setIfInBounds_toArray,List.set_cons_zero,List.set_cons_succ,i64_w,i32_w]
     rfl
    refine Cw.dtk (i:=14) (v:=?_) (a':=?_) (by simp only [List.getElem?_toArray,List.getElem?_cons_succ,List.getElem?_cons_zero];rfl) rfl (by as_aux_lemma=>kernel_rfl) (by rfl) (by exact fun _ _ _ h=>h) ?_ (by repeat (first|exact Below.refl _ _|with_reducible apply zlN|with_reducible apply zlA|refine below_step ?_ (Aside0.out (by assumption)))) ?_ ?_
    rotate_left
    ·intro w' hs_
     have hs:=zm hs_
     clear hs_
     apply Eq.trans
     ·apply ID_u64
      ·rfl
      ·rfl
      ·exact (Kd.C_below (Aside0.out (by assumption)) (by repeat (first|exact Below.refl _ _|with_reducible apply zlN|with_reducible apply zlA|refine below_step ?_ (Aside0.out (by assumption)))))
      ·omega
      ·omega
     ·rfl
    rotate_left
    ·simp only [Act.put,List.setIfInBounds_toArray,List.set_cons_zero,List.set_cons_succ,i64_w,i32_w]
     rfl
    refine Cw.dpu (i:=15) (v:=?_) (a':=?_) (by simp only [List.getElem?_toArray,List.getElem?_cons_succ,List.getElem?_cons_zero];rfl) rfl (by as_aux_lemma=>kernel_rfl) (by rfl) (by exact fun _ _ _ h=>h) ?_ ?_ ?_
    rotate_left
    ·intro w'
     go_simp
     with_reducible rfl
    rotate_left
    ·simp only [Act.put,List.setIfInBounds_toArray,List.set_cons_zero,List.set_cons_succ,i64_w,i32_w]
     rfl
    refine Cw.dpu (i:=16) (v:=?_) (a':=?_) (by simp only [List.getElem?_toArray,List.getElem?_cons_succ,List.getElem?_cons_zero];rfl) rfl (by as_aux_lemma=>kernel_rfl) (by rfl) (by exact fun _ _ _ h=>h) ?_ ?_ ?_
    rotate_left
    ·intro w'
     go_simp
     with_reducible rfl
    rotate_left
    ·simp only [Act.put,List.setIfInBounds_toArray,List.set_cons_zero,List.set_cons_succ,i64_w,i32_w]
     rfl
    refine Cw.dpu (i:=17) (v:=?_) (a':=?_) (by simp only [List.getElem?_toArray,List.getElem?_cons_succ,List.getElem?_cons_zero];rfl) rfl (by as_aux_lemma=>kernel_rfl) (by rfl) (by exact fun _ _ _ h=>h) ?_ ?_ ?_
    rotate_left
    ·intro w'
     go_simp
     with_reducible rfl
    rotate_left
    ·simp only [Act.put,List.setIfInBounds_toArray,List.set_cons_zero,List.set_cons_succ,i64_w,i32_w]
     rfl
    refine Cw.dtk (i:=18) (v:=?_) (a':=?_) (by simp only [List.getElem?_toArray,List.getElem?_cons_succ,List.getElem?_cons_zero];rfl) rfl (by as_aux_lemma=>kernel_rfl) (by rfl) (by exact fun _ _ _ h=>h) ?_ (by repeat (first|exact Below.refl _ _|with_reducible apply zlN|with_reducible apply zlA|refine below_step ?_ (Aside0.out (by assumption)))) ?_ ?_
    rotate_left
    ·intro w' hs_
     have hs:=zm hs_
     clear hs_
     apply Eq.trans
     ·apply ID_u64
      ·rfl
      ·rfl
      ·exact (Kd.C_below (Aside0.out (by assumption)) (by repeat (first|exact Below.refl _ _|with_reducible apply zlN|with_reducible apply zlA|refine below_step ?_ (Aside0.out (by assumption)))))
      ·omega
      ·omega
     ·rfl
    rotate_left
    ·simp only [Act.put,List.setIfInBounds_toArray,List.set_cons_zero,List.set_cons_succ,i64_w,i32_w]
     rfl
    refine Cw.dpu (i:=19) (v:=?_) (a':=?_) (by simp only [List.getElem?_toArray,List.getElem?_cons_succ,List.getElem?_cons_zero];rfl) rfl (by as_aux_lemma=>kernel_rfl) (by rfl) (by exact fun _ _ _ h=>h) ?_ ?_ ?_
    rotate_left
    ·intro w'
     go_simp
     with_reducible rfl
    rotate_left
    ·simp only [Act.put,List.setIfInBounds_toArray,List.set_cons_zero,List.set_cons_succ,i64_w,i32_w]
     rfl
    refine Cw.dpu (i:=20) (v:=?_) (a':=?_) (by simp only [List.getElem?_toArray,List.getElem?_cons_succ,List.getElem?_cons_zero];rfl) rfl (by as_aux_lemma=>kernel_rfl) (by rfl) (by exact fun _ _ _ h=>h) ?_ ?_ ?_
    rotate_left
    ·intro w'
     go_simp
     with_reducible rfl
    rotate_left
    ·simp only [Act.put,List.setIfInBounds_toArray,List.set_cons_zero,List.set_cons_succ,i64_w,i32_w]
     rfl
    refine Cw.dpu (i:=21) (v:=?_) (a':=?_) (by simp only [List.getElem?_toArray,List.getElem?_cons_succ,List.getElem?_cons_zero];rfl) rfl (by as_aux_lemma=>kernel_rfl) (by rfl) (by exact fun _ _ _ h=>h) ?_ ?_ ?_
    rotate_left
    ·intro w'
     go_simp
     with_reducible rfl
    rotate_left
    ·simp only [Act.put,List.setIfInBounds_toArray,List.set_cons_zero,List.set_cons_succ,i64_w,i32_w]
     rfl
    refine Cw.dtk (i:=22) (v:=?_) (a':=?_) (by simp only [List.getElem?_toArray,List.getElem?_cons_succ,List.getElem?_cons_zero];rfl) rfl (by as_aux_lemma=>kernel_rfl) (by rfl) (by exact fun _ _ _ h=>h) ?_ (by repeat (first|exact Below.refl _ _|with_reducible apply zlN|with_reducible apply zlA|refine below_step ?_ (Aside0.out (by assumption)))) ?_ ?_
    rotate_left
    ·intro w' hs_
     have hs:=zm hs_
     clear hs_
     apply Eq.trans
     ·apply ID_u64
      ·rfl
      ·rfl
      ·exact (Kd.C_below (Aside0.out (by assumption)) (by repeat (first|exact Below.refl _ _|with_reducible apply zlN|with_reducible apply zlA|refine below_step ?_ (Aside0.out (by assumption)))))
      ·omega
      ·omega
     ·rfl
    rotate_left
    ·simp only [Act.put,List.setIfInBounds_toArray,List.set_cons_zero,List.set_cons_succ,i64_w,i32_w]
     rfl
    refine Cw.dpu (i:=23) (v:=?_) (a':=?_) (by simp only [List.getElem?_toArray,List.getElem?_cons_succ,List.getElem?_cons_zero];rfl) rfl (by as_aux_lemma=>kernel_rfl) (by rfl) (by exact fun _ _ _ h=>h) ?_ ?_ ?_
    rotate_left
    ·intro w'
     go_simp
     with_reducible rfl
    rotate_left
    ·simp only [Act.put,List.setIfInBounds_toArray,List.set_cons_zero,List.set_cons_succ,i64_w,i32_w]
     rfl
    refine Cw.dpu (i:=24) (v:=?_) (a':=?_) (by simp only [List.getElem?_toArray,List.getElem?_cons_succ,List.getElem?_cons_zero];rfl) rfl (by as_aux_lemma=>kernel_rfl) (by rfl) (by exact fun _ _ _ h=>h) ?_ ?_ ?_
    rotate_left
    ·intro w'
     go_simp
     with_reducible rfl
    rotate_left
    ·simp only [Act.put,List.setIfInBounds_toArray,List.set_cons_zero,List.set_cons_succ,i64_w,i32_w]
     rfl
    refine Cw.done1 (i:=25) (N:=some 12) (by simp only [List.getElem?_toArray,List.getElem?_cons_succ,List.getElem?_cons_zero];rfl) rfl (by as_aux_lemma=>kernel_rfl) (fun K hK=>?_)
    refine Cw.dnew (fun g=>.pointer (some ⟨g,0,none⟩)) (by rfl) rfl (by apply ID_new24;rfl) ?_
    rintro gx hg w1 hbk hb
    have hge:Aside0 (wd.heap.size≤gx):=⟨Nat.le_trans (below_size (by repeat (first|exact Below.refl _ _|with_reducible apply zlN|with_reducible apply zlA|refine below_step ?_ (Aside0.out (by assumption))))) (Nat.le_of_eq hg.symm)⟩
    clear hg
    have hh_:=zm hbk;clear hbk;have hbk:=hh_;clear hh_;have hh_:=zm hb;clear hb;have hb:=hh_;clear hh_
    refine hK.out _ _ (by repeat (first|exact Below.refl _ _|with_reducible apply zlN|with_reducible apply zlA|refine below_step ?_ (Aside0.out (by assumption)))) (fun _=>?_)
    clear hK K
    refine znm (some 12) ?_
    refine Cw.done1 (i:=26) (N:=none) (by simp only [List.getElem?_toArray,List.getElem?_cons_succ,List.getElem?_cons_zero];rfl) rfl (by as_aux_lemma=>kernel_rfl) (fun K hK=>?_)
    refine Cw.dput (g:=gx) (ys:=[.int .i64 (wrap64 (rd l1 0)),.int .i64 (wrap64 (rd l1 4)),.int .i64 (wrap64 (rd l1 5)),.int .i64 (wrap64 (rd l1 6)),.int .i64 (wrap64 (rd l1 7)),.int .i64 (wrap64 (rd l1 1)),.slice none 0 0]) (by rfl) rfl ?_ ?_
    ·apply ID_st7
     ·rfl
     ·rfl
     ·rfl
     ·exact (zbB (Aside0.out (by assumption)) (by repeat (first|exact Below.refl _ _|with_reducible apply zlN|with_reducible apply zlA|refine below_step ?_ (Aside0.out (by assumption)))))
    rintro wx hwx
    have hb2:Aside0 (Below wd.heap.size wd wx):=⟨by rw [hwx];exact Cw.setL_below hge.out _ _ _ (by repeat (first|exact Below.refl _ _|with_reducible apply zlN|with_reducible apply zlA|refine below_step ?_ (Aside0.out (by assumption))))⟩
    have hbx:Aside0 (wx.heap[gx]?=some (.cells #[.int .i64 (wrap64 (rd l1 0)),.int .i64 (wrap64 (rd l1 4)),.int .i64 (wrap64 (rd l1 5)),.int .i64 (wrap64 (rd l1 6)),.int .i64 (wrap64 (rd l1 7)),.int .i64 (wrap64 (rd l1 1)),.slice none 0 0] 24 (0,0))):=⟨by rw [hwx];exact Cw.setL_full [.int .i64 (wrap64 (rd l1 0)),.int .i64 (wrap64 (rd l1 4)),.int .i64 (wrap64 (rd l1 5)),.int .i64 (wrap64 (rd l1 6)),.int .i64 (wrap64 (rd l1 7)),.int .i64 (wrap64 (rd l1 1)),.slice none 0 0] (show _=some (Obj.cells #[.int .i64 0,.int .i64 0,.int .i64 0,.int .i64 0,.int .i64 0,.int .i64 0,.slice none 0 0] 24 (0,0)) from (zbB (Aside0.out (by assumption)) (by repeat (first|exact Below.refl _ _|with_reducible apply zlN|with_reducible apply zlA|refine below_step ?_ (Aside0.out (by assumption)))))) rfl⟩
    clear hwx
    refine hK.out _ _ hb2.out (fun _=>?_)
    clear hK K
    refine zdo ?_
    have hqm:=hqm.out
    have hm0:=hm0.out
    go_wp2_with (first|((with_reducible refine gate_ (.load 58 _) rfl ?_);refine Kd.event_run rfl (by apply ID_u64;exact rfl;exact rfl;exact (Kd.C_below (Aside0.out (by assumption)) (by repeat (first|exact Below.refl _ _|with_reducible apply zlN|with_reducible apply zlA|refine below_step ?_ (Aside0.out (by assumption)))));omega;omega) ?_))
    go_loopw [86] (fun i wr=>∃ (j:Nat) (rt:List S51) (v:Value),i=.int .i64 (j:Int)∧Aside0 ((j:Int)≤rd l1 2)∧Aside0 (rt.length=j)∧Aside0 (inode_Decode.go k l0 ((rd l1 2).toNat - j) j rt=some root)∧Aside0 (wr.heap[gx]?=some (.cells #[.int .i64 (wrap64 (rd l1 0)),.int .i64 (wrap64 (rd l1 4)),.int .i64 (wrap64 (rd l1 5)),.int .i64 (wrap64 (rd l1 6)),.int .i64 (wrap64 (rd l1 7)),.int .i64 (wrap64 (rd l1 1)),v] 24 (0,0)))∧Aside0 (Kd.R k51 51 wr wd.heap.size (fun _=>True) v rt)∧Aside0 (Below wd.heap.size wd wr)) (fun i _=>(rd l1 2).toNat - (intOf i).toNat)
    case atStart=>exact ⟨0,[],_,by simp,⟨by omega⟩,⟨rfl⟩,⟨F4.out⟩,hbx,⟨Kd.R_nil _ _ _ _ _⟩,⟨(by repeat (first|exact Below.refl _ _|with_reducible apply zlN|with_reducible apply zlA|refine below_step ?_ (Aside0.out (by assumption))))⟩⟩
    case round =>
     obtain ⟨j,rt,v,rfl,hj,HL,HA,hbr,hR,hbw⟩:=hrel
     clear hbx
     by_cases hlt:(j:Int) < rd l1 2
     ·have hlen:=HL
      have H:=HA.out
      clear HA
      obtain ⟨d,hd⟩:∃ d,(rd l1 2).toNat - j=d + 1:=⟨(rd l1 2).toNat - j - 1,by omega⟩
      have hd':(rd l1 2).toNat - (j + 1)=d:=by omega
      rw [hd] at H
      simp only [inode_Decode.go] at H
      have hg_:=Option.bind_eq_some_iff.mp H;clear H;obtain ⟨⟨p,e⟩,G1,H⟩:=hg_;have hh_:=zm G1;clear G1;have G1:=hh_;clear hh_;(try dsimp only at H);have hg_:=Cw.gt_ H;clear H;obtain ⟨rfl,H⟩:=hg_;have hg_:=Cw.gt_ H;clear H;obtain ⟨hp3,H⟩:=hg_
      rw [← hd'] at H
      clear hd hd'
      have hh_:=zm H;clear H;have H:=hh_;clear hh_;have hh_:=zm hp3;clear hp3;have hp3:=hh_;clear hh_
      have hj3:(j:Int)≤3:=by omega
      go_wp2
      refine Cw.dstart (by as_aux_lemma=>kernel_rfl) rfl (fun we hb=>?_)
      have hh_:=zm hb;clear hb;have hb:=hh_;clear hh_
      refine Cw.dpu (i:=0) (v:=?_) (a':=?_) (by simp only [List.getElem?_toArray,List.getElem?_cons_succ,List.getElem?_cons_zero];rfl) rfl (by as_aux_lemma=>kernel_rfl) (by rfl) (by exact fun _ _ _ h=>h) ?_ ?_ ?_
      rotate_left
      ·intro w'
       go_simp
       with_reducible rfl
      rotate_left
      ·simp only [Act.put,List.setIfInBounds_toArray,List.set_cons_zero,List.set_cons_succ,i64_w,i32_w]
       rfl
      refine Cw.dpu (i:=1) (v:=?_) (a':=?_) (by simp only [List.getElem?_toArray,List.getElem?_cons_succ,List.getElem?_cons_zero];rfl) rfl (by as_aux_lemma=>kernel_rfl) (by rfl) (by exact fun _ _ _ h=>h) ?_ ?_ ?_
      rotate_left
      ·intro w'
       go_simp
       with_reducible rfl
      rotate_left
      ·simp only [Act.put,List.setIfInBounds_toArray,List.set_cons_zero,List.set_cons_succ,i64_w,i32_w]
       rfl
      refine Cw.dpu (i:=2) (v:=?_) (a':=?_) (by simp only [List.getElem?_toArray,List.getElem?_cons_succ,List.getElem?_cons_zero];rfl) rfl (by as_aux_lemma=>kernel_rfl) (by rfl) (by exact fun _ _ _ h=>h) ?_ ?_ ?_
      rotate_left
      ·intro w'
       go_simp
       with_reducible rfl
      rotate_left
      ·simp only [Act.put,List.setIfInBounds_toArray,List.set_cons_zero,List.set_cons_succ,i64_w,i32_w]
       rfl
      refine Cw.dpu (i:=3) (v:=?_) (a':=?_) (by simp only [List.getElem?_toArray,List.getElem?_cons_succ,List.getElem?_cons_zero];rfl) rfl (by as_aux_lemma=>kernel_rfl) (by rfl) (by exact fun _ _ _ h=>h) ?_ ?_ ?_
      rotate_left
      ·intro w'
       go_simp
       with_reducible rfl
      rotate_left
      ·simp only [Act.put,List.setIfInBounds_toArray,List.set_cons_zero,List.set_cons_succ,i64_w,i32_w]
       rfl
      refine Cw.dpu (i:=4) (v:=?_) (a':=?_) (by simp only [List.getElem?_toArray,List.getElem?_cons_succ,List.getElem?_cons_zero];rfl) rfl (by as_aux_lemma=>kernel_rfl) (by rfl) (by exact fun _ _ _ h=>h) ?_ ?_ ?_
      rotate_left
      ·intro w'
       go_simp
       with_reducible rfl
      rotate_left
      ·simp only [Act.put,List.setIfInBounds_toArray,List.set_cons_zero,List.set_cons_succ,i64_w,i32_w]
       rfl
      refine Cw.dpu (i:=5) (v:=?_) (a':=?_) (by simp only [List.getElem?_toArray,List.getElem?_cons_succ,List.getElem?_cons_zero];rfl) rfl (by as_aux_lemma=>kernel_rfl) (by rfl) (by exact fun _ _ _ h=>h) ?_ ?_ ?_
      rotate_left
      ·intro w'
       go_simp
       with_reducible rfl
      rotate_left
      ·simp only [Act.put,List.setIfInBounds_toArray,List.set_cons_zero,List.set_cons_succ,i64_w,i32_w]
       rfl
      refine Cw.dpu (i:=6) (v:=?_) (a':=?_) (by simp only [List.getElem?_toArray,List.getElem?_cons_succ,List.getElem?_cons_zero];rfl) rfl (by as_aux_lemma=>kernel_rfl) (by rfl) (by exact fun _ _ _ h=>h) ?_ ?_ ?_
      rotate_left
      ·intro w'
       go_simp
       with_reducible rfl
      rotate_left
      ·simp only [Act.put,List.setIfInBounds_toArray,List.set_cons_zero,List.set_cons_succ,i64_w,i32_w]
       rfl
      refine Cw.dpu (i:=7) (v:=?_) (a':=?_) (by simp only [List.getElem?_toArray,List.getElem?_cons_succ,List.getElem?_cons_zero];rfl) rfl (by as_aux_lemma=>kernel_rfl) (by rfl) (by exact fun _ _ _ h=>h) ?_ ?_ ?_
      rotate_left
      ·intro w'
       go_simp
       with_reducible rfl
      rotate_left
      ·simp only [Act.put,List.setIfInBounds_toArray,List.set_cons_zero,List.set_cons_succ,i64_w,i32_w]
       rfl
      refine Cw.dpu (i:=8) (v:=?_) (a':=?_) (by simp only [List.getElem?_toArray,List.getElem?_cons_succ,List.getElem?_cons_zero];rfl) rfl (by as_aux_lemma=>kernel_rfl) (by rfl) (by exact fun _ _ _ h=>h) ?_ ?_ ?_
      rotate_left
      ·intro w'
       go_simp
       with_reducible rfl
      rotate_left
      ·simp only [Act.put,List.setIfInBounds_toArray,List.set_cons_zero,List.set_cons_succ,i64_w,i32_w]
       rfl
      refine Cw.dpu (i:=9) (v:=?_) (a':=?_) (by simp only [List.getElem?_toArray,List.getElem?_cons_succ,List.getElem?_cons_zero];rfl) rfl (by as_aux_lemma=>kernel_rfl) (by rfl) (by exact fun _ _ _ h=>h) ?_ ?_ ?_
      rotate_left
      ·intro w'
       go_simp
       with_reducible rfl
      rotate_left
      ·simp only [Act.put,List.setIfInBounds_toArray,List.set_cons_zero,List.set_cons_succ,i64_w,i32_w]
       rfl
      refine Cw.dpu (i:=10) (v:=?_) (a':=?_) (by simp only [List.getElem?_toArray,List.getElem?_cons_succ,List.getElem?_cons_zero];rfl) rfl (by as_aux_lemma=>kernel_rfl) (by rfl) (by exact fun _ _ _ h=>h) ?_ ?_ ?_
      rotate_left
      ·intro w'
       go_simp
       with_reducible rfl
      rotate_left
      ·simp only [Act.put,List.setIfInBounds_toArray,List.set_cons_zero,List.set_cons_succ,i64_w,i32_w]
       rfl
      refine Cw.dpu (i:=11) (v:=?_) (a':=?_) (by simp only [List.getElem?_toArray,List.getElem?_cons_succ,List.getElem?_cons_zero];rfl) rfl (by as_aux_lemma=>kernel_rfl) (by rfl) (by exact fun _ _ _ h=>h) ?_ ?_ ?_
      rotate_left
      ·intro w'
       go_simp
       with_reducible rfl
      rotate_left
      ·simp only [Act.put,List.setIfInBounds_toArray,List.set_cons_zero,List.set_cons_succ,i64_w,i32_w]
       rfl
      refine Cw.dpu (i:=12) (v:=?_) (a':=?_) (by simp only [List.getElem?_toArray,List.getElem?_cons_succ,List.getElem?_cons_zero];rfl) rfl (by as_aux_lemma=>kernel_rfl) (by rfl) (by exact fun _ _ _ h=>h) ?_ ?_ ?_
      rotate_left
      ·intro w'
       go_simp
       with_reducible rfl
      rotate_left
      ·simp only [Act.put,List.setIfInBounds_toArray,List.set_cons_zero,List.set_cons_succ,i64_w,i32_w]
       rfl
      have hcap:(64:Int)≤(c0:Int):=by have:=hl.out;have:=hc0.out;omega
      refine Cw.dpu (i:=13) (v:=?_) (a':=?_) (by simp only [List.getElem?_toArray,List.getElem?_cons_succ,List.getElem?_cons_zero];rfl) rfl (by as_aux_lemma=>kernel_rfl) (by rfl) (by exact fun _ _ _ h=>h) ?_ ?_ ?_
      rotate_left
      ·intro w'
       apply Eq.trans
       ·apply ID_cut
        ·rfl
        ·rfl
        ·rfl
        ·rfl
        ·rw [ID_lo hj3];omega
        ·rw [ID_lo hj3,ID_hi hj3];omega
        ·rw [ID_hi hj3];omega
       ·rfl
      rotate_left
      ·simp only [Act.put,List.setIfInBounds_toArray,List.set_cons_zero,List.set_cons_succ,i64_w,i32_w]
       rfl
      refine Cw.done1 (i:=14) (N:=some 104) (by simp only [List.getElem?_toArray,List.getElem?_cons_succ,List.getElem?_cons_zero];rfl) rfl (by as_aux_lemma=>kernel_rfl) (fun K hK=>?_)
      refine goes_ Try.func32 (by as_aux_lemma=>kernel_rfl) rfl _ (by rfl) rfl rfl (by go_simp;rfl) ?_
      rw [ID_lo hj3,ID_hi hj3]
      simp only [Int.toNat_natCast]
      refine (ID_unpack k _ 3 3 [24,16,32] _ _ _ ((l0.take (24 + (j + 1) * 9)).drop (24 + j * 9)) p 0 _ rfl (by rw [List.length_drop,List.length_take];have:=hl.out;omega) (Cw.C_ints (zbB (Aside0.out (by assumption)) (by repeat (first|exact Below.refl _ _|with_reducible apply zlN|with_reducible apply zlA|refine below_step ?_ (Aside0.out (by assumption))))) rfl (by simp)) (by simp) (ID_mid rfl (Kd.C_below (Aside0.out (by assumption)) (by repeat (first|exact Below.refl _ _|with_reducible apply zlN|with_reducible apply zlA|refine below_step ?_ (Aside0.out (by assumption))))) (by omega) (by have:=hl.out;omega) hc0.out) (by rw [List.length_drop,List.length_take];have:=hl.out;omega) G1.out).mono ?_
      rintro e w1 ⟨A2,c2,rfl,hc2,hr2,hb⟩
      obtain ⟨ad2,rfl,_⟩:=hr2.2.2 (by rw [hp3.out];omega)
      rw [hp3.out] at hr2 hc2 ⊢
      have hh_:=zm hc2;clear hc2;have hc2:=hh_;clear hh_;have hh_:=zm hr2;clear hr2;have hr2:=hh_;clear hh_;have hh_:=zm hb;clear hb;have hb:=hh_;clear hh_
      refine ⟨_,rfl,?_⟩
      refine hK.out _ _ (by repeat (first|exact Below.refl _ _|with_reducible apply zlN|with_reducible apply zlA|refine below_step ?_ (Aside0.out (by assumption)))) (fun _=>?_)
      clear hK K
      refine znm (some 104) ?_
      refine Cw.dpu (i:=15) (v:=?_) (a':=?_) (by simp only [List.getElem?_toArray,List.getElem?_cons_succ,List.getElem?_cons_zero];rfl) rfl (by as_aux_lemma=>kernel_rfl) (by rfl) (by exact fun _ _ _ h=>h) ?_ ?_ ?_
      rotate_left
      ·intro w'
       go_simp
       with_reducible rfl
      rotate_left
      ·simp only [Act.put,List.setIfInBounds_toArray,List.set_cons_zero,List.set_cons_succ,i64_w,i32_w]
       rfl
      refine Cw.dpu (i:=16) (v:=?_) (a':=?_) (by simp only [List.getElem?_toArray,List.getElem?_cons_succ,List.getElem?_cons_zero];rfl) rfl (by as_aux_lemma=>kernel_rfl) (by rfl) (by exact fun _ _ _ h=>h) ?_ ?_ ?_
      rotate_left
      ·intro w'
       go_simp
       with_reducible rfl
      rotate_left
      ·simp only [Act.put,List.setIfInBounds_toArray,List.set_cons_zero,List.set_cons_succ,i64_w,i32_w]
       rfl
      refine Cw.dpu (i:=17) (v:=?_) (a':=?_) (by simp only [List.getElem?_toArray,List.getElem?_cons_succ,List.getElem?_cons_zero];rfl) rfl (by as_aux_lemma=>kernel_rfl) (by rfl) (by exact fun _ _ _ h=>h) ?_ ?_ ?_
      rotate_left
      ·intro w'
       go_simp
       with_reducible rfl
      rotate_left
      ·simp only [Act.put,List.setIfInBounds_toArray,List.set_cons_zero,List.set_cons_succ,i64_w,i32_w]
       rfl
      refine Cw.dpu (i:=18) (v:=?_) (a':=?_) (by simp only [List.getElem?_toArray,List.getElem?_cons_succ,List.getElem?_cons_zero];rfl) rfl (by as_aux_lemma=>kernel_rfl) (by rfl) (by exact fun _ _ _ h=>h) ?_ ?_ ?_
      rotate_left
      ·intro w'
       go_simp
       with_reducible rfl
      rotate_left
      ·simp only [Act.put,List.setIfInBounds_toArray,List.set_cons_zero,List.set_cons_succ,i64_w,i32_w]
       rfl
      refine Cw.dpu (i:=19) (v:=?_) (a':=?_) (by simp only [List.getElem?_toArray,List.getElem?_cons_succ,List.getElem?_cons_zero];rfl) rfl (by as_aux_lemma=>kernel_rfl) (by rfl) (by exact fun _ _ _ h=>h) ?_ ?_ ?_
      rotate_left
      ·intro w'
       go_simp
       with_reducible rfl
      rotate_left
      ·simp only [Act.put,List.setIfInBounds_toArray,List.set_cons_zero,List.set_cons_succ,i64_w,i32_w]
       rfl
      refine zdo ?_
      go_wp2
      refine Cw.dstartD [16,18] (by as_aux_lemma=>kernel_rfl) rfl (fun we hb=>?_)
      have hh_:=zm hb;clear hb;have hb:=hh_;clear hh_
      refine Cw.dpu (i:=0) (v:=?_) (a':=?_) (by simp only [List.getElem?_toArray,List.getElem?_cons_succ,List.getElem?_cons_zero];rfl) rfl (by as_aux_lemma=>kernel_rfl) (by rfl) (by exact fun _ _ _ h=>h) ?_ ?_ ?_
      rotate_left
      ·intro w'
       go_simp
       with_reducible rfl
      rotate_left
      ·simp only [Act.put,List.setIfInBounds_toArray,List.set_cons_zero,List.set_cons_succ,i64_w,i32_w]
       rfl
      refine Cw.dtkD (i:=1) (v:=?_) (a':=?_) (by simp only [List.getElem?_toArray,List.getElem?_cons_succ,List.getElem?_cons_zero];rfl) rfl (by as_aux_lemma=>kernel_rfl) (by rfl) (by exact fun _ _ _ h=>h) ?_ (by repeat (first|exact Below.refl _ _|with_reducible apply zlN|with_reducible apply zlA|refine below_step ?_ (Aside0.out (by assumption)))) ?_ ?_
      rotate_left
      ·intro w' hs_
       have hs:=zm hs_
       clear hs_
       apply Eq.trans
       ·apply IE_c22
        ·rfl
        ·rfl
        ·exact (zbB (Aside0.out (by assumption)) (by repeat (first|exact Below.refl _ _|with_reducible apply zlN|with_reducible apply zlA|refine below_step ?_ (Aside0.out (by assumption)))))
        ·rfl
       ·rfl
      rotate_left
      ·simp only [Act.put,List.setIfInBounds_toArray,List.set_cons_zero,List.set_cons_succ,i64_w,i32_w]
       rfl
      refine Cw.dpu (i:=2) (v:=?_) (a':=?_) (by simp only [List.getElem?_toArray,List.getElem?_cons_succ,List.getElem?_cons_zero];rfl) rfl (by as_aux_lemma=>kernel_rfl) (by rfl) (by exact fun _ _ _ h=>h) ?_ ?_ ?_
      rotate_left
      ·intro w'
       go_simp
       with_reducible rfl
      rotate_left
      ·simp only [Act.put,List.setIfInBounds_toArray,List.set_cons_zero,List.set_cons_succ,i64_w,i32_w]
       rfl
      refine Cw.dpu (i:=3) (v:=?_) (a':=?_) (by simp only [List.getElem?_toArray,List.getElem?_cons_succ,List.getElem?_cons_zero];rfl) rfl (by as_aux_lemma=>kernel_rfl) (by rfl) (by exact fun _ _ _ h=>h) ?_ ?_ ?_
      rotate_left
      ·intro w'
       go_simp
       with_reducible rfl
      rotate_left
      ·simp only [Act.put,List.setIfInBounds_toArray,List.set_cons_zero,List.set_cons_succ,i64_w,i32_w]
       rfl
      refine Cw.dtkD (i:=4) (v:=?_) (a':=?_) (by simp only [List.getElem?_toArray,List.getElem?_cons_succ,List.getElem?_cons_zero];rfl) rfl (by as_aux_lemma=>kernel_rfl) (by rfl) (by exact fun _ _ _ h=>h) ?_ (by repeat (first|exact Below.refl _ _|with_reducible apply zlN|with_reducible apply zlA|refine below_step ?_ (Aside0.out (by assumption)))) ?_ ?_
      rotate_left
      ·intro w' hs_
       have hs:=zm hs_
       clear hs_
       apply Eq.trans
       ·apply ID_u64z
        ·rfl
        ·rfl
        ·exact (Kd.C_below (Aside0.out (by assumption)) (by repeat (first|exact Below.refl _ _|with_reducible apply zlN|with_reducible apply zlA|refine below_step ?_ (Aside0.out (by assumption)))))
        ·omega
       ·rfl
      rotate_left
      ·simp only [Act.put,List.setIfInBounds_toArray,List.set_cons_zero,List.set_cons_succ,i64_w,i32_w]
       rfl
      refine Cw.dpu (i:=5) (v:=?_) (a':=?_) (by simp only [List.getElem?_toArray,List.getElem?_cons_succ,List.getElem?_cons_zero];rfl) rfl (by as_aux_lemma=>kernel_rfl) (by rfl) (by exact fun _ _ _ h=>h) ?_ ?_ ?_
      rotate_left
      ·intro w'
       go_simp
       with_reducible rfl
      rotate_left
      ·simp only [Act.put,List.setIfInBounds_toArray,List.set_cons_zero,List.set_cons_succ,i64_w,i32_w]
       rfl
      refine Cw.dpu (i:=6) (v:=?_) (a':=?_) (by simp only [List.getElem?_toArray,List.getElem?_cons_succ,List.getElem?_cons_zero];rfl) rfl (by as_aux_lemma=>kernel_rfl) (by rfl) (by exact fun _ _ _ h=>h) ?_ ?_ ?_
      rotate_left
      ·intro w'
       go_simp
       with_reducible rfl
      rotate_left
      ·simp only [Act.put,List.setIfInBounds_toArray,List.set_cons_zero,List.set_cons_succ,i64_w,i32_w]
       rfl
      refine Cw.dpu (i:=7) (v:=?_) (a':=?_) (by simp only [List.getElem?_toArray,List.getElem?_cons_succ,List.getElem?_cons_zero];rfl) rfl (by as_aux_lemma=>kernel_rfl) (by rfl) (by exact fun _ _ _ h=>h) ?_ ?_ ?_
      rotate_left
      ·intro w'
       go_simp
       with_reducible rfl
      rotate_left
      ·simp only [Act.put,List.setIfInBounds_toArray,List.set_cons_zero,List.set_cons_succ,i64_w,i32_w]
       rfl
      refine Cw.dtkD (i:=8) (v:=?_) (a':=?_) (by simp only [List.getElem?_toArray,List.getElem?_cons_succ,List.getElem?_cons_zero];rfl) rfl (by as_aux_lemma=>kernel_rfl) (by rfl) (by exact fun _ _ _ h=>h) ?_ (by repeat (first|exact Below.refl _ _|with_reducible apply zlN|with_reducible apply zlA|refine below_step ?_ (Aside0.out (by assumption)))) ?_ ?_
      rotate_left
      ·intro w' hs_
       have hs:=zm hs_
       clear hs_
       apply Eq.trans
       ·apply ID_u64
        ·rfl
        ·rfl
        ·exact (Kd.C_below (Aside0.out (by assumption)) (by repeat (first|exact Below.refl _ _|with_reducible apply zlN|with_reducible apply zlA|refine below_step ?_ (Aside0.out (by assumption)))))
        ·omega
        ·omega
       ·rfl
      rotate_left
      ·simp only [Act.put,List.setIfInBounds_toArray,List.set_cons_zero,List.set_cons_succ,i64_w,i32_w]
       rfl
      refine Cw.dpu (i:=9) (v:=?_) (a':=?_) (by simp only [List.getElem?_toArray,List.getElem?_cons_succ,List.getElem?_cons_zero];rfl) rfl (by as_aux_lemma=>kernel_rfl) (by rfl) (by exact fun _ _ _ h=>h) ?_ ?_ ?_
      rotate_left
      ·intro w'
       go_simp
       with_reducible rfl
      rotate_left
      ·simp only [Act.put,List.setIfInBounds_toArray,List.set_cons_zero,List.set_cons_succ,i64_w,i32_w]
       rfl
      refine Cw.dpu (i:=10) (v:=?_) (a':=?_) (by simp only [List.getElem?_toArray,List.getElem?_cons_succ,List.getElem?_cons_zero];rfl) rfl (by as_aux_lemma=>kernel_rfl) (by rfl) (by exact fun _ _ _ h=>h) ?_ ?_ ?_
      rotate_left
      ·intro w'
       go_simp
       with_reducible rfl
      rotate_left
      ·simp only [Act.put,List.setIfInBounds_toArray,List.set_cons_zero,List.set_cons_succ,i64_w,i32_w]
       rfl
      refine Cw.dpu (i:=11) (v:=?_) (a':=?_) (by simp only [List.getElem?_toArray,List.getElem?_cons_succ,List.getElem?_cons_zero];rfl) rfl (by as_aux_lemma=>kernel_rfl) (by rfl) (by exact fun _ _ _ h=>h) ?_ ?_ ?_
      rotate_left
      ·intro w'
       go_simp
       with_reducible rfl
      rotate_left
      ·simp only [Act.put,List.setIfInBounds_toArray,List.set_cons_zero,List.set_cons_succ,i64_w,i32_w]
       rfl
      refine Cw.dtkD (i:=12) (v:=?_) (a':=?_) (by simp only [List.getElem?_toArray,List.getElem?_cons_succ,List.getElem?_cons_zero];rfl) rfl (by as_aux_lemma=>kernel_rfl) (by rfl) (by exact fun _ _ _ h=>h) ?_ (by repeat (first|exact Below.refl _ _|with_reducible apply zlN|with_reducible apply zlA|refine below_step ?_ (Aside0.out (by assumption)))) ?_ ?_
      rotate_left
      ·intro w' hs_
       have hs:=zm hs_
       clear hs_
       apply Eq.trans
       ·apply ID_u64
        ·rfl
        ·rfl
        ·exact (Kd.C_below (Aside0.out (by assumption)) (by repeat (first|exact Below.refl _ _|with_reducible apply zlN|with_reducible apply zlA|refine below_step ?_ (Aside0.out (by assumption)))))
        ·omega
        ·omega
       ·rfl
      rotate_left
      ·simp only [Act.put,List.setIfInBounds_toArray,List.set_cons_zero,List.set_cons_succ,i64_w,i32_w]
       rfl
      refine Cw.dpu (i:=13) (v:=?_) (a':=?_) (by simp only [List.getElem?_toArray,List.getElem?_cons_succ,List.getElem?_cons_zero];rfl) rfl (by as_aux_lemma=>kernel_rfl) (by rfl) (by exact fun _ _ _ h=>h) ?_ ?_ ?_
      rotate_left
      ·intro w'
       go_simp
       with_reducible rfl
      rotate_left
      ·simp only [Act.put,List.setIfInBounds_toArray,List.set_cons_zero,List.set_cons_succ,i64_w,i32_w]
       rfl
      refine Cw.dpu (i:=14) (v:=?_) (a':=?_) (by simp only [List.getElem?_toArray,List.getElem?_cons_succ,List.getElem?_cons_zero];rfl) rfl (by as_aux_lemma=>kernel_rfl) (by rfl) (by exact fun _ _ _ h=>h) ?_ ?_ ?_
      rotate_left
      ·intro w'
       go_simp
       with_reducible rfl
      rotate_left
      ·simp only [Act.put,List.setIfInBounds_toArray,List.set_cons_zero,List.set_cons_succ,i64_w,i32_w]
       rfl
      refine Cw.done1D (i:=15) (N:=some 125) (by simp only [List.getElem?_toArray,List.getElem?_cons_succ,List.getElem?_cons_zero];rfl) rfl (by as_aux_lemma=>kernel_rfl) (by decide) (fun K hK=>?_)
      refine Cw.dnew (fun g=>.slice (some ⟨g,0,none⟩) 1 1) (by rfl) rfl (by apply ID_lit1;exact rfl;exact rfl) ?_
      rintro gl hg w1 hbk hb
      clear hg
      have hh_:=zm hbk;clear hbk;have hbk:=hh_;clear hh_;have hh_:=zm hb;clear hb;have hb:=hh_;clear hh_
      refine hK.out _ _ (by repeat (first|exact Below.refl _ _|with_reducible apply zlN|with_reducible apply zlA|refine below_step ?_ (Aside0.out (by assumption)))) (fun _=>?_)
      clear hK K
      refine znm (some 125) ?_
      refine Cw.lastD (i:=16) (N:=some 126) (by simp only [List.getElem?_toArray,List.getElem?_cons_succ,List.getElem?_cons_zero];rfl) rfl (by as_aux_lemma=>kernel_rfl) (by decide) (fun K hK=>?_)
      refine Kd.R_append_rows_step k51 (Rr:=k51.K wd) (w0:=wd) wd.heap.size (by rfl) (.tmp 111) (.tmp 125) 22 51 (.agg #[(.int .i64 0),(.int .i64 0),(.int .i64 0)]) 24 rfl Try.underlying22 info51 rfl (by decide) (by omega) v rt [(⟨wrap64 (rd p 0),wrap64 (rd p 1),wrap64 (rd p 2)⟩:S51)] _ _ _ (fun _=>True) (fun _=>False) rfl rfl (Kd.R_below hR.out (by repeat (first|exact Below.refl _ _|with_reducible apply zlN|with_reducible apply zlA|refine below_step ?_ (Aside0.out (by assumption))))) (ID_R1 (zbB (Aside0.out (by assumption)) (by repeat (first|exact Below.refl _ _|with_reducible apply zlN|with_reducible apply zlA|refine below_step ?_ (Aside0.out (by assumption)))))) (fun x cs h=>by rw [k51_open h];exact k51_mkM _ _ _ x) (fun _ hk=>hk.elim) (fun _ _=>trivial) (by repeat (first|exact Below.refl _ _|with_reducible apply zlN|with_reducible apply zlA|refine below_step ?_ (Aside0.out (by assumption)))) (below_size (by repeat (first|exact Below.refl _ _|with_reducible apply zlN|with_reducible apply zlA|refine below_step ?_ (Aside0.out (by assumption))))) ?_ ?_
      ·have:=HL.out
       omega
      intro v1 wA ho hb hg _
      have hbx:Aside0 (wA.heap[gx]?=some (.cells #[.int .i64 (wrap64 (rd l1 0)),.int .i64 (wrap64 (rd l1 4)),.int .i64 (wrap64 (rd l1 5)),.int .i64 (wrap64 (rd l1 6)),.int .i64 (wrap64 (rd l1 7)),.int .i64 (wrap64 (rd l1 1)),v] 24 (0,0))):=⟨blk_grown (show _=some (Obj.cells #[.int .i64 (wrap64 (rd l1 0)),.int .i64 (wrap64 (rd l1 4)),.int .i64 (wrap64 (rd l1 5)),.int .i64 (wrap64 (rd l1 6)),.int .i64 (wrap64 (rd l1 7)),.int .i64 (wrap64 (rd l1 1)),v] 24 (0,0)) from (zbB (Aside0.out (by assumption)) (by repeat (first|exact Below.refl _ _|with_reducible apply zlN|with_reducible apply zlA|refine below_step ?_ (Aside0.out (by assumption)))))) hg (Kd.R_ne hR.out hbr.out (by decide))⟩
      clear hg
      obtain ⟨A3,c3,rfl⟩:=Kd.R_slice ho
      have hh_:=zm ho;clear ho;have ho:=hh_;clear hh_;have hh_:=zm hb;clear hb;have hb:=hh_;clear hh_
      refine hK.out _ _ ?_
      clear hK K
      refine znm (some 126) ?_
      refine Cw.dpu (i:=17) (v:=?_) (a':=?_) (by simp only [List.getElem?_toArray,List.getElem?_cons_succ,List.getElem?_cons_zero];rfl) rfl (by as_aux_lemma=>kernel_rfl) (by rfl) (by exact fun _ _ _ h=>h) ?_ ?_ ?_
      rotate_left
      ·intro w'
       go_simp
       with_reducible rfl
      rotate_left
      ·simp only [Act.put,List.setIfInBounds_toArray,List.set_cons_zero,List.set_cons_succ,i64_w,i32_w]
       rfl
      refine Cw.lastD (i:=18) (N:=none) (by simp only [List.getElem?_toArray,List.getElem?_cons_succ,List.getElem?_cons_zero];rfl) rfl (by as_aux_lemma=>kernel_rfl) (by decide) (fun K hK=>?_)
      refine skip_ (w1:=wA.setCell ⟨gx,6,none⟩ (.slice A3 (rt ++ [(⟨wrap64 (rd p 0),wrap64 (rd p 1),wrap64 (rd p 2)⟩:S51)]).length c3)) (by rfl) rfl ?_ ?_
      ·apply ID_st1
       ·rfl
       ·rfl
       ·rfl
       ·exact hbx.out
      have hbx2:Aside0 ((wA.setCell ⟨gx,6,none⟩ (.slice A3 (rt ++ [(⟨wrap64 (rd p 0),wrap64 (rd p 1),wrap64 (rd p 2)⟩:S51)]).length c3)).heap[gx]?=some (.cells #[.int .i64 (wrap64 (rd l1 0)),.int .i64 (wrap64 (rd l1 4)),.int .i64 (wrap64 (rd l1 5)),.int .i64 (wrap64 (rd l1 6)),.int .i64 (wrap64 (rd l1 7)),.int .i64 (wrap64 (rd l1 1)),.slice A3 (rt ++ [(⟨wrap64 (rd p 0),wrap64 (rd p 1),wrap64 (rd p 2)⟩:S51)]).length c3] 24 (0,0))):=⟨blk_set hbx.out 6 _⟩
      have ho2:=zm (Kd.R_set ho.out hbx.out (by intro q hq;simp [k51,Kd.iso,Kd.pair,Kd.int,Kd.scalar] at hq;omega) 6 (.slice A3 (rt ++ [(⟨wrap64 (rd p 0),wrap64 (rd p 1),wrap64 (rd p 2)⟩:S51)]).length c3))
      have hb2:Aside0 (Below wd.heap.size wd (wA.setCell ⟨gx,6,none⟩ (.slice A3 (rt ++ [(⟨wrap64 (rd p 0),wrap64 (rd p 1),wrap64 (rd p 2)⟩:S51)]).length c3))):=⟨zlS hb.out hge.out⟩
      generalize wA.setCell ⟨gx,6,none⟩ (.slice A3 (rt ++ [(⟨wrap64 (rd p 0),wrap64 (rd p 1),wrap64 (rd p 2)⟩:S51)]).length c3)=wB at hbx2 ho2 hb2 ⊢
      refine hK.out _ _ ?_
      clear hK K
      refine zdo ?_
      go_wp2
      go_roundw
      case rel=>exact ⟨j + 1,rt ++ [(⟨wrap64 (rd p 0),wrap64 (rd p 1),wrap64 (rd p 2)⟩:S51)],_,rfl,⟨by omega⟩,⟨by rw [List.length_append,HL.out];rfl⟩,⟨H.out⟩,hbx2,ho2,hb2⟩
      case measure=>exact ID_meas hlt
     ·have hjm:(rd l1 2).toNat - j=0:=by have:=hj.out;omega
      have H:=HA.out
      clear HA
      rw [hjm] at H
      simp only [inode_Decode.go] at H
      obtain rfl:=Option.some.inj H
      clear H hjm
      obtain ⟨A3,c3,rfl⟩:=Kd.R_slice hR.out
      have hc3:=zm (Kd.R_reads' hR.out).2.1
      have hr3:=zm (Kd.R_reads' hR.out).2.2
      have H:=HO.out
      clear HO
      by_cases hpe:pe=0
      ·rw [if_pos hpe] at H
       have hg_:=Option.bind_eq_some_iff.mp H;clear H;obtain ⟨t,F6,H⟩:=hg_;have hh_:=zm F6;clear F6;have F6:=hh_;clear hh_;(try dsimp only at H)
       have hpe':(pe != 0)=false:=by rw [hpe];rfl
       clear hpe
       by_cases ht:t=true
       ·subst ht
        rw [if_pos rfl] at H
        simp only [Option.some.injEq,Prod.mk.injEq] at H
        obtain ⟨rfl,rfl,rfl,rfl,rfl,rfl,rfl,rfl⟩:=H
        go_wp2_with (first|((with_reducible refine gate_ (.load 24 _) rfl ?_);refine IE_ld rfl rfl rfl (zbB (Aside0.out (by assumption)) (by repeat (first|exact Below.refl _ _|with_reducible apply zlN|with_reducible apply zlA|refine below_step ?_ (Aside0.out (by assumption))))) ?_)|(go_at_call 8;refine (inode_Encode.calls k _ _ _ _ _ _ _ _ _ _ _ _ (Kd.C_below (Aside0.out (by assumption)) (by repeat (first|exact Below.refl _ _|with_reducible apply zlN|with_reducible apply zlA|refine below_step ?_ (Aside0.out (by assumption))))) (Aside0.out (by assumption)) F5.out).mono ?_;rintro e wE ⟨vE,rfl,hoE,hb⟩;obtain ⟨AE,cE,rfl⟩:=Kd.R_slice hoE;have hcE:=zm (Kd.R_reads' hoE).2.1;have hrE:=zm (Kd.R_reads' hoE).2.2;clear hoE;have hh_:=zm hb;clear hb;have hb:=hh_;clear hh_)|((with_reducible refine Cw.guarded rfl ?gw ?_);(case gw=>first|rfl|(go_simp;done));dsimp only)|(go_at_call 33;refine (slices_Equal_byte_byte.calls k _ _ _ _ _ _ _ _ (Kd.C_below (Aside0.out (by assumption)) (by repeat (first|exact Below.refl _ _|with_reducible apply zlN|with_reducible apply zlA|refine below_step ?_ (Aside0.out (by assumption))))) (Aside0.out (by assumption)) (Kd.C_below (Aside0.out (by assumption)) (by repeat (first|exact Below.refl _ _|with_reducible apply zlN|with_reducible apply zlA|refine below_step ?_ (Aside0.out (by assumption))))) (Aside0.out (by assumption)) F6.out).mono ?_;rintro e w1 ⟨rfl,hd⟩;have hb:=Drawn0.below hd;clear hd;have hh_:=zm hb;clear hb;have hb:=hh_;clear hh_)|((with_reducible refine gate_ (.store 24 (.tmp 2) _) rfl ?_);refine Cw.put_event (g:=g2) (ys:=[.int .i64 (wrap64 (rd l1 0)),.int .i64 (wrap64 (rd l1 4)),.int .i64 (wrap64 (rd l1 5)),.int .i64 (wrap64 (rd l1 6)),.int .i64 (wrap64 (rd l1 7)),.int .i64 (wrap64 (rd l1 1)),.slice A3 rt.length c3]) rfl rfl rfl (by apply ID_st7;exact rfl;exact rfl;exact rfl;exact (zbB (Aside0.out (by assumption)) (by repeat (first|exact Below.refl _ _|with_reducible apply zlN|with_reducible apply zlA|refine below_step ?_ (Aside0.out (by assumption)))))) ?_;rintro w2 hw2;have hb2:Aside0 (Below w.heap.size w w2):=⟨by rw [hw2];exact Cw.setL_below hg2.out _ _ _ (by repeat (first|exact Below.refl _ _|with_reducible apply zlN|with_reducible apply zlA|refine below_step ?_ (Aside0.out (by assumption))))⟩;have hzz:Aside0 (w2.heap[g2]?=some (.cells #[.int .i64 (wrap64 (rd l1 0)),.int .i64 (wrap64 (rd l1 4)),.int .i64 (wrap64 (rd l1 5)),.int .i64 (wrap64 (rd l1 6)),.int .i64 (wrap64 (rd l1 7)),.int .i64 (wrap64 (rd l1 1)),.slice A3 rt.length c3] 24 (0,0))):=⟨by rw [hw2];exact Cw.setL_full [.int .i64 (wrap64 (rd l1 0)),.int .i64 (wrap64 (rd l1 4)),.int .i64 (wrap64 (rd l1 5)),.int .i64 (wrap64 (rd l1 6)),.int .i64 (wrap64 (rd l1 7)),.int .i64 (wrap64 (rd l1 1)),.slice A3 rt.length c3] (show _=some (Obj.cells #[.int .i64 0,.int .i64 0,.int .i64 0,.int .i64 0,.int .i64 0,.int .i64 0,.slice none 0 0] 24 (0,0)) from (zbB (Aside0.out (by assumption)) (by repeat (first|exact Below.refl _ _|with_reducible apply zlN|with_reducible apply zlA|refine below_step ?_ (Aside0.out (by assumption)))))) rfl⟩;have hR2:Aside0 (Kd.R k51 51 w2 w.heap.size (fun _=>True) (.slice A3 rt.length c3) rt):=⟨by rw [hw2];exact Cw.setL_R (Kd.R_lower (Kd.R_below hR.out (by repeat (first|exact Below.refl _ _|with_reducible apply zlN|with_reducible apply zlA|refine below_step ?_ (Aside0.out (by assumption))))) (below_size (by repeat (first|exact Below.refl _ _|with_reducible apply zlN|with_reducible apply zlA|refine below_step ?_ (Aside0.out (by assumption)))))) (show _=some (Obj.cells #[.int .i64 0,.int .i64 0,.int .i64 0,.int .i64 0,.int .i64 0,.int .i64 0,.slice none 0 0] 24 (0,0)) from (zbB (Aside0.out (by assumption)) (by repeat (first|exact Below.refl _ _|with_reducible apply zlN|with_reducible apply zlA|refine below_step ?_ (Aside0.out (by assumption)))))) (by intro q hq;simp [k51,Kd.iso,Kd.pair,Kd.int,Kd.scalar] at hq;omega) 0 _⟩;clear hw2))
        refine bodyPost_ret (results_ct rfl _ _ g2 24 #[.int .i64 (wrap64 (rd l1 0)),.int .i64 (wrap64 (rd l1 4)),.int .i64 (wrap64 (rd l1 5)),.int .i64 (wrap64 (rd l1 6)),.int .i64 (wrap64 (rd l1 7)),.int .i64 (wrap64 (rd l1 1)),.slice A3 rt.length c3] (0,0) _ rfl hzz.out Try.underlying24 rfl (by kernel_rfl)) rfl ?_
        exact ⟨_,rfl,hR2.out,hb2.out⟩
       ·rw [if_neg ht] at H
        simp only [Option.some.injEq,Prod.mk.injEq] at H
        obtain ⟨rfl,rfl,rfl,rfl,rfl,rfl,rfl,rfl⟩:=H
        have ht:=Bool.eq_false_iff.mpr ht
        subst ht
        go_wp2_with (first|((with_reducible refine gate_ (.load 24 _) rfl ?_);refine IE_ld rfl rfl rfl (zbB (Aside0.out (by assumption)) (by repeat (first|exact Below.refl _ _|with_reducible apply zlN|with_reducible apply zlA|refine below_step ?_ (Aside0.out (by assumption))))) ?_)|(go_at_call 8;refine (inode_Encode.calls k _ _ _ _ _ _ _ _ _ _ _ _ (Kd.C_below (Aside0.out (by assumption)) (by repeat (first|exact Below.refl _ _|with_reducible apply zlN|with_reducible apply zlA|refine below_step ?_ (Aside0.out (by assumption))))) (Aside0.out (by assumption)) F5.out).mono ?_;rintro e wE ⟨vE,rfl,hoE,hb⟩;obtain ⟨AE,cE,rfl⟩:=Kd.R_slice hoE;have hcE:=zm (Kd.R_reads' hoE).2.1;have hrE:=zm (Kd.R_reads' hoE).2.2;clear hoE;have hh_:=zm hb;clear hb;have hb:=hh_;clear hh_)|((with_reducible refine Cw.guarded rfl ?gw ?_);(case gw=>first|rfl|(go_simp;done));dsimp only)|(go_at_call 33;refine (slices_Equal_byte_byte.calls k _ _ _ _ _ _ _ _ (Kd.C_below (Aside0.out (by assumption)) (by repeat (first|exact Below.refl _ _|with_reducible apply zlN|with_reducible apply zlA|refine below_step ?_ (Aside0.out (by assumption))))) (Aside0.out (by assumption)) (Kd.C_below (Aside0.out (by assumption)) (by repeat (first|exact Below.refl _ _|with_reducible apply zlN|with_reducible apply zlA|refine below_step ?_ (Aside0.out (by assumption))))) (Aside0.out (by assumption)) F6.out).mono ?_;rintro e w1 ⟨rfl,hd⟩;have hb:=Drawn0.below hd;clear hd;have hh_:=zm hb;clear hb;have hb:=hh_;clear hh_)|((with_reducible refine gate_ (.store 24 (.tmp 2) _) rfl ?_);refine Cw.put_event (g:=g2) (ys:=[.int .i64 0,.int .i64 0,.int .i64 0,.int .i64 0,.int .i64 0,.int .i64 0,.slice none 0 0]) rfl rfl rfl (by apply ID_st7;exact rfl;exact rfl;exact rfl;exact (zbB (Aside0.out (by assumption)) (by repeat (first|exact Below.refl _ _|with_reducible apply zlN|with_reducible apply zlA|refine below_step ?_ (Aside0.out (by assumption)))))) ?_;rintro w2 hw2;have hb2:Aside0 (Below w.heap.size w w2):=⟨by rw [hw2];exact Cw.setL_below hg2.out _ _ _ (by repeat (first|exact Below.refl _ _|with_reducible apply zlN|with_reducible apply zlA|refine below_step ?_ (Aside0.out (by assumption))))⟩;have hzz:Aside0 (w2.heap[g2]?=some (.cells #[.int .i64 0,.int .i64 0,.int .i64 0,.int .i64 0,.int .i64 0,.int .i64 0,.slice none 0 0] 24 (0,0))):=⟨by rw [hw2];exact Cw.setL_full [.int .i64 0,.int .i64 0,.int .i64 0,.int .i64 0,.int .i64 0,.int .i64 0,.slice none 0 0] (zbB (Aside0.out (by assumption)) (by repeat (first|exact Below.refl _ _|with_reducible apply zlN|with_reducible apply zlA|refine below_step ?_ (Aside0.out (by assumption))))) rfl⟩;clear hw2))
        refine bodyPost_ret (results_ct rfl _ _ g2 24 #[.int .i64 0,.int .i64 0,.int .i64 0,.int .i64 0,.int .i64 0,.int .i64 0,.slice none 0 0] (0,0) _ rfl hzz.out Try.underlying24 rfl (by kernel_rfl)) rfl ?_
        exact ⟨_,rfl,Kd.R_nil _ _ _ _ _,hb2.out⟩
      ·rw [if_neg hpe] at H
       simp only [Option.some.injEq,Prod.mk.injEq] at H
       obtain ⟨rfl,rfl,rfl,rfl,rfl,rfl,rfl,rfl⟩:=H
       have hpe':(pe != 0)=true:=bne_iff_ne.mpr hpe
       clear hpe
       go_wp2_with (first|((with_reducible refine gate_ (.load 24 _) rfl ?_);refine IE_ld rfl rfl rfl (zbB (Aside0.out (by assumption)) (by repeat (first|exact Below.refl _ _|with_reducible apply zlN|with_reducible apply zlA|refine below_step ?_ (Aside0.out (by assumption))))) ?_)|(go_at_call 8;refine (inode_Encode.calls k _ _ _ _ _ _ _ _ _ _ _ _ (Kd.C_below (Aside0.out (by assumption)) (by repeat (first|exact Below.refl _ _|with_reducible apply zlN|with_reducible apply zlA|refine below_step ?_ (Aside0.out (by assumption))))) (Aside0.out (by assumption)) F5.out).mono ?_;rintro e wE ⟨vE,rfl,hoE,hb⟩;obtain ⟨AE,cE,rfl⟩:=Kd.R_slice hoE;have hcE:=zm (Kd.R_reads' hoE).2.1;have hrE:=zm (Kd.R_reads' hoE).2.2;clear hoE;have hh_:=zm hb;clear hb;have hb:=hh_;clear hh_)|((with_reducible refine Cw.guarded rfl ?gw ?_);(case gw=>first|rfl|(go_simp;done));dsimp only)|((with_reducible refine gate_ (.store 24 (.tmp 2) _) rfl ?_);refine Cw.put_event (g:=g2) (ys:=[.int .i64 0,.int .i64 0,.int .i64 0,.int .i64 0,.int .i64 0,.int .i64 0,.slice none 0 0]) rfl rfl rfl (by apply ID_st7;exact rfl;exact rfl;exact rfl;exact (zbB (Aside0.out (by assumption)) (by repeat (first|exact Below.refl _ _|with_reducible apply zlN|with_reducible apply zlA|refine below_step ?_ (Aside0.out (by assumption)))))) ?_;rintro w2 hw2;have hb2:Aside0 (Below w.heap.size w w2):=⟨by rw [hw2];exact Cw.setL_below hg2.out _ _ _ (by repeat (first|exact Below.refl _ _|with_reducible apply zlN|with_reducible apply zlA|refine below_step ?_ (Aside0.out (by assumption))))⟩;have hzz:Aside0 (w2.heap[g2]?=some (.cells #[.int .i64 0,.int .i64 0,.int .i64 0,.int .i64 0,.int .i64 0,.int .i64 0,.slice none 0 0] 24 (0,0))):=⟨by rw [hw2];exact Cw.setL_full [.int .i64 0,.int .i64 0,.int .i64 0,.int .i64 0,.int .i64 0,.int .i64 0,.slice none 0 0] (zbB (Aside0.out (by assumption)) (by repeat (first|exact Below.refl _ _|with_reducible apply zlN|with_reducible apply zlA|refine below_step ?_ (Aside0.out (by assumption))))) rfl⟩;clear hw2))
       refine bodyPost_ret (results_ct rfl _ _ g2 24 #[.int .i64 0,.int .i64 0,.int .i64 0,.int .i64 0,.int .i64 0,.int .i64 0,.slice none 0 0] (0,0) _ rfl hzz.out Try.underlying24 rfl (by kernel_rfl)) rfl ?_
       exact ⟨_,rfl,Kd.R_nil _ _ _ _ _,hb2.out⟩
 ·rw [if_neg hl] at H
  simp only [Option.some.injEq,Prod.mk.injEq] at H
  obtain ⟨rfl,rfl,rfl,rfl,rfl,rfl,rfl,rfl⟩:=H
  have h64:((l0.length:Int) != 64)=true:=by simp;omega
  have hh_:=zm hr0;clear hr0;have hr0:=hh_;clear hh_;have hh_:=zm hc0;clear hc0;have hc0:=hh_;clear hh_;have hh_:=zm hl;clear hl;have hl:=hh_;clear hh_
  go_enter Try.func9,Try.ntmps9
  go_wp2_with (first|((with_reducible refine gate_dst (N:=2) rfl ?_);refine box_event rfl (N:=2) rfl (by first|(go_simp;done)|(go_simp;rfl)) ?_;rintro g2 hg wc hbk hb;have hg2:Aside0 (w.heap.size≤g2):=⟨Nat.le_of_eq hg.symm⟩;clear hg;have hh_:=zm hbk;clear hbk;have hbk:=hh_;clear hh_;have hh_:=zm hb;clear hb;have hb:=hh_;clear hh_)|((with_reducible refine gate_ (.store 24 (.tmp 2) _) rfl ?_);refine Cw.put_event (g:=g2) (ys:=[.int .i64 0,.int .i64 0,.int .i64 0,.int .i64 0,.int .i64 0,.int .i64 0,.slice none 0 0]) rfl rfl rfl (by apply ID_st7;exact rfl;exact rfl;exact rfl;exact (zbB (Aside0.out (by assumption)) (by repeat (first|exact Below.refl _ _|with_reducible apply zlN|with_reducible apply zlA|refine below_step ?_ (Aside0.out (by assumption)))))) ?_;rintro w2 hw2;have hb2:Aside0 (Below w.heap.size w w2):=⟨by rw [hw2];exact Cw.setL_below hg2.out _ _ _ (by repeat (first|exact Below.refl _ _|with_reducible apply zlN|with_reducible apply zlA|refine below_step ?_ (Aside0.out (by assumption))))⟩;have hzz:Aside0 (w2.heap[g2]?=some (.cells #[.int .i64 0,.int .i64 0,.int .i64 0,.int .i64 0,.int .i64 0,.int .i64 0,.slice none 0 0] 24 (0,0))):=⟨by rw [hw2];exact Cw.setL_full [.int .i64 0,.int .i64 0,.int .i64 0,.int .i64 0,.int .i64 0,.int .i64 0,.slice none 0 0] (zbB (Aside0.out (by assumption)) (by repeat (first|exact Below.refl _ _|with_reducible apply zlN|with_reducible apply zlA|refine below_step ?_ (Aside0.out (by assumption))))) rfl⟩;clear hw2))
  refine bodyPost_ret (results_ct rfl _ _ g2 24 #[.int .i64 0,.int .i64 0,.int .i64 0,.int .i64 0,.int .i64 0,.int .i64 0,.slice none 0 0] (0,0) _ rfl hzz.out Try.underlying24 rfl (by kernel_rfl)) rfl ?_
  exact ⟨_,rfl,Kd.R_nil _ _ _ _ _,hb2.out⟩
end Go.Proofs.Ytjoojmodghpimaa.Print
end
section
namespace Go.Proofs.Ytjoojmodghpimaa.Print
open Go.RowKit Go.Proofs.YtjoojmodghpimaaW.PrintWords Go.Proofs.YtjoojmodghpimaaW.PrintLast Go.Proofs.YtjoojmodghpimaaW.PrintMore
attribute [local go_sem] max2_int min2_int max_two min_two max_three min_three max_four min_four   -- for this text's walks alone
attribute [local go_sem ↓] Go.Proofs.Ytjoojmodghpimaa.Sem.isSome_setCell
attribute [local go_sem] Go.Instr.field Go.asAgg
set_option linter.unusedVariables false
set_option linter.unusedSimpArgs false
-- CX
def inode_slotOf.ok (l:List Int) (s:Int):Prop:=l.length=256∧0≤s∧s < 4
instance (l:List Int) (s:Int):Decidable (inode_slotOf.ok l s):=by unfold inode_slotOf.ok;infer_instance
theorem inode_slotOf.calls_no (A:Option Addr) (c n:Nat) (s:Int) (w:World) (h:¬ (n=256∧0≤s∧s < 4)):Calls Try.prog 44 #[.slice A n c,.int .i64 s] w fun e w'=>e=.returned (.tuple #[.slice none 0 0,.bool false])∧w'=w:=by
 by_cases h1:n=256
 ·subst h1
  have h0:(((256:Nat):Int) != 256)=false:=rfl
  by_cases h2:s < 0
  ·have h3:=decide_eq_true h2
   clear h
   go_enter Try.func44,Try.ntmps44
   go_wp2
   go_ret2
   exact ⟨rfl,rfl⟩
  ·have h3:=decide_eq_false h2
   have h4:decide (4≤s)=true:=decide_eq_true (by omega)
   clear h
   go_enter Try.func44,Try.ntmps44
   go_wp2
   go_ret2
   exact ⟨rfl,rfl⟩
 ·have h0:((n:Int) != 256)=true:=bne_iff_ne.mpr (by omega)
  clear h
  go_enter Try.func44,Try.ntmps44
  go_wp2
  go_ret2
  exact ⟨rfl,rfl⟩
theorem IS_cut {o:Oper} {a:Act} {W:World} {q x y:Operand} {A:Option Addr} {n c s:Nat} {lo hi:Int} (hs:s < 4) (hc:256≤c) (hop:o.op=.slice 25 q (some x) (some y) none) (hq:a.eval q=.slice A n c) (hx:a.eval x=.int .i64 lo) (hy:a.eval y=.int .i64 hi) (e1:lo=((s * 64:Nat):Int)) (e2:hi=((s * 64 + 64:Nat):Int)) :
  (execOp a.eval o).run Try.prog W=.ok (.value (.slice (A.map (fun z=>z.add (s * 64))) 64 (c - s * 64))) W:=by
 rw [e1] at hx
 rw [e2] at hy
 refine (ID_cut (W:=W) hop hq hx hy (by omega) (by omega) (by omega)).trans ?_
 rw [Int.toNat_natCast,Int.toNat_natCast,Nat.mul_one,Nat.add_sub_cancel_left,if_neg (by omega)]
theorem IS_lo {s:Nat} (h:s < 4):wrap64 ((s:Int) * 64)=((s * 64:Nat):Int):=by unfold wrap64;omega
theorem IS_hi {s:Nat} (h:s < 4):wrap64 (wrap64 ((s:Int) + 1) * 64)=((s * 64 + 64:Nat):Int):=by unfold wrap64;omega
theorem inode_slotOf.calls_yes (A:Option Addr) (n c s:Nat) (w:World) (hn:n=256) (hs:s < 4) (hc:256≤c):Calls Try.prog 44 #[.slice A n c,.int .i64 (s:Int)] w fun e w'=>e=.returned (.tuple #[.slice (A.map (fun z=>z.add (s * 64))) 64 (c - s * 64),.bool true])∧w'=w:=by
 have h0:((n:Int) != 256)=false:=by rw [hn];rfl
 clear hn
 have h3:decide ((s:Int) < 0)=false:=decide_eq_false (by omega)
 have h4:decide (4≤(s:Int))=false:=decide_eq_false (by omega)
 have e1:=zm (IS_lo hs)
 have e2:=zm (IS_hi hs)
 have hh_:=zm hc;clear hc;have hc:=hh_;clear hh_;have hh_:=zm hs;clear hs;have hs:=hh_;clear hh_
 go_enter Try.func44,Try.ntmps44
 go_wp2_with (first|((with_reducible refine gate_ (.slice 25 _ _ _ _) rfl ?_);refine Kd.event_run rfl (by apply IS_cut hs.out hc.out;exact rfl;exact rfl;exact rfl;exact rfl;exact e1.out;exact e2.out) ?_))
 go_ret2
 exact ⟨rfl,rfl⟩
end Go.Proofs.Ytjoojmodghpimaa.Print
end
section
namespace Go.Proofs.Ytjoojmodghpimaa.Print
open Go.RowKit Go.Proofs.YtjoojmodghpimaaW.PrintWords Go.Proofs.YtjoojmodghpimaaW.PrintLast Go.Proofs.YtjoojmodghpimaaW.PrintMore
attribute [local go_sem] max2_int min2_int max_two min_two max_three min_three max_four min_four   -- for this text's walks alone
attribute [local go_sem ↓] Go.Proofs.Ytjoojmodghpimaa.Sem.isSome_setCell
attribute [local go_sem] Go.Instr.field Go.asAgg
set_option linter.unusedVariables false
set_option linter.unusedSimpArgs false
-- CX
def inode_Put.f (k:Nat) (l0:List Int) (a1:Int) (a2_0:Int) (a2_1:Int) (a2_2:Int) (a2_3:Int) (a2_4:Int) (a2_5:Int) (l2_6:List (S51)):Option (List Int × Int) :=
 (slices_Clone_byte_byte.f l0).bind fun l=>if l.length=l0.length then
 if inode_slotOf.ok l0 a1 then (inode_Encode.f k a2_0 a2_1 a2_2 a2_3 a2_4 a2_5 l2_6).bind fun p=>if p.2=0 then
 (if p.1.length=64 then some (l.take (a1.toNat * 64) ++ p.1 ++ l.drop (a1.toNat * 64 + 64),0) else none)
 else some ([],p.2) else some ([],1) else none
theorem IP_list {α:Type} (L Y:List α) (lo N:Nat) (h:lo + Y.length≤N) (hL:N≤L.length):(L.take lo ++ (Y ++ L.drop (lo + Y.length))).take N=(L.take N).take lo ++ Y ++ (L.take N).drop (lo + Y.length):=by
 have a:N - lo - Y.length=N - (lo + Y.length):=by omega
 rw [List.take_append,List.take_append,List.take_take,List.take_take,List.drop_take,List.length_take,Nat.min_eq_left (show lo≤L.length by omega),Nat.min_eq_right (show lo≤N by omega),Nat.min_eq_left (show lo≤N by omega),List.take_of_length_le (l:=Y) (by omega),List.append_assoc,a]
section
variable {α : Type} {P : Program} {ops : Array Oper} {rest : List Oper} {o : Oper} {a : Act} {Q : Exit → Act → World → Prop}
theorem R_copy_at {enc:α → Value} {h1:∀ x,(enc x).oneCell'=true} (d0:α) {w0 W:World} (base:Nat) (hgd:o.guard=none) (ds s:Operand) (T e:TypeId)
  (ho:o.op=.call { callee:=.builtin .copy,args:=#[ds,s],argTypes:=#[T,T] }) (hu:P.underlying T=some (.slice e)) (z:Value) (bytes:Nat)
  (hinfo:(P.info? e).map (fun i=>(i.zero,i.size,i.bytes))=some (some z,1,bytes)) (v:Value) (A0:Option Addr) (cv:Nat) (xs ys:List α) (hv:v=.slice A0 xs.length cv) (lo m cd:Nat) (hd:a.eval ds=.slice (A0.map (fun z=>z.add lo)) m cd) (A:Option Addr) (c:Nat) (hs:a.eval s=.slice A ys.length c) {ok:Nat → Prop}
  (hR:(Kd.scalar enc h1).R e W base ok v xs) (hC:(Kd.scalar enc h1).C W A ys.length ys) (hl:m=ys.length) (hin:lo + ys.length≤xs.length) (hpos:0 < ys.length) (HB:Below base w0 W)
  (h:∀ w1,(Kd.scalar enc h1).R e w1 base ok v (xs.take lo ++ ys ++ xs.drop (lo + ys.length)) → Below base w0 w1 → W.grownBy w1 v.ownBlock → wpList P ops Q rest (a.put o.dst (goInt ys.length)) w1):wpList P ops Q (o :: rest) a W:=by
 have hsz:(P.info? e).map (·.size)=some 1:=by
  obtain ⟨i0,hi,hzz⟩:=Option.map_eq_some_iff.1 hinfo
  simp only [Prod.mk.injEq] at hzz
  rw [hi]
  simp [hzz.2.1]
 have hown:=Kd.own_of_R hR
 obtain ⟨hlen,hcase⟩:=hown
 rcases hcase with ⟨_,hn⟩|⟨g,cap,cur,hvg,hb,hg,hle,hmax,hcs,htake⟩
 ·omega
 ·have hvv:=hvg.symm.trans hv
  simp only [Value.slice.injEq] at hvv
  obtain ⟨rfl,-,rfl⟩:=hvv
  subst hv
  obtain ⟨_,_,hrd⟩:=Kd.reads_of_C (d:=d0) hC
  obtain ⟨ad,rfl,hcell⟩:=hrd hpos
  have hel:(encs enc ys).length=ys.length:=by simp [encs]
  have hsl:cur.size=cap:=by rw [hcs,Nat.mul_one]
  have hd':a.eval ds=.slice (some ⟨g,lo,none⟩) m cd:=by rw [hd];simp [Addr.add];exact fun e=>e.symm
  refine wpList_copy_own hgd ds s T T ho e hu hsz g lo m cd ad ys.length c hd' hs cur e hg (encs enc ys) (by rw [hel,hl];exact (Nat.min_self _).symm) (fun j u hj=>?_) (by omega) (fun u hu'=>?_) ?_
  ·rw [encs,List.getElem?_map] at hj
   obtain ⟨p,hp,rfl⟩:=Option.map_eq_some_iff.1 hj
   have hjl:=(List.getElem?_eq_some_iff.1 hp).1
   rw [hcell j hjl,List.getD_eq_getElem?_getD,hp]
   rfl
  ·rw [encs] at hu'
   obtain ⟨p,_,rfl⟩:=List.mem_map.1 hu'
   exact h1 p
  ·have hrow:=setRow_heap W g cur (cur.toList.take lo ++ (encs enc ys ++ cur.toList.drop (lo + (encs enc ys).length))).toArray e _ hg
   rw [hel]
   rw [hel] at hrow
   have hlx:(xs.take lo ++ ys ++ xs.drop (lo + ys.length)).length=xs.length:=by simp;omega
   refine h _ (Kd.R_of_own ⟨by simp [encs],.inr ⟨g,cap,_,by rw [hlx],hb,hrow,by omega,hmax,?_,?_⟩⟩ (fun k hk=>hR.1 k hk)) (below_setRow HB hb _) ⟨rfl,rfl,rfl,by simp [World.setRow],fun k hk hne=>setRow_other W g k _ (fun he=>hne (by rw [he];simp [Value.ownBlock]))⟩
   ·simp [hel]
    omega
   ·have ht:List.take xs.length cur.toList=xs.map enc:=by rw [Nat.mul_one] at htake;exact htake
    have:=IP_list cur.toList (ys.map enc) lo xs.length (by rw [List.length_map];omega) (by rw [Array.length_toList (xs:=cur),hsl];exact hle)
    rw [ht,List.length_map] at this
    rw [hlx,Nat.mul_one]
    simp only [encs,List.map_append,List.map_take,List.map_drop]
    exact this
end
set_option maxHeartbeats 4000000 in
set_option maxRecDepth 100000 in
theorem inode_Put.calls (k:Nat) (A0:Option Addr) (c0:Nat) (l0:List Int) (a1:Int) (a2_0:Int) (a2_1:Int) (a2_2:Int) (a2_3:Int) (a2_4:Int) (a2_5:Int) (A2_6:Option Addr) (c2_6:Nat) (l2_6:List (S51)) (r1:List Int) (r2:Int) (w:World) (hr0:Kd.C (Kd.int .u8) w A0 l0.length l0) (hc0:l0.length≤c0) (hr2_6:Kd.C k51 w A2_6 l2_6.length l2_6) (hc2_6:l2_6.length≤c2_6) (h:inode_Put.f k l0 a1 a2_0 a2_1 a2_2 a2_3 a2_4 a2_5 l2_6=some (r1,r2)) :
  Calls Try.prog 21 #[.slice A0 l0.length c0,.int .i64 a1,.agg #[.int .i64 a2_0,.int .i64 a2_1,.int .i64 a2_2,.int .i64 a2_3,.int .i64 a2_4,.int .i64 a2_5,.slice A2_6 l2_6.length c2_6]] w fun e w'=>∃ v0_:Value,e=.returned (.tuple #[v0_,.int .i64 r2])∧Kd.R (Kd.int .u8) 5 w' w.heap.size (fun _=>True) v0_ r1∧Below w.heap.size w w':=by
 have hu24:=Try.underlying24
 have H:inode_Put.f k l0 a1 a2_0 a2_1 a2_2 a2_3 a2_4 a2_5 l2_6=some (r1,r2):=h
 clear h
 unfold inode_Put.f at H
 have hg_:=Option.bind_eq_some_iff.mp H;clear H;obtain ⟨lv,F0,H⟩:=hg_;have hh_:=zm F0;clear F0;have F0:=hh_;clear hh_;(try dsimp only at H);have hg_:=Cw.gt_ H;clear H;obtain ⟨hlv,H⟩:=hg_
 have hh_:=zm hr0;clear hr0;have hr0:=hh_;clear hh_;have hh_:=zm hc0;clear hc0;have hc0:=hh_;clear hh_;have hh_:=zm hr2_6;clear hr2_6;have hr2_6:=hh_;clear hh_;have hh_:=zm hc2_6;clear hc2_6;have hc2_6:=hh_;clear hh_
 by_cases hok:inode_slotOf.ok l0 a1
 ·rw [if_pos hok] at H
  obtain ⟨hl,h0,h4⟩:=hok
  obtain ⟨s,rfl⟩:=Int.eq_ofNat_of_zero_le h0
  have hs:s < 4:=by omega
  rw [Int.toNat_natCast] at H
  clear h0 h4
  have hg_:=Option.bind_eq_some_iff.mp H;clear H;obtain ⟨⟨p1,e1⟩,F1,H⟩:=hg_;have hh_:=zm F1;clear F1;have F1:=hh_;clear hh_;(try dsimp only at H)
  have hh_:=zm H;clear H;have H:=hh_;clear hh_;have hh_:=zm hl;clear hl;have hl:=hh_;clear hh_;have hh_:=zm hs;clear hs;have hs:=hh_;clear hh_;have hh_:=zm hlv;clear hlv;have hlv:=hh_;clear hh_
  go_enter Try.func21,Try.ntmps21
  go_wp2_with (first|((with_reducible refine gate_dst (N:=5) rfl ?_);refine box_event rfl (N:=5) rfl (cs:=_) (t:=24) (by first|(go_simp;done)|(go_simp;rfl)) ?_;rintro g hg w1 hbk hb;clear hg;have hh_:=zm hbk;clear hbk;have hbk:=hh_;clear hh_;have hh_:=zm hb;clear hb;have hb:=hh_;clear hh_)|(go_at_call 43;refine (slices_Clone_byte_byte.calls _ _ _ _ _ (Kd.C_below (Aside0.out (by assumption)) (by repeat (first|exact Below.refl _ _|with_reducible apply zlN|with_reducible apply zlA|refine below_step ?_ (Aside0.out (by assumption))))) (Aside0.out (by assumption)) F0.out).mono ?_;rintro e wc ⟨v0,rfl,ho,hb⟩;obtain ⟨Av,cv,rfl⟩:=Kd.R_slice ho;have hh_:=zm ho;clear ho;have ho:=hh_;clear hh_;have hh_:=zm hb;clear hb;have hb:=hh_;clear hh_))
  have hcv:=(Kd.R_reads' ho.out).2.1
  refine (inode_slotOf.calls_yes Av lv.length cv s _ (hlv.out.trans hl.out) hs.out (by have:=hl.out;have:=hlv.out;omega)).mono ?_
  rintro e w2 ⟨rfl,rfl⟩
  clear hcv
  by_cases hz_:e1=0
  ·subst hz_
   have H:=H.out
   rw [if_pos rfl] at H
   have hg_:=Cw.gt_ H;clear H;obtain ⟨h64,H⟩:=hg_
   simp only [Option.some.injEq,Prod.mk.injEq] at H
   obtain ⟨rfl,rfl⟩:=H
   have hh_:=zm h64;clear h64;have h64:=hh_;clear hh_
   go_wp2_with (first|((with_reducible refine gate_ (.load 24 _) rfl ?_);refine IE_ld rfl rfl rfl (zbB (Aside0.out (by assumption)) (by repeat (first|exact Below.refl _ _|with_reducible apply zlN|with_reducible apply zlA|refine below_step ?_ (Aside0.out (by assumption))))) ?_)|(go_at_call 8;refine (inode_Encode.calls k _ _ _ _ _ _ _ _ _ _ _ _ (Kd.C_below (Aside0.out (by assumption)) (by repeat (first|exact Below.refl _ _|with_reducible apply zlN|with_reducible apply zlA|refine below_step ?_ (Aside0.out (by assumption))))) (Aside0.out (by assumption)) F1.out).mono ?_;rintro e wE ⟨vE,rfl,hoE,hb⟩;obtain ⟨AE,cE,rfl⟩:=Kd.R_slice hoE;have hrE:=zm (Kd.R_reads' hoE).2.2;clear hoE;have hh_:=zm hb;clear hb;have hb:=hh_;clear hh_)|((with_reducible refine gate_builtin (b:=.copy) (xs:=#[.tmp 31,.tmp 32]) rfl ?_);refine R_copy_at (0:Int) (w0:=w) w.heap.size rfl (.tmp 31) (.tmp 32) 25 5 rfl Try.underlying25 (.int .u8 0) 1 info5 _ Av cv lv p1 rfl (s * 64) 64 _ rfl AE cE rfl (Kd.R_lower (Kd.R_below ho.out (by repeat (first|exact Below.refl _ _|with_reducible apply zlN|with_reducible apply zlA|refine below_step ?_ (Aside0.out (by assumption))))) (below_size (by repeat (first|exact Below.refl _ _|with_reducible apply zlN|with_reducible apply zlA|refine below_step ?_ (Aside0.out (by assumption)))))) (Kd.C_below (Aside0.out (by assumption)) (by repeat (first|exact Below.refl _ _|with_reducible apply zlN|with_reducible apply zlA|refine below_step ?_ (Aside0.out (by assumption))))) (by have:=h64.out;omega) (by have:=h64.out;have:=hs.out;have:=hlv.out;have:=hl.out;omega) (by have:=h64.out;omega) (by repeat (first|exact Below.refl _ _|with_reducible apply zlN|with_reducible apply zlA|refine below_step ?_ (Aside0.out (by assumption)))) ?_;intro wF hoF hb hg;clear hg;have hh_:=zm hoF;clear hoF;have hoF:=hh_;clear hh_;have hh_:=zm hb;clear hb;have hb:=hh_;clear hh_))
   go_ret2
   rw [h64.out] at hoF
   exact ⟨_,rfl,hoF.out,(by repeat (first|exact Below.refl _ _|with_reducible apply zlN|with_reducible apply zlA|refine below_step ?_ (Aside0.out (by assumption))))⟩
  ·have H:=H.out
   rw [if_neg hz_] at H
   simp only [Option.some.injEq,Prod.mk.injEq] at H
   obtain ⟨rfl,rfl⟩:=H
   have hz0:(e1 != 0)=true:=bne_iff_ne.mpr hz_
   clear hz_
   go_wp2_with (first|((with_reducible refine gate_ (.load 24 _) rfl ?_);refine IE_ld rfl rfl rfl (zbB (Aside0.out (by assumption)) (by repeat (first|exact Below.refl _ _|with_reducible apply zlN|with_reducible apply zlA|refine below_step ?_ (Aside0.out (by assumption))))) ?_)|(go_at_call 8;refine (inode_Encode.calls k _ _ _ _ _ _ _ _ _ _ _ _ (Kd.C_below (Aside0.out (by assumption)) (by repeat (first|exact Below.refl _ _|with_reducible apply zlN|with_reducible apply zlA|refine below_step ?_ (Aside0.out (by assumption))))) (Aside0.out (by assumption)) F1.out).mono ?_;rintro e wE ⟨vE,rfl,hoE,hb⟩;obtain ⟨AE,cE,rfl⟩:=Kd.R_slice hoE;have hrE:=zm (Kd.R_reads' hoE).2.2;clear hoE;have hh_:=zm hb;clear hb;have hb:=hh_;clear hh_))
   go_ret2
   exact ⟨_,rfl,Kd.R_nil _ _ _ _ _,(by repeat (first|exact Below.refl _ _|with_reducible apply zlN|with_reducible apply zlA|refine below_step ?_ (Aside0.out (by assumption))))⟩
 ·rw [if_neg hok] at H
  simp only [Option.some.injEq,Prod.mk.injEq] at H
  obtain ⟨rfl,rfl⟩:=H
  have hh_:=zm hok;clear hok;have hok:=hh_;clear hh_;have hh_:=zm hlv;clear hlv;have hlv:=hh_;clear hh_
  go_enter Try.func21,Try.ntmps21
  go_wp2_with (first|((with_reducible refine gate_dst (N:=5) rfl ?_);refine box_event rfl (N:=5) rfl (cs:=_) (t:=24) (by first|(go_simp;done)|(go_simp;rfl)) ?_;rintro g hg w1 hbk hb;clear hg;have hh_:=zm hbk;clear hbk;have hbk:=hh_;clear hh_;have hh_:=zm hb;clear hb;have hb:=hh_;clear hh_)|(go_at_call 43;refine (slices_Clone_byte_byte.calls _ _ _ _ _ (Kd.C_below (Aside0.out (by assumption)) (by repeat (first|exact Below.refl _ _|with_reducible apply zlN|with_reducible apply zlA|refine below_step ?_ (Aside0.out (by assumption))))) (Aside0.out (by assumption)) F0.out).mono ?_;rintro e wc ⟨v0,rfl,ho,hb⟩;obtain ⟨Av,cv,rfl⟩:=Kd.R_slice ho;have hh_:=zm ho;clear ho;have ho:=hh_;clear hh_;have hh_:=zm hb;clear hb;have hb:=hh_;clear hh_))
  refine (inode_slotOf.calls_no Av cv lv.length a1 _ (by rw [hlv.out];exact hok.out)).mono ?_
  rintro e w2 ⟨rfl,rfl⟩
  go_wp2
  go_ret2
  exact ⟨_,rfl,Kd.R_nil _ _ _ _ _,(by repeat (first|exact Below.refl _ _|with_reducible apply zlN|with_reducible apply zlA|refine below_step ?_ (Aside0.out (by assumption))))⟩
end Go.Proofs.Ytjoojmodghpimaa.Print
end
section
namespace Go.Proofs.Ytjoojmodghpimaa.Print
open Go.RowKit Go.Proofs.YtjoojmodghpimaaW.PrintWords Go.Proofs.YtjoojmodghpimaaW.PrintLast Go.Proofs.YtjoojmodghpimaaW.PrintMore
attribute [local go_sem] max2_int min2_int max_two min_two max_three min_three max_four min_four   -- for this text's walks alone
attribute [local go_sem ↓] Go.Proofs.Ytjoojmodghpimaa.Sem.isSome_setCell
attribute [local go_sem] Go.Instr.field Go.asAgg
set_option linter.unusedVariables false
set_option linter.unusedSimpArgs false
-- CX
def inode_Get.f (k:Nat) (l0:List Int) (a1:Int):Option (Int × Int × Int × Int × Int × Int × (List (S51)) × Int) :=
 if inode_slotOf.ok l0 a1 then inode_Decode.f k ((l0.take (a1.toNat * 64 + 64)).drop (a1.toNat * 64)) else some (0,0,0,0,0,0,[],1)
theorem IG_dec (k:Nat) (A0:Option Addr) (c0 n0:Nat) (l0:List Int) (r1 r2 r3 r4 r5 r6:Int) (r7:List (S51)) (r8:Int) (w:World) (e0:l0.length=n0) (hr0:Kd.C (Kd.int .u8) w A0 l0.length l0) (hc0:l0.length≤c0) (h:inode_Decode.f k l0=some (r1,r2,r3,r4,r5,r6,r7,r8)) :
  Calls Try.prog 9 #[.slice A0 n0 c0] w fun e w'=>∃ A7 c7,e=.returned (.tuple #[.agg #[.int .i64 r1,.int .i64 r2,.int .i64 r3,.int .i64 r4,.int .i64 r5,.int .i64 r6,.slice A7 r7.length c7],.int .i64 r8])∧Kd.R k51 51 w' w.heap.size (fun _=>True) (.slice A7 r7.length c7) r7∧Below w.heap.size w w':=by
 subst e0
 refine (inode_Decode.calls k A0 c0 l0 r1 r2 r3 r4 r5 r6 r7 r8 w hr0 hc0 h).mono ?_
 rintro e w' ⟨v,rfl,ho,hb⟩
 obtain ⟨A,c,rfl⟩:=Kd.R_slice ho
 exact ⟨A,c,rfl,ho,hb⟩
theorem IG_C {w:World} {A:Option Addr} {l:List Int} {s c:Nat} (h:Kd.C (Kd.int .u8) w A l.length l) (hl:l.length=256) (hs:s < 4) (hc:256≤c):Kd.C (Kd.int .u8) w (A.map (fun z=>z.add (s * 64))) ((l.take (s * 64 + 64)).drop (s * 64)).length ((l.take (s * 64 + 64)).drop (s * 64)):=by
 have:=ID_mid rfl h (lo:=s * 64) (hi:=s * 64 + 64) (c:=c) (by omega) (by omega) (by omega)
 rwa [if_neg (by omega)] at this
theorem IG_len {l:List Int} {s:Nat} (hl:l.length=256) (hs:s < 4):((l.take (s * 64 + 64)).drop (s * 64)).length=64:=by
 rw [List.length_drop,List.length_take];omega
set_option maxHeartbeats 4000000 in
set_option maxRecDepth 100000 in
theorem inode_Get.calls (k:Nat) (A0:Option Addr) (c0:Nat) (l0:List Int) (a1:Int) (r1:Int) (r2:Int) (r3:Int) (r4:Int) (r5:Int) (r6:Int) (r7:List (S51)) (r8:Int) (w:World) (hr0:Kd.C (Kd.int .u8) w A0 l0.length l0) (hc0:l0.length≤c0) (h:inode_Get.f k l0 a1=some (r1,r2,r3,r4,r5,r6,r7,r8)) :
  Calls Try.prog 22 #[.slice A0 l0.length c0,.int .i64 a1] w fun e w'=>∃ v6_:Value,e=.returned (.tuple #[.agg #[.int .i64 r1,.int .i64 r2,.int .i64 r3,.int .i64 r4,.int .i64 r5,.int .i64 r6,v6_],.int .i64 r8])∧Kd.R k51 51 w' w.heap.size (fun _=>True) v6_ r7∧Below w.heap.size w w':=by
 have hu24:=Try.underlying24
 have H:inode_Get.f k l0 a1=some (r1,r2,r3,r4,r5,r6,r7,r8):=h
 clear h
 unfold inode_Get.f at H
 by_cases hok:inode_slotOf.ok l0 a1
 ·rw [if_pos hok] at H
  obtain ⟨hl,h0,h4⟩:=hok
  obtain ⟨s,rfl⟩:=Int.eq_ofNat_of_zero_le h0
  have hs:s < 4:=by omega
  rw [Int.toNat_natCast] at H
  have hc:256≤c0:=by omega
  clear h0 h4
  have hh_:=zm hr0;clear hr0;have hr0:=hh_;clear hh_;have hh_:=zm hc0;clear hc0;have hc0:=hh_;clear hh_;have hh_:=zm H;clear H;have H:=hh_;clear hh_;have hh_:=zm hl;clear hl;have hl:=hh_;clear hh_;have hh_:=zm hs;clear hs;have hs:=hh_;clear hh_;have hh_:=zm hc;clear hc;have hc:=hh_;clear hh_
  go_enter Try.func22,Try.ntmps22
  go_wp2_with (first|((with_reducible refine gate_dst (N:=4) rfl ?_);refine box_event rfl (N:=4) rfl (by first|(go_simp;done)|(go_simp;rfl)) ?_;rintro g2 hg wc hbk hb;have hg2:Aside0 (w.heap.size≤g2):=⟨Nat.le_of_eq hg.symm⟩;clear hg;have hh_:=zm hbk;clear hbk;have hbk:=hh_;clear hh_;have hh_:=zm hb;clear hb;have hb:=hh_;clear hh_))
  refine (inode_slotOf.calls_yes A0 l0.length c0 s _ hl.out hs.out hc.out).mono ?_
  rintro e w1 ⟨rfl,rfl⟩
  go_wp2_with fail
  refine (IG_dec k _ (c0 - s * 64) 64 ((l0.take (s * 64 + 64)).drop (s * 64)) r1 r2 r3 r4 r5 r6 r7 r8 _ (IG_len hl.out hs.out) (IG_C (Kd.C_below (Aside0.out (by assumption)) (by repeat (first|exact Below.refl _ _|with_reducible apply zlN|with_reducible apply zlA|refine below_step ?_ (Aside0.out (by assumption))))) hl.out hs.out hc.out) (by rw [IG_len hl.out hs.out];have:=hs.out;have:=hc.out;omega) H.out).mono ?_
  rintro e w1 ⟨A7,c7,rfl,ho,hb⟩
  have hh_:=zm ho;clear ho;have ho:=hh_;clear hh_;have hh_:=zm hb;clear hb;have hb:=hh_;clear hh_
  go_wp2_with (first|((with_reducible refine gate_ (.store 24 (.tmp 4) _) rfl ?_);refine Cw.put_event (g:=g2) (ys:=[.int .i64 r1,.int .i64 r2,.int .i64 r3,.int .i64 r4,.int .i64 r5,.int .i64 r6,.slice A7 r7.length c7]) rfl rfl rfl (by apply ID_st7;exact rfl;exact rfl;exact rfl;exact (zbB (Aside0.out (by assumption)) (by repeat (first|exact Below.refl _ _|with_reducible apply zlN|with_reducible apply zlA|refine below_step ?_ (Aside0.out (by assumption)))))) ?_;rintro w2 hw2;have hb2:Aside0 (Below w.heap.size w w2):=⟨by rw [hw2];exact Cw.setL_below hg2.out _ _ _ (by repeat (first|exact Below.refl _ _|with_reducible apply zlN|with_reducible apply zlA|refine below_step ?_ (Aside0.out (by assumption))))⟩;have hzz:Aside0 (w2.heap[g2]?=some (.cells #[.int .i64 r1,.int .i64 r2,.int .i64 r3,.int .i64 r4,.int .i64 r5,.int .i64 r6,.slice A7 r7.length c7] 24 (0,0))):=⟨by rw [hw2];exact Cw.setL_full [.int .i64 r1,.int .i64 r2,.int .i64 r3,.int .i64 r4,.int .i64 r5,.int .i64 r6,.slice A7 r7.length c7] (show _=some (Obj.cells #[.int .i64 0,.int .i64 0,.int .i64 0,.int .i64 0,.int .i64 0,.int .i64 0,.slice none 0 0] 24 (0,0)) from (zbB (Aside0.out (by assumption)) (by repeat (first|exact Below.refl _ _|with_reducible apply zlN|with_reducible apply zlA|refine below_step ?_ (Aside0.out (by assumption)))))) rfl⟩;have hR2:Aside0 (Kd.R k51 51 w2 w.heap.size (fun _=>True) (.slice A7 r7.length c7) r7):=⟨by rw [hw2];exact Cw.setL_R (Kd.R_lower (Kd.R_below ho.out (by repeat (first|exact Below.refl _ _|with_reducible apply zlN|with_reducible apply zlA|refine below_step ?_ (Aside0.out (by assumption))))) (below_size (by repeat (first|exact Below.refl _ _|with_reducible apply zlN|with_reducible apply zlA|refine below_step ?_ (Aside0.out (by assumption)))))) (show _=some (Obj.cells #[.int .i64 0,.int .i64 0,.int .i64 0,.int .i64 0,.int .i64 0,.int .i64 0,.slice none 0 0] 24 (0,0)) from (zbB (Aside0.out (by assumption)) (by repeat (first|exact Below.refl _ _|with_reducible apply zlN|with_reducible apply zlA|refine below_step ?_ (Aside0.out (by assumption)))))) (by intro q hq;simp [k51,Kd.iso,Kd.pair,Kd.int,Kd.scalar] at hq;omega) 0 _⟩;clear hw2))
  refine bodyPost_ret (results_ct rfl _ _ g2 24 #[.int .i64 r1,.int .i64 r2,.int .i64 r3,.int .i64 r4,.int .i64 r5,.int .i64 r6,.slice A7 r7.length c7] (0,0) _ rfl hzz.out Try.underlying24 rfl (by kernel_rfl)) rfl ?_
  exact ⟨_,rfl,hR2.out,hb2.out⟩
 ·rw [if_neg hok] at H
  simp only [Option.some.injEq,Prod.mk.injEq] at H
  obtain ⟨rfl,rfl,rfl,rfl,rfl,rfl,rfl,rfl⟩:=H
  have hh_:=zm hr0;clear hr0;have hr0:=hh_;clear hh_;have hh_:=zm hc0;clear hc0;have hc0:=hh_;clear hh_;have hh_:=zm hok;clear hok;have hok:=hh_;clear hh_
  go_enter Try.func22,Try.ntmps22
  go_wp2_with (first|((with_reducible refine gate_dst (N:=4) rfl ?_);refine box_event rfl (N:=4) rfl (by first|(go_simp;done)|(go_simp;rfl)) ?_;rintro g2 hg wc hbk hb;have hg2:Aside0 (w.heap.size≤g2):=⟨Nat.le_of_eq hg.symm⟩;clear hg;have hh_:=zm hbk;clear hbk;have hbk:=hh_;clear hh_;have hh_:=zm hb;clear hb;have hb:=hh_;clear hh_))
  refine (inode_slotOf.calls_no A0 c0 l0.length a1 _ hok.out).mono ?_
  rintro e w1 ⟨rfl,rfl⟩
  go_wp2_with (first|((with_reducible refine gate_ (.store 24 (.tmp 4) _) rfl ?_);refine Cw.put_event (g:=g2) (ys:=[.int .i64 0,.int .i64 0,.int .i64 0,.int .i64 0,.int .i64 0,.int .i64 0,.slice none 0 0]) rfl rfl rfl (by apply ID_st7;exact rfl;exact rfl;exact rfl;exact (zbB (Aside0.out (by assumption)) (by repeat (first|exact Below.refl _ _|with_reducible apply zlN|with_reducible apply zlA|refine below_step ?_ (Aside0.out (by assumption)))))) ?_;rintro w2 hw2;have hb2:Aside0 (Below w.heap.size w w2):=⟨by rw [hw2];exact Cw.setL_below hg2.out _ _ _ (by repeat (first|exact Below.refl _ _|with_reducible apply zlN|with_reducible apply zlA|refine below_step ?_ (Aside0.out (by assumption))))⟩;have hzz:Aside0 (w2.heap[g2]?=some (.cells #[.int .i64 0,.int .i64 0,.int .i64 0,.int .i64 0,.int .i64 0,.int .i64 0,.slice none 0 0] 24 (0,0))):=⟨by rw [hw2];exact Cw.setL_full [.int .i64 0,.int .i64 0,.int .i64 0,.int .i64 0,.int .i64 0,.int .i64 0,.slice none 0 0] (zbB (Aside0.out (by assumption)) (by repeat (first|exact Below.refl _ _|with_reducible apply zlN|with_reducible apply zlA|refine below_step ?_ (Aside0.out (by assumption))))) rfl⟩;clear hw2))
  refine bodyPost_ret (results_ct rfl _ _ g2 24 #[.int .i64 0,.int .i64 0,.int .i64 0,.int .i64 0,.int .i64 0,.int .i64 0,.slice none 0 0] (0,0) _ rfl hzz.out Try.underlying24 rfl (by kernel_rfl)) rfl ?_
  exact ⟨_,rfl,Kd.R_nil _ _ _ _ _,hb2.out⟩
end Go.Proofs.Ytjoojmodghpimaa.Print
end
section
namespace Go.Proofs.Ytjoojmodghpimaa.Print
open Go.RowKit Go.Proofs.YtjoojmodghpimaaW.PrintWords Go.Proofs.YtjoojmodghpimaaW.PrintLast Go.Proofs.YtjoojmodghpimaaW.PrintMore
attribute [local go_sem] max2_int min2_int max_two min_two max_three min_three max_four min_four   -- for this text's walks alone
attribute [local go_sem ↓] Go.Proofs.Ytjoojmodghpimaa.Sem.isSome_setCell
attribute [local go_sem] Go.Instr.field Go.asAgg
set_option linter.unusedVariables false
set_option linter.unusedSimpArgs false
def slipwaylaw14_InodeOwn.l0:Nat → List Int → Int → List Int → Int → Int → Int → Int → Int → Int → Int → List (S51) → Option (Bool)
 | 0,_,_,_,_,_,_,_,_,_,_,_=>none
 | k + 1,x0,x1,x7,x25,x419000,x419001,x419002,x419003,x419004,x419005,x419006=>if x25 < 4 then ((inode_Get.f k x0 x25).bind fun bt424=>((inode_Get.f k x7 x25).bind fun bt435=>(if x25=x1 then (if 0=bt435.2.2.2.2.2.2.2 then ((slipwayref14_Same.f k x419000 x419001 x419002 x419003 x419004 x419005 x419006 bt435.1 bt435.2.1 bt435.2.2.1 bt435.2.2.2.1 bt435.2.2.2.2.1 bt435.2.2.2.2.2.1 bt435.2.2.2.2.2.2.1).bind fun t446=>(if t446=true then (slipwaylaw14_InodeOwn.l0 k x0 x1 x7 (wrap64 (x25 + 1)) x419000 x419001 x419002 x419003 x419004 x419005 x419006) else (none))) else (none)) else (if bt424.2.2.2.2.2.2.2=bt435.2.2.2.2.2.2.2 then ((slipwayref14_Same.f k bt424.1 bt424.2.1 bt424.2.2.1 bt424.2.2.2.1 bt424.2.2.2.2.1 bt424.2.2.2.2.2.1 bt424.2.2.2.2.2.2.1 bt435.1 bt435.2.1 bt435.2.2.1 bt435.2.2.2.1 bt435.2.2.2.2.1 bt435.2.2.2.2.2.1 bt435.2.2.2.2.2.2.1).bind fun t447=>(if t447=true then (slipwaylaw14_InodeOwn.l0 k x0 x1 x7 (wrap64 (x25 + 1)) x419000 x419001 x419002 x419003 x419004 x419005 x419006) else (none))) else (none))))) else (some ((x7.length:Int) == (x0.length:Int)))
def slipwaylaw14_InodeOwn.f (k:Nat) (l0:List Int) (a1:Int) (a2_0:Int) (a2_1:Int) (a2_2:Int) (a2_3:Int) (a2_4:Int) (a2_5:Int) (l2_6:List (S51)):Option (Bool):=(slipwaylaw14_live.f k).bind fun t419=>(if t419=true then ((inode_Put.f k l0 a1 a2_0 a2_1 a2_2 a2_3 a2_4 a2_5 l2_6).bind fun bt420=>(if bt420.2=0 then (slipwaylaw14_InodeOwn.l0 k l0 a1 bt420.1 0 a2_0 a2_1 a2_2 a2_3 a2_4 a2_5 l2_6) else (some true))) else (none))
set_option maxHeartbeats 8000000 in
set_option maxRecDepth 100000 in
theorem slipwaylaw14_InodeOwn.calls (k:Nat) (A0:Option Addr) (c0:Nat) (l0:List Int) (a1:Int) (a2_0:Int) (a2_1:Int) (a2_2:Int) (a2_3:Int) (a2_4:Int) (a2_5:Int) (A2_6:Option Addr) (c2_6:Nat) (l2_6:List (S51)) (r:Bool) (w:World) (hr0:Kd.C (Kd.int .u8) w A0 l0.length l0) (hc0:l0.length≤c0) (hr2_6:Kd.C k51 w A2_6 l2_6.length l2_6) (hc2_6:l2_6.length≤c2_6) (h:slipwaylaw14_InodeOwn.f k l0 a1 a2_0 a2_1 a2_2 a2_3 a2_4 a2_5 l2_6=some r) :
  Calls Try.prog 5 #[.slice A0 l0.length c0,.int .i64 a1,.agg #[.int .i64 a2_0,.int .i64 a2_1,.int .i64 a2_2,.int .i64 a2_3,.int .i64 a2_4,.int .i64 a2_5,.slice A2_6 l2_6.length c2_6]] w fun e w'=>e=.returned (.bool r)∧Below w.heap.size w w':=by
 have hu24:=Try.underlying24
 have HR0:=zm hr0
 have HC0:=zm hc0
 clear hr0 hc0
 have HR2_6:=zm hr2_6
 have HC2_6:=zm hc2_6
 clear hr2_6 hc2_6
 have HB:=zm (Below.refl w.heap.size w)
 have H:((slipwaylaw14_live.f k).bind fun t419=>(if t419=true then ((inode_Put.f k l0 a1 a2_0 a2_1 a2_2 a2_3 a2_4 a2_5 l2_6).bind fun bt420=>(if bt420.2=0 then (slipwaylaw14_InodeOwn.l0 k l0 a1 bt420.1 0 a2_0 a2_1 a2_2 a2_3 a2_4 a2_5 l2_6) else (some true))) else (none)))=some r:=h
 clear h
 replace H:=Option.bind_eq_some_iff.mp H
 obtain ⟨t419,A40,H⟩:=H
 replace H:(if t419=true then ((inode_Put.f k l0 a1 a2_0 a2_1 a2_2 a2_3 a2_4 a2_5 l2_6).bind fun bt420=>(if bt420.2=0 then (slipwaylaw14_InodeOwn.l0 k l0 a1 bt420.1 0 a2_0 a2_1 a2_2 a2_3 a2_4 a2_5 l2_6) else (some true))) else (none))=some r:=H
 have A4:=zm A40
 clear A40
 by_cases c5:t419=true
 ·subst c5
  have H1:((inode_Put.f k l0 a1 a2_0 a2_1 a2_2 a2_3 a2_4 a2_5 l2_6).bind fun bt420=>(if bt420.2=0 then (slipwaylaw14_InodeOwn.l0 k l0 a1 bt420.1 0 a2_0 a2_1 a2_2 a2_3 a2_4 a2_5 l2_6) else (some true)))=some r:=by rw [if_pos rfl] at H;exact H
  clear H
  have H:=H1
  clear H1
  replace H:=Option.bind_eq_some_iff.mp H
  obtain ⟨⟨t420,t423⟩,A60,H⟩:=H
  replace H:(if t423=0 then (slipwaylaw14_InodeOwn.l0 k l0 a1 t420 0 a2_0 a2_1 a2_2 a2_3 a2_4 a2_5 l2_6) else (some true))=some r:=H
  have A6:=zm A60
  clear A60
  by_cases c7:t423=0
  ·rw [if_pos c7] at H
   have c7b0:(t423 == 0)=true:=beq_iff_eq.mpr c7
   have c7b1:(t423 != 0)=false:=bne_eq_false_iff_eq.mpr c7
   clear c7
   have H':=zm H
   clear H
   go_enter Try.func5,Try.ntmps5
   go_wp2_with (first|((with_reducible refine gate_dst (N:=5) rfl ?_);refine zbx 5 #[.int .i64 a2_0,.int .i64 a2_1,.int .i64 a2_2,.int .i64 a2_3,.int .i64 a2_4,.int .i64 a2_5,.slice A2_6 l2_6.length c2_6] 24 ?_;intro gb418 hg w8 hbox hb;have n0_:=zkH HB hb;have n1_:=zm (hbox);have n2_:=zkG HB hg;have n3_:=zkG HB hg;clear HB;have HB:=n0_;have BK418:=n1_;have GW418:=n2_;have GE418:=n3_;clear n0_ n1_ n2_ n3_;clear hb hbox hg)|((with_reducible refine gate_callee (f:=7) rfl ?_);refine goesL_ (some 14) rfl rfl Try.func7 (by kernel_rfl) rfl #[] rfl (by (try simp only [List.map_toArray,List.map_cons,List.map_nil]);first|done|rfl|(simp only [List.length_drop,List.length_take];rfl)) ?_;(with_reducible refine (slipwaylaw14_live.calls k  true _ A4.out).mono ?_);rintro e w9 ⟨rfl,hb⟩;refine ⟨_,rfl,?_⟩;have n0_:=zkB BK418 hb;have n1_:=zkH HB hb;clear BK418 HB;have BK418:=n0_;have HB:=n1_;clear n0_ n1_;(try clear hb);(try clear hb2);(try clear hk);(try clear hi);obtain ⟨hcz10_0,hcz10_1,hcz10_2,hcz10_3,hcz10_4,hcz10_5,hcz10_6,hfz10_0,hfz10_1,hfz10_2,hfz10_3,hfz10_4,hfz10_5,hfz10_6⟩:=zc7 BK418.out)|((with_reducible refine gate_callee (f:=21) rfl ?_);refine goesL_ (some 20) rfl rfl Try.func21 (by kernel_rfl) rfl #[.slice A0 l0.length c0,.int .i64 a1,.agg #[.int .i64 a2_0,.int .i64 a2_1,.int .i64 a2_2,.int .i64 a2_3,.int .i64 a2_4,.int .i64 a2_5,.slice A2_6 l2_6.length c2_6]] rfl (by (try simp only [List.map_toArray,List.map_cons,List.map_nil]);first|done|rfl|(simp only [List.length_drop,List.length_take];rfl)) ?_;(with_reducible refine (inode_Put.calls k _ _ l0 a1 a2_0 a2_1 a2_2 a2_3 a2_4 a2_5 _ _ l2_6 t420 t423 _ ?side1 ?side2 ?side3 ?side4 A6.out).mono ?_);(case side1=>exact zC HR0);(case side2=>exact HC0.out);(case side3=>exact zC HR2_6);(case side4=>exact HC2_6.out);rintro e w11 ⟨v421,rfl,ho0,hb⟩;refine ⟨_,rfl,?_⟩;have n0_:=zm (Kd.R_lower ho0 (below_size (zb_)));have n1_:=zkB BK418 hb;have n2_:=zkH HB hb;clear BK418 HB;have HO422:=n0_;have BK418:=n1_;have HB:=n2_;clear n0_ n1_ n2_;(try clear hb);(try clear hb2);(try clear hk);(try clear hi);(try clear ho0)))
   go_loopg [25] k (fun kq v25 w'=>∃ (x25_1:Int),v25=.int .i64 x25_1∧Aside0 (slipwaylaw14_InodeOwn.l0 kq l0 a1 t420 x25_1 a2_0 a2_1 a2_2 a2_3 a2_4 a2_5 l2_6=some r)∧Aside0 (kq≤k)∧Aside0 (Kd.R (Kd.int .u8) 5 w' w.heap.size (fun _=>True) v421 t420)∧Aside0 (w'.heap[gb418]?=some (.cells #[.int .i64 a2_0,.int .i64 a2_1,.int .i64 a2_2,.int .i64 a2_3,.int .i64 a2_4,.int .i64 a2_5,(.slice A2_6 l2_6.length c2_6)] 24 (0,0)))∧Aside0 (Below w.heap.size w w'))
   case atStart=>exact ⟨(0),zs_,H',⟨Nat.le_refl _⟩,⟨by (with_reducible repeat (first|apply zrA|apply zrN|apply zrD));exact HO422.out⟩,⟨zx_⟩,⟨zb_⟩⟩
   case round =>
    clear H'
    try clear c2
    try clear p2
    try clear c5
    try clear c7
    try clear c7b0
    try clear c7b1
    try clear hcz10_0
    try clear hcz10_1
    try clear hcz10_2
    try clear hcz10_3
    try clear hcz10_4
    try clear hcz10_5
    try clear hcz10_6
    try clear hfz10_0
    try clear hfz10_1
    try clear hfz10_2
    try clear hfz10_3
    try clear hfz10_4
    try clear hfz10_5
    try clear hfz10_6
    obtain ⟨x25_1,rfl,HA,HK1,HO_7,BK418,HB⟩:=hrel
    cases gk with
    | zero=>exact absurd HA.out (by simp [slipwaylaw14_InodeOwn.l0])
    | succ k1 =>
     have H:=HA.out
     clear HA
     simp only [slipwaylaw14_InodeOwn.l0] at H
     by_cases c12:x25_1 < 4
     ·rw [if_pos c12] at H
      have c12b0:decide (x25_1 < 4)=true:=decide_eq_true c12
      clear c12
      replace H:=Option.bind_eq_some_iff.mp H
      obtain ⟨⟨t424,t425,t426,t427,t428,t429,t430,t433⟩,A130,H⟩:=H
      replace H:((inode_Get.f k1 t420 x25_1).bind fun bt435=>(if x25_1=a1 then (if 0=bt435.2.2.2.2.2.2.2 then ((slipwayref14_Same.f k1 a2_0 a2_1 a2_2 a2_3 a2_4 a2_5 l2_6 bt435.1 bt435.2.1 bt435.2.2.1 bt435.2.2.2.1 bt435.2.2.2.2.1 bt435.2.2.2.2.2.1 bt435.2.2.2.2.2.2.1).bind fun t446=>(if t446=true then (slipwaylaw14_InodeOwn.l0 k1 l0 a1 t420 (wrap64 (x25_1 + 1)) a2_0 a2_1 a2_2 a2_3 a2_4 a2_5 l2_6) else (none))) else (none)) else (if t433=bt435.2.2.2.2.2.2.2 then ((slipwayref14_Same.f k1 t424 t425 t426 t427 t428 t429 t430 bt435.1 bt435.2.1 bt435.2.2.1 bt435.2.2.2.1 bt435.2.2.2.2.1 bt435.2.2.2.2.2.1 bt435.2.2.2.2.2.2.1).bind fun t447=>(if t447=true then (slipwaylaw14_InodeOwn.l0 k1 l0 a1 t420 (wrap64 (x25_1 + 1)) a2_0 a2_1 a2_2 a2_3 a2_4 a2_5 l2_6) else (none))) else (none))))=some r:=H
      have A13:=zm A130
      clear A130
      replace H:=Option.bind_eq_some_iff.mp H
      obtain ⟨⟨t435,t436,t437,t438,t439,t440,t441,t444⟩,A140,H⟩:=H
      replace H:(if x25_1=a1 then (if 0=t444 then ((slipwayref14_Same.f k1 a2_0 a2_1 a2_2 a2_3 a2_4 a2_5 l2_6 t435 t436 t437 t438 t439 t440 t441).bind fun t446=>(if t446=true then (slipwaylaw14_InodeOwn.l0 k1 l0 a1 t420 (wrap64 (x25_1 + 1)) a2_0 a2_1 a2_2 a2_3 a2_4 a2_5 l2_6) else (none))) else (none)) else (if t433=t444 then ((slipwayref14_Same.f k1 t424 t425 t426 t427 t428 t429 t430 t435 t436 t437 t438 t439 t440 t441).bind fun t447=>(if t447=true then (slipwaylaw14_InodeOwn.l0 k1 l0 a1 t420 (wrap64 (x25_1 + 1)) a2_0 a2_1 a2_2 a2_3 a2_4 a2_5 l2_6) else (none))) else (none)))=some r:=H
      have A14:=zm A140
      clear A140
      by_cases c15:x25_1=a1
      ·rw [if_pos c15] at H
       have c15b0:(x25_1 == a1)=true:=beq_iff_eq.mpr c15
       have c15b1:(x25_1 != a1)=false:=bne_eq_false_iff_eq.mpr c15
       clear c15
       by_cases c16:0=t444
       ·rw [if_pos c16] at H
        have c16b0:(0 == t444)=true:=beq_iff_eq.mpr c16
        have c16b1:(0 != t444)=false:=bne_eq_false_iff_eq.mpr c16
        clear c16
        replace H:=Option.bind_eq_some_iff.mp H
        obtain ⟨t446,A170,H⟩:=H
        replace H:(if t446=true then (slipwaylaw14_InodeOwn.l0 k1 l0 a1 t420 (wrap64 (x25_1 + 1)) a2_0 a2_1 a2_2 a2_3 a2_4 a2_5 l2_6) else (none))=some r:=H
        have A17:=zm A170
        clear A170
        by_cases c18:t446=true
        ·subst c18
         have H1:(slipwaylaw14_InodeOwn.l0 k1 l0 a1 t420 (wrap64 (x25_1 + 1)) a2_0 a2_1 a2_2 a2_3 a2_4 a2_5 l2_6)=some r:=by rw [if_pos rfl] at H;exact H
         clear H
         have H:=H1
         clear H1
         have H':=zm H
         clear H
         go_wp2_with (first|((with_reducible refine gate_callee (f:=22) rfl ?_);refine goesL_ (some 31) rfl rfl Try.func22 (by kernel_rfl) rfl #[.slice A0 l0.length c0,.int .i64 x25_1] rfl (by (try simp only [List.map_toArray,List.map_cons,List.map_nil]);first|done|rfl|(simp only [List.length_drop,List.length_take];rfl)) ?_;(with_reducible refine (inode_Get.calls k1 _ _ l0 x25_1 t424 t425 t426 t427 t428 t429 t430 t433 _ ?side1 ?side2 A13.out).mono ?_);(case side1=>exact zC HR0);(case side2=>exact HC0.out);rintro e w19 ⟨v431,rfl,ho0,hb⟩;refine ⟨_,rfl,?_⟩;have n0_:=zm (Kd.R_below (by (with_reducible repeat (first|apply zrA|apply zrN|apply zrD));exact HO_7.out) hb);have n1_:=zm (Kd.R_lower ho0 (below_size (zb_)));have n2_:=zkB BK418 hb;have n3_:=zkH HB hb;clear HO_7 BK418 HB;have HO_7:=n0_;have HO432:=n1_;have BK418:=n2_;have HB:=n3_;clear n0_ n1_ n2_ n3_;(try clear hb);(try clear hb2);(try clear hk);(try clear hi);(try clear ho0))|((with_reducible refine gate_dst (N:=10) rfl ?_);refine zbx 10 #[.int .i64 0,.int .i64 0,.int .i64 0,.int .i64 0,.int .i64 0,.int .i64 0,.slice none 0 0] 24 ?_;intro gb434 hg w20 hbox hb;have n0_:=zm (Kd.R_below (by (with_reducible repeat (first|apply zrA|apply zrN|apply zrD));exact HO_7.out) hb);have n1_:=zm (Kd.R_below (by (with_reducible repeat (first|apply zrA|apply zrN|apply zrD));exact HO432.out) hb);have n2_:=zkB BK418 hb;have n3_:=zkH HB hb;have n4_:=zm (hbox);have n5_:=zkG HB hg;have n6_:=zkG HB hg;have n7_:=zkN BK418 hg;have n8_:=zkM BK418 hg;clear HO_7 HO432 BK418 HB;have HO_7:=n0_;have HO432:=n1_;have BK418:=n2_;have HB:=n3_;have BK434:=n4_;have GW434:=n5_;have GE434:=n6_;have NB418_434:=n7_;have NB434_418:=n8_;clear n0_ n1_ n2_ n3_ n4_ n5_ n6_ n7_ n8_;clear hb hbox hg;have hnb21:=NB434_418.out;have hnc21:=NB418_434.out;obtain ⟨hcz22_0,hcz22_1,hcz22_2,hcz22_3,hcz22_4,hcz22_5,hcz22_6,hfz22_0,hfz22_1,hfz22_2,hfz22_3,hfz22_4,hfz22_5,hfz22_6⟩:=zc7 BK434.out;obtain ⟨Ao23,co23,eo23⟩:=Kd.R_slice HO432.out;subst eo23;obtain ⟨Ao24,co24,eo24⟩:=Kd.R_slice HO_7.out;subst eo24)|((with_reducible refine gate_callee (f:=22) rfl ?_);refine goesL_ (some 37) rfl rfl Try.func22 (by kernel_rfl) rfl #[.slice Ao24 t420.length co24,.int .i64 x25_1] rfl (by (try simp only [List.map_toArray,List.map_cons,List.map_nil]);first|done|rfl|(simp only [List.length_drop,List.length_take];rfl)) ?_;(with_reducible refine (inode_Get.calls k1 _ _ t420 x25_1 t435 t436 t437 t438 t439 t440 t441 t444 _ ?side1 ?side2 A14.out).mono ?_);(case side1=>refine (Kd.R_reads' (e:=5) (base:=w.heap.size) (ok:=fun k_=>True) (n:=t420.length) (c:=co24) ?_).2.2;exact (by (with_reducible repeat (first|apply zrA|apply zrN|apply zrD));exact (Kd.R_mono (Kd.R_far (p:=⟨gb434,6,none⟩) (Kd.R_far (p:=⟨gb434,5,none⟩) (Kd.R_far (p:=⟨gb434,4,none⟩) (Kd.R_far (p:=⟨gb434,3,none⟩) (Kd.R_far (p:=⟨gb434,2,none⟩) (Kd.R_far (p:=⟨gb434,1,none⟩) (Kd.R_far (p:=⟨gb434,0,none⟩) (Kd.R_types HO_7.out BK434.out (by decide)) (fun _ hk=>hk.2) (.int .i64 t424)) (fun _ hk=>hk.2) (.int .i64 t425)) (fun _ hk=>hk.2) (.int .i64 t426)) (fun _ hk=>hk.2) (.int .i64 t427)) (fun _ hk=>hk.2) (.int .i64 t428)) (fun _ hk=>hk.2) (.int .i64 t429)) (fun _ hk=>hk.2) (.slice Ao23 t430.length co23)) (fun _ h_=>h_.1))));(case side2=>exact (Kd.R_reads' HO_7.out).2.1);rintro e w25 ⟨v442,rfl,ho0,hb⟩;refine ⟨_,rfl,?_⟩;have n0_:=zm (Kd.R_below (by (with_reducible repeat (first|apply zrA|apply zrN|apply zrD));exact (Kd.R_mono (Kd.R_far (p:=⟨gb434,6,none⟩) (Kd.R_far (p:=⟨gb434,5,none⟩) (Kd.R_far (p:=⟨gb434,4,none⟩) (Kd.R_far (p:=⟨gb434,3,none⟩) (Kd.R_far (p:=⟨gb434,2,none⟩) (Kd.R_far (p:=⟨gb434,1,none⟩) (Kd.R_far (p:=⟨gb434,0,none⟩) (Kd.R_types HO_7.out BK434.out (by decide)) (fun _ hk=>hk.2) (.int .i64 t424)) (fun _ hk=>hk.2) (.int .i64 t425)) (fun _ hk=>hk.2) (.int .i64 t426)) (fun _ hk=>hk.2) (.int .i64 t427)) (fun _ hk=>hk.2) (.int .i64 t428)) (fun _ hk=>hk.2) (.int .i64 t429)) (fun _ hk=>hk.2) (.slice Ao23 t430.length co23)) (fun _ h_=>h_.1))) hb);have n1_:=zm (Kd.R_elder' (by (with_reducible repeat (first|apply zrA|apply zrN|apply zrD));exact (Kd.R_mono (Kd.R_far (p:=⟨gb434,6,none⟩) (Kd.R_far (p:=⟨gb434,5,none⟩) (Kd.R_far (p:=⟨gb434,4,none⟩) (Kd.R_far (p:=⟨gb434,3,none⟩) (Kd.R_far (p:=⟨gb434,2,none⟩) (Kd.R_far (p:=⟨gb434,1,none⟩) (Kd.R_far (p:=⟨gb434,0,none⟩) (Kd.R_types HO432.out BK434.out (by decide)) (fun _ hk=>hk.2) (.int .i64 t424)) (fun _ hk=>hk.2) (.int .i64 t425)) (fun _ hk=>hk.2) (.int .i64 t426)) (fun _ hk=>hk.2) (.int .i64 t427)) (fun _ hk=>hk.2) (.int .i64 t428)) (fun _ hk=>hk.2) (.int .i64 t429)) (fun _ hk=>hk.2) (.slice Ao23 t430.length co23)) (fun _ h_=>h_.1))) (Kd.R_base ho0) hb);have n2_:=zm (Kd.R_lower (Kd.R_new' ho0 (Kd.R_lt (by (with_reducible repeat (first|apply zrA|apply zrN|apply zrD));exact (Kd.R_mono (Kd.R_far (p:=⟨gb434,6,none⟩) (Kd.R_far (p:=⟨gb434,5,none⟩) (Kd.R_far (p:=⟨gb434,4,none⟩) (Kd.R_far (p:=⟨gb434,3,none⟩) (Kd.R_far (p:=⟨gb434,2,none⟩) (Kd.R_far (p:=⟨gb434,1,none⟩) (Kd.R_far (p:=⟨gb434,0,none⟩) (Kd.R_types HO432.out BK434.out (by decide)) (fun _ hk=>hk.2) (.int .i64 t424)) (fun _ hk=>hk.2) (.int .i64 t425)) (fun _ hk=>hk.2) (.int .i64 t426)) (fun _ hk=>hk.2) (.int .i64 t427)) (fun _ hk=>hk.2) (.int .i64 t428)) (fun _ hk=>hk.2) (.int .i64 t429)) (fun _ hk=>hk.2) (.slice Ao23 t430.length co23)) (fun _ h_=>h_.1))))) (below_size (zb_)));have n3_:=zm (zbB (g:=gb418) (o:=.cells #[.int .i64 a2_0,.int .i64 a2_1,.int .i64 a2_2,.int .i64 a2_3,.int .i64 a2_4,.int .i64 a2_5,.slice A2_6 l2_6.length c2_6] 24 (0,0)) (by (with_reducible repeat (first|refine zbN ?_ _|refine zbD ?_|refine zbA ?_ _));refine blk_far ?_ NB418_434.out _;(with_reducible repeat (first|refine zbN ?_ _|refine zbD ?_|refine zbA ?_ _));refine blk_far ?_ NB418_434.out _;(with_reducible repeat (first|refine zbN ?_ _|refine zbD ?_|refine zbA ?_ _));refine blk_far ?_ NB418_434.out _;(with_reducible repeat (first|refine zbN ?_ _|refine zbD ?_|refine zbA ?_ _));refine blk_far ?_ NB418_434.out _;(with_reducible repeat (first|refine zbN ?_ _|refine zbD ?_|refine zbA ?_ _));refine blk_far ?_ NB418_434.out _;(with_reducible repeat (first|refine zbN ?_ _|refine zbD ?_|refine zbA ?_ _));refine blk_far ?_ NB418_434.out _;(with_reducible repeat (first|refine zbN ?_ _|refine zbD ?_|refine zbA ?_ _));refine blk_far ?_ NB418_434.out _;(with_reducible repeat (first|refine zbN ?_ _|refine zbD ?_|refine zbA ?_ _));exact BK418.out) hb);have n4_:=zm (zbB (g:=gb434) (o:=.cells #[.int .i64 t424,.int .i64 t425,.int .i64 t426,.int .i64 t427,.int .i64 t428,.int .i64 t429,.slice Ao23 t430.length co23] 24 (0,0)) (by (with_reducible repeat (first|refine zbN ?_ _|refine zbD ?_|refine zbA ?_ _));refine blk_put (cs:=#[.int .i64 t424,.int .i64 t425,.int .i64 t426,.int .i64 t427,.int .i64 t428,.int .i64 t429,.slice none 0 0]) ?_ 6 _ rfl;(with_reducible repeat (first|refine zbN ?_ _|refine zbD ?_|refine zbA ?_ _));refine blk_put (cs:=#[.int .i64 t424,.int .i64 t425,.int .i64 t426,.int .i64 t427,.int .i64 t428,.int .i64 0,.slice none 0 0]) ?_ 5 _ rfl;(with_reducible repeat (first|refine zbN ?_ _|refine zbD ?_|refine zbA ?_ _));refine blk_put (cs:=#[.int .i64 t424,.int .i64 t425,.int .i64 t426,.int .i64 t427,.int .i64 0,.int .i64 0,.slice none 0 0]) ?_ 4 _ rfl;(with_reducible repeat (first|refine zbN ?_ _|refine zbD ?_|refine zbA ?_ _));refine blk_put (cs:=#[.int .i64 t424,.int .i64 t425,.int .i64 t426,.int .i64 0,.int .i64 0,.int .i64 0,.slice none 0 0]) ?_ 3 _ rfl;(with_reducible repeat (first|refine zbN ?_ _|refine zbD ?_|refine zbA ?_ _));refine blk_put (cs:=#[.int .i64 t424,.int .i64 t425,.int .i64 0,.int .i64 0,.int .i64 0,.int .i64 0,.slice none 0 0]) ?_ 2 _ rfl;(with_reducible repeat (first|refine zbN ?_ _|refine zbD ?_|refine zbA ?_ _));refine blk_put (cs:=#[.int .i64 t424,.int .i64 0,.int .i64 0,.int .i64 0,.int .i64 0,.int .i64 0,.slice none 0 0]) ?_ 1 _ rfl;(with_reducible repeat (first|refine zbN ?_ _|refine zbD ?_|refine zbA ?_ _));refine blk_put (cs:=#[.int .i64 0,.int .i64 0,.int .i64 0,.int .i64 0,.int .i64 0,.int .i64 0,.slice none 0 0]) ?_ 0 _ rfl;(with_reducible repeat (first|refine zbN ?_ _|refine zbD ?_|refine zbA ?_ _));exact BK434.out) hb);have n5_:=zkH HB hb;clear HO_7 HO432 BK418 BK434 HB;have HO_7:=n0_;have HO432:=n1_;have HO443:=n2_;have BK418:=n3_;have BK434:=n4_;have HB:=n5_;clear n0_ n1_ n2_ n3_ n4_ n5_;(try clear hb);(try clear hb2);(try clear hk);(try clear hi);(try clear ho0))|((with_reducible refine gate_dst (N:=12) rfl ?_);refine zbx 12 #[.int .i64 0,.int .i64 0,.int .i64 0,.int .i64 0,.int .i64 0,.int .i64 0,.slice none 0 0] 24 ?_;intro gb445 hg w26 hbox hb;have n0_:=zm (Kd.R_below (by (with_reducible repeat (first|apply zrA|apply zrN|apply zrD));exact HO_7.out) hb);have n1_:=zm (Kd.R_below (by (with_reducible repeat (first|apply zrA|apply zrN|apply zrD));exact HO432.out) hb);have n2_:=zm (Kd.R_below (by (with_reducible repeat (first|apply zrA|apply zrN|apply zrD));exact HO443.out) hb);have n3_:=zkB BK418 hb;have n4_:=zkB BK434 hb;have n5_:=zkH HB hb;have n6_:=zm (hbox);have n7_:=zkG HB hg;have n8_:=zkG HB hg;have n9_:=zkN BK418 hg;have n10_:=zkM BK418 hg;have n11_:=zkN BK434 hg;have n12_:=zkM BK434 hg;clear HO_7 HO432 HO443 BK418 BK434 HB;have HO_7:=n0_;have HO432:=n1_;have HO443:=n2_;have BK418:=n3_;have BK434:=n4_;have HB:=n5_;have BK445:=n6_;have GW445:=n7_;have GE445:=n8_;have NB418_445:=n9_;have NB445_418:=n10_;have NB434_445:=n11_;have NB445_434:=n12_;clear n0_ n1_ n2_ n3_ n4_ n5_ n6_ n7_ n8_ n9_ n10_ n11_ n12_;clear hb hbox hg;have hnb27:=NB445_418.out;have hnc27:=NB418_445.out;have hnb28:=NB445_434.out;have hnc28:=NB434_445.out;obtain ⟨hcz29_0,hcz29_1,hcz29_2,hcz29_3,hcz29_4,hcz29_5,hcz29_6,hfz29_0,hfz29_1,hfz29_2,hfz29_3,hfz29_4,hfz29_5,hfz29_6⟩:=zc7 BK445.out;obtain ⟨Ao30,co30,eo30⟩:=Kd.R_slice HO443.out;subst eo30;obtain ⟨hcz31_0,hcz31_1,hcz31_2,hcz31_3,hcz31_4,hcz31_5,hcz31_6,hfz31_0,hfz31_1,hfz31_2,hfz31_3,hfz31_4,hfz31_5,hfz31_6⟩:=zc7 BK418.out;obtain ⟨hcz32_0,hcz32_1,hcz32_2,hcz32_3,hcz32_4,hcz32_5,hcz32_6,hfz32_0,hfz32_1,hfz32_2,hfz32_3,hfz32_4,hfz32_5,hfz32_6⟩:=zc7 BK434.out)|(go_at_call 10;(with_reducible refine (slipwayref14_Same.calls k1 a2_0 a2_1 a2_2 a2_3 a2_4 a2_5 _ _ l2_6 t435 t436 t437 t438 t439 t440 _ _ t441 true _ ?side1 ?side2 ?side3 ?side4 A17.out).mono ?_);(case side1=>exact Kd.C_below HR2_6.out (zb_));(case side2=>exact HC2_6.out);(case side3=>refine (Kd.R_reads' (e:=51) (base:=w.heap.size) (ok:=fun k_=>(True∧some k_≠(.slice Ao23 t430.length co23:Value).ownBlock)) (n:=t441.length) (c:=co30) ?_).2.2;exact (by (with_reducible repeat (first|apply zrA|apply zrN|apply zrD));exact (Kd.R_mono (Kd.R_mono (Kd.R_far (p:=⟨gb434,6,none⟩) (Kd.R_far (p:=⟨gb434,5,none⟩) (Kd.R_far (p:=⟨gb434,4,none⟩) (Kd.R_far (p:=⟨gb434,3,none⟩) (Kd.R_far (p:=⟨gb434,2,none⟩) (Kd.R_far (p:=⟨gb434,1,none⟩) (Kd.R_far (p:=⟨gb434,0,none⟩) (Kd.R_far (p:=⟨gb445,6,none⟩) (Kd.R_far (p:=⟨gb445,5,none⟩) (Kd.R_far (p:=⟨gb445,4,none⟩) (Kd.R_far (p:=⟨gb445,3,none⟩) (Kd.R_far (p:=⟨gb445,2,none⟩) (Kd.R_far (p:=⟨gb445,1,none⟩) (Kd.R_far (p:=⟨gb445,0,none⟩) (Kd.R_types (Kd.R_types HO443.out BK445.out (by decide)) BK434.out (by decide)) (fun _ hk=>hk.1.2) (.int .i64 t435)) (fun _ hk=>hk.1.2) (.int .i64 t436)) (fun _ hk=>hk.1.2) (.int .i64 t437)) (fun _ hk=>hk.1.2) (.int .i64 t438)) (fun _ hk=>hk.1.2) (.int .i64 t439)) (fun _ hk=>hk.1.2) (.int .i64 t440)) (fun _ hk=>hk.1.2) (.slice Ao30 t441.length co30)) (fun _ hk=>hk.2) (.int .i64 a2_0)) (fun _ hk=>hk.2) (.int .i64 a2_1)) (fun _ hk=>hk.2) (.int .i64 a2_2)) (fun _ hk=>hk.2) (.int .i64 a2_3)) (fun _ hk=>hk.2) (.int .i64 a2_4)) (fun _ hk=>hk.2) (.int .i64 a2_5)) (fun _ hk=>hk.2) (.slice A2_6 l2_6.length c2_6)) (fun _ h_=>h_.1)) (fun _ h_=>h_.1))));(case side4=>exact (Kd.R_reads' HO443.out).2.1);rintro e w33 ⟨rfl,hb⟩;have n0_:=zm (Kd.R_below (by (with_reducible repeat (first|apply zrA|apply zrN|apply zrD));exact (Kd.R_mono (Kd.R_mono (Kd.R_far (p:=⟨gb434,6,none⟩) (Kd.R_far (p:=⟨gb434,5,none⟩) (Kd.R_far (p:=⟨gb434,4,none⟩) (Kd.R_far (p:=⟨gb434,3,none⟩) (Kd.R_far (p:=⟨gb434,2,none⟩) (Kd.R_far (p:=⟨gb434,1,none⟩) (Kd.R_far (p:=⟨gb434,0,none⟩) (Kd.R_far (p:=⟨gb445,6,none⟩) (Kd.R_far (p:=⟨gb445,5,none⟩) (Kd.R_far (p:=⟨gb445,4,none⟩) (Kd.R_far (p:=⟨gb445,3,none⟩) (Kd.R_far (p:=⟨gb445,2,none⟩) (Kd.R_far (p:=⟨gb445,1,none⟩) (Kd.R_far (p:=⟨gb445,0,none⟩) (Kd.R_types (Kd.R_types HO_7.out BK445.out (by decide)) BK434.out (by decide)) (fun _ hk=>hk.1.2) (.int .i64 t435)) (fun _ hk=>hk.1.2) (.int .i64 t436)) (fun _ hk=>hk.1.2) (.int .i64 t437)) (fun _ hk=>hk.1.2) (.int .i64 t438)) (fun _ hk=>hk.1.2) (.int .i64 t439)) (fun _ hk=>hk.1.2) (.int .i64 t440)) (fun _ hk=>hk.1.2) (.slice Ao30 t441.length co30)) (fun _ hk=>hk.2) (.int .i64 a2_0)) (fun _ hk=>hk.2) (.int .i64 a2_1)) (fun _ hk=>hk.2) (.int .i64 a2_2)) (fun _ hk=>hk.2) (.int .i64 a2_3)) (fun _ hk=>hk.2) (.int .i64 a2_4)) (fun _ hk=>hk.2) (.int .i64 a2_5)) (fun _ hk=>hk.2) (.slice A2_6 l2_6.length c2_6)) (fun _ h_=>h_.1)) (fun _ h_=>h_.1))) hb);have n1_:=zm (Kd.R_below (by (with_reducible repeat (first|apply zrA|apply zrN|apply zrD));exact (Kd.R_mono (Kd.R_mono (Kd.R_far (p:=⟨gb434,6,none⟩) (Kd.R_far (p:=⟨gb434,5,none⟩) (Kd.R_far (p:=⟨gb434,4,none⟩) (Kd.R_far (p:=⟨gb434,3,none⟩) (Kd.R_far (p:=⟨gb434,2,none⟩) (Kd.R_far (p:=⟨gb434,1,none⟩) (Kd.R_far (p:=⟨gb434,0,none⟩) (Kd.R_far (p:=⟨gb445,6,none⟩) (Kd.R_far (p:=⟨gb445,5,none⟩) (Kd.R_far (p:=⟨gb445,4,none⟩) (Kd.R_far (p:=⟨gb445,3,none⟩) (Kd.R_far (p:=⟨gb445,2,none⟩) (Kd.R_far (p:=⟨gb445,1,none⟩) (Kd.R_far (p:=⟨gb445,0,none⟩) (Kd.R_types (Kd.R_types HO432.out BK445.out (by decide)) BK434.out (by decide)) (fun _ hk=>hk.1.2) (.int .i64 t435)) (fun _ hk=>hk.1.2) (.int .i64 t436)) (fun _ hk=>hk.1.2) (.int .i64 t437)) (fun _ hk=>hk.1.2) (.int .i64 t438)) (fun _ hk=>hk.1.2) (.int .i64 t439)) (fun _ hk=>hk.1.2) (.int .i64 t440)) (fun _ hk=>hk.1.2) (.slice Ao30 t441.length co30)) (fun _ hk=>hk.2) (.int .i64 a2_0)) (fun _ hk=>hk.2) (.int .i64 a2_1)) (fun _ hk=>hk.2) (.int .i64 a2_2)) (fun _ hk=>hk.2) (.int .i64 a2_3)) (fun _ hk=>hk.2) (.int .i64 a2_4)) (fun _ hk=>hk.2) (.int .i64 a2_5)) (fun _ hk=>hk.2) (.slice A2_6 l2_6.length c2_6)) (fun _ h_=>h_.1)) (fun _ h_=>h_.1))) hb);have n2_:=zm (Kd.R_below (by (with_reducible repeat (first|apply zrA|apply zrN|apply zrD));exact (Kd.R_mono (Kd.R_mono (Kd.R_far (p:=⟨gb434,6,none⟩) (Kd.R_far (p:=⟨gb434,5,none⟩) (Kd.R_far (p:=⟨gb434,4,none⟩) (Kd.R_far (p:=⟨gb434,3,none⟩) (Kd.R_far (p:=⟨gb434,2,none⟩) (Kd.R_far (p:=⟨gb434,1,none⟩) (Kd.R_far (p:=⟨gb434,0,none⟩) (Kd.R_far (p:=⟨gb445,6,none⟩) (Kd.R_far (p:=⟨gb445,5,none⟩) (Kd.R_far (p:=⟨gb445,4,none⟩) (Kd.R_far (p:=⟨gb445,3,none⟩) (Kd.R_far (p:=⟨gb445,2,none⟩) (Kd.R_far (p:=⟨gb445,1,none⟩) (Kd.R_far (p:=⟨gb445,0,none⟩) (Kd.R_types (Kd.R_types HO443.out BK445.out (by decide)) BK434.out (by decide)) (fun _ hk=>hk.1.2) (.int .i64 t435)) (fun _ hk=>hk.1.2) (.int .i64 t436)) (fun _ hk=>hk.1.2) (.int .i64 t437)) (fun _ hk=>hk.1.2) (.int .i64 t438)) (fun _ hk=>hk.1.2) (.int .i64 t439)) (fun _ hk=>hk.1.2) (.int .i64 t440)) (fun _ hk=>hk.1.2) (.slice Ao30 t441.length co30)) (fun _ hk=>hk.2) (.int .i64 a2_0)) (fun _ hk=>hk.2) (.int .i64 a2_1)) (fun _ hk=>hk.2) (.int .i64 a2_2)) (fun _ hk=>hk.2) (.int .i64 a2_3)) (fun _ hk=>hk.2) (.int .i64 a2_4)) (fun _ hk=>hk.2) (.int .i64 a2_5)) (fun _ hk=>hk.2) (.slice A2_6 l2_6.length c2_6)) (fun _ h_=>h_.1)) (fun _ h_=>h_.1))) hb);have n3_:=zm (zbB (g:=gb418) (o:=.cells #[.int .i64 a2_0,.int .i64 a2_1,.int .i64 a2_2,.int .i64 a2_3,.int .i64 a2_4,.int .i64 a2_5,.slice A2_6 l2_6.length c2_6] 24 (0,0)) (by (with_reducible repeat (first|refine zbN ?_ _|refine zbD ?_|refine zbA ?_ _));refine blk_far ?_ NB418_434.out _;(with_reducible repeat (first|refine zbN ?_ _|refine zbD ?_|refine zbA ?_ _));refine blk_far ?_ NB418_434.out _;(with_reducible repeat (first|refine zbN ?_ _|refine zbD ?_|refine zbA ?_ _));refine blk_far ?_ NB418_434.out _;(with_reducible repeat (first|refine zbN ?_ _|refine zbD ?_|refine zbA ?_ _));refine blk_far ?_ NB418_434.out _;(with_reducible repeat (first|refine zbN ?_ _|refine zbD ?_|refine zbA ?_ _));refine blk_far ?_ NB418_434.out _;(with_reducible repeat (first|refine zbN ?_ _|refine zbD ?_|refine zbA ?_ _));refine blk_far ?_ NB418_434.out _;(with_reducible repeat (first|refine zbN ?_ _|refine zbD ?_|refine zbA ?_ _));refine blk_far ?_ NB418_434.out _;(with_reducible repeat (first|refine zbN ?_ _|refine zbD ?_|refine zbA ?_ _));refine blk_far ?_ NB418_445.out _;(with_reducible repeat (first|refine zbN ?_ _|refine zbD ?_|refine zbA ?_ _));refine blk_far ?_ NB418_445.out _;(with_reducible repeat (first|refine zbN ?_ _|refine zbD ?_|refine zbA ?_ _));refine blk_far ?_ NB418_445.out _;(with_reducible repeat (first|refine zbN ?_ _|refine zbD ?_|refine zbA ?_ _));refine blk_far ?_ NB418_445.out _;(with_reducible repeat (first|refine zbN ?_ _|refine zbD ?_|refine zbA ?_ _));refine blk_far ?_ NB418_445.out _;(with_reducible repeat (first|refine zbN ?_ _|refine zbD ?_|refine zbA ?_ _));refine blk_far ?_ NB418_445.out _;(with_reducible repeat (first|refine zbN ?_ _|refine zbD ?_|refine zbA ?_ _));refine blk_far ?_ NB418_445.out _;(with_reducible repeat (first|refine zbN ?_ _|refine zbD ?_|refine zbA ?_ _));exact BK418.out) hb);have n4_:=zm (zbB (g:=gb434) (o:=.cells #[.int .i64 a2_0,.int .i64 a2_1,.int .i64 a2_2,.int .i64 a2_3,.int .i64 a2_4,.int .i64 a2_5,.slice A2_6 l2_6.length c2_6] 24 (0,0)) (by (with_reducible repeat (first|refine zbN ?_ _|refine zbD ?_|refine zbA ?_ _));refine blk_put (cs:=#[.int .i64 a2_0,.int .i64 a2_1,.int .i64 a2_2,.int .i64 a2_3,.int .i64 a2_4,.int .i64 a2_5,.slice Ao23 t430.length co23]) ?_ 6 _ rfl;(with_reducible repeat (first|refine zbN ?_ _|refine zbD ?_|refine zbA ?_ _));refine blk_put (cs:=#[.int .i64 a2_0,.int .i64 a2_1,.int .i64 a2_2,.int .i64 a2_3,.int .i64 a2_4,.int .i64 t429,.slice Ao23 t430.length co23]) ?_ 5 _ rfl;(with_reducible repeat (first|refine zbN ?_ _|refine zbD ?_|refine zbA ?_ _));refine blk_put (cs:=#[.int .i64 a2_0,.int .i64 a2_1,.int .i64 a2_2,.int .i64 a2_3,.int .i64 t428,.int .i64 t429,.slice Ao23 t430.length co23]) ?_ 4 _ rfl;(with_reducible repeat (first|refine zbN ?_ _|refine zbD ?_|refine zbA ?_ _));refine blk_put (cs:=#[.int .i64 a2_0,.int .i64 a2_1,.int .i64 a2_2,.int .i64 t427,.int .i64 t428,.int .i64 t429,.slice Ao23 t430.length co23]) ?_ 3 _ rfl;(with_reducible repeat (first|refine zbN ?_ _|refine zbD ?_|refine zbA ?_ _));refine blk_put (cs:=#[.int .i64 a2_0,.int .i64 a2_1,.int .i64 t426,.int .i64 t427,.int .i64 t428,.int .i64 t429,.slice Ao23 t430.length co23]) ?_ 2 _ rfl;(with_reducible repeat (first|refine zbN ?_ _|refine zbD ?_|refine zbA ?_ _));refine blk_put (cs:=#[.int .i64 a2_0,.int .i64 t425,.int .i64 t426,.int .i64 t427,.int .i64 t428,.int .i64 t429,.slice Ao23 t430.length co23]) ?_ 1 _ rfl;(with_reducible repeat (first|refine zbN ?_ _|refine zbD ?_|refine zbA ?_ _));refine blk_put (cs:=#[.int .i64 t424,.int .i64 t425,.int .i64 t426,.int .i64 t427,.int .i64 t428,.int .i64 t429,.slice Ao23 t430.length co23]) ?_ 0 _ rfl;(with_reducible repeat (first|refine zbN ?_ _|refine zbD ?_|refine zbA ?_ _));refine blk_far ?_ NB434_445.out _;(with_reducible repeat (first|refine zbN ?_ _|refine zbD ?_|refine zbA ?_ _));refine blk_far ?_ NB434_445.out _;(with_reducible repeat (first|refine zbN ?_ _|refine zbD ?_|refine zbA ?_ _));refine blk_far ?_ NB434_445.out _;(with_reducible repeat (first|refine zbN ?_ _|refine zbD ?_|refine zbA ?_ _));refine blk_far ?_ NB434_445.out _;(with_reducible repeat (first|refine zbN ?_ _|refine zbD ?_|refine zbA ?_ _));refine blk_far ?_ NB434_445.out _;(with_reducible repeat (first|refine zbN ?_ _|refine zbD ?_|refine zbA ?_ _));refine blk_far ?_ NB434_445.out _;(with_reducible repeat (first|refine zbN ?_ _|refine zbD ?_|refine zbA ?_ _));refine blk_far ?_ NB434_445.out _;(with_reducible repeat (first|refine zbN ?_ _|refine zbD ?_|refine zbA ?_ _));exact BK434.out) hb);have n5_:=zm (zbB (g:=gb445) (o:=.cells #[.int .i64 t435,.int .i64 t436,.int .i64 t437,.int .i64 t438,.int .i64 t439,.int .i64 t440,.slice Ao30 t441.length co30] 24 (0,0)) (by (with_reducible repeat (first|refine zbN ?_ _|refine zbD ?_|refine zbA ?_ _));refine blk_far ?_ NB445_434.out _;(with_reducible repeat (first|refine zbN ?_ _|refine zbD ?_|refine zbA ?_ _));refine blk_far ?_ NB445_434.out _;(with_reducible repeat (first|refine zbN ?_ _|refine zbD ?_|refine zbA ?_ _));refine blk_far ?_ NB445_434.out _;(with_reducible repeat (first|refine zbN ?_ _|refine zbD ?_|refine zbA ?_ _));refine blk_far ?_ NB445_434.out _;(with_reducible repeat (first|refine zbN ?_ _|refine zbD ?_|refine zbA ?_ _));refine blk_far ?_ NB445_434.out _;(with_reducible repeat (first|refine zbN ?_ _|refine zbD ?_|refine zbA ?_ _));refine blk_far ?_ NB445_434.out _;(with_reducible repeat (first|refine zbN ?_ _|refine zbD ?_|refine zbA ?_ _));refine blk_far ?_ NB445_434.out _;(with_reducible repeat (first|refine zbN ?_ _|refine zbD ?_|refine zbA ?_ _));refine blk_put (cs:=#[.int .i64 t435,.int .i64 t436,.int .i64 t437,.int .i64 t438,.int .i64 t439,.int .i64 t440,.slice none 0 0]) ?_ 6 _ rfl;(with_reducible repeat (first|refine zbN ?_ _|refine zbD ?_|refine zbA ?_ _));refine blk_put (cs:=#[.int .i64 t435,.int .i64 t436,.int .i64 t437,.int .i64 t438,.int .i64 t439,.int .i64 0,.slice none 0 0]) ?_ 5 _ rfl;(with_reducible repeat (first|refine zbN ?_ _|refine zbD ?_|refine zbA ?_ _));refine blk_put (cs:=#[.int .i64 t435,.int .i64 t436,.int .i64 t437,.int .i64 t438,.int .i64 0,.int .i64 0,.slice none 0 0]) ?_ 4 _ rfl;(with_reducible repeat (first|refine zbN ?_ _|refine zbD ?_|refine zbA ?_ _));refine blk_put (cs:=#[.int .i64 t435,.int .i64 t436,.int .i64 t437,.int .i64 0,.int .i64 0,.int .i64 0,.slice none 0 0]) ?_ 3 _ rfl;(with_reducible repeat (first|refine zbN ?_ _|refine zbD ?_|refine zbA ?_ _));refine blk_put (cs:=#[.int .i64 t435,.int .i64 t436,.int .i64 0,.int .i64 0,.int .i64 0,.int .i64 0,.slice none 0 0]) ?_ 2 _ rfl;(with_reducible repeat (first|refine zbN ?_ _|refine zbD ?_|refine zbA ?_ _));refine blk_put (cs:=#[.int .i64 t435,.int .i64 0,.int .i64 0,.int .i64 0,.int .i64 0,.int .i64 0,.slice none 0 0]) ?_ 1 _ rfl;(with_reducible repeat (first|refine zbN ?_ _|refine zbD ?_|refine zbA ?_ _));refine blk_put (cs:=#[.int .i64 0,.int .i64 0,.int .i64 0,.int .i64 0,.int .i64 0,.int .i64 0,.slice none 0 0]) ?_ 0 _ rfl;(with_reducible repeat (first|refine zbN ?_ _|refine zbD ?_|refine zbA ?_ _));exact BK445.out) hb);have n6_:=zkH HB hb;clear HO_7 HO432 HO443 BK418 BK434 BK445 HB;have HO_7:=n0_;have HO432:=n1_;have HO443:=n2_;have BK418:=n3_;have BK434:=n4_;have BK445:=n5_;have HB:=n6_;clear n0_ n1_ n2_ n3_ n4_ n5_ n6_;(try clear hb);(try clear hb2);(try clear hk);(try clear hi)))
         go_roundg k1
         case measure=>have:=HK1.out;omega
         case rel=>exact ⟨(wrap64 (x25_1 + 1)),zs_,H',⟨by have:=HK1.out;omega⟩,⟨by (with_reducible repeat (first|apply zrA|apply zrN|apply zrD));exact HO_7.out⟩,⟨zx_⟩,⟨zb_⟩⟩
        ·replace c18:=Bool.eq_false_iff.mpr c18
         subst c18
         have H1:(none)=some r:=by rw [if_neg (show ¬ (false=true) by decide)] at H;exact H
         clear H
         have H:=H1
         clear H1
         exact absurd H (by simp)
       ·rw [if_neg c16] at H
        exact absurd H (by simp)
      ·rw [if_neg c15] at H
       have c15b0:(x25_1 == a1)=false:=beq_eq_false_iff_ne.mpr c15
       have c15b1:(x25_1 != a1)=true:=bne_iff_ne.mpr c15
       by_cases c34:t433=t444
       ·rw [if_pos c34] at H
        have c34b0:(t433 == t444)=true:=beq_iff_eq.mpr c34
        have c34b1:(t433 != t444)=false:=bne_eq_false_iff_eq.mpr c34
        clear c34
        replace H:=Option.bind_eq_some_iff.mp H
        obtain ⟨t447,A350,H⟩:=H
        replace H:(if t447=true then (slipwaylaw14_InodeOwn.l0 k1 l0 a1 t420 (wrap64 (x25_1 + 1)) a2_0 a2_1 a2_2 a2_3 a2_4 a2_5 l2_6) else (none))=some r:=H
        have A35:=zm A350
        clear A350
        by_cases c36:t447=true
        ·subst c36
         have H1:(slipwaylaw14_InodeOwn.l0 k1 l0 a1 t420 (wrap64 (x25_1 + 1)) a2_0 a2_1 a2_2 a2_3 a2_4 a2_5 l2_6)=some r:=by rw [if_pos rfl] at H;exact H
         clear H
         have H:=H1
         clear H1
         have H':=zm H
         clear H
         go_wp2_with (first|((with_reducible refine gate_callee (f:=22) rfl ?_);refine goesL_ (some 31) rfl rfl Try.func22 (by kernel_rfl) rfl #[.slice A0 l0.length c0,.int .i64 x25_1] rfl (by (try simp only [List.map_toArray,List.map_cons,List.map_nil]);first|done|rfl|(simp only [List.length_drop,List.length_take];rfl)) ?_;(with_reducible refine (inode_Get.calls k1 _ _ l0 x25_1 t424 t425 t426 t427 t428 t429 t430 t433 _ ?side1 ?side2 A13.out).mono ?_);(case side1=>exact zC HR0);(case side2=>exact HC0.out);rintro e w37 ⟨v431,rfl,ho0,hb⟩;refine ⟨_,rfl,?_⟩;have n0_:=zm (Kd.R_below (by (with_reducible repeat (first|apply zrA|apply zrN|apply zrD));exact HO_7.out) hb);have n1_:=zm (Kd.R_lower ho0 (below_size (zb_)));have n2_:=zkB BK418 hb;have n3_:=zkH HB hb;clear HO_7 BK418 HB;have HO_7:=n0_;have HO432:=n1_;have BK418:=n2_;have HB:=n3_;clear n0_ n1_ n2_ n3_;(try clear hb);(try clear hb2);(try clear hk);(try clear hi);(try clear ho0))|((with_reducible refine gate_dst (N:=10) rfl ?_);refine zbx 10 #[.int .i64 0,.int .i64 0,.int .i64 0,.int .i64 0,.int .i64 0,.int .i64 0,.slice none 0 0] 24 ?_;intro gb434 hg w38 hbox hb;have n0_:=zm (Kd.R_below (by (with_reducible repeat (first|apply zrA|apply zrN|apply zrD));exact HO_7.out) hb);have n1_:=zm (Kd.R_below (by (with_reducible repeat (first|apply zrA|apply zrN|apply zrD));exact HO432.out) hb);have n2_:=zkB BK418 hb;have n3_:=zkH HB hb;have n4_:=zm (hbox);have n5_:=zkG HB hg;have n6_:=zkG HB hg;have n7_:=zkN BK418 hg;have n8_:=zkM BK418 hg;clear HO_7 HO432 BK418 HB;have HO_7:=n0_;have HO432:=n1_;have BK418:=n2_;have HB:=n3_;have BK434:=n4_;have GW434:=n5_;have GE434:=n6_;have NB418_434:=n7_;have NB434_418:=n8_;clear n0_ n1_ n2_ n3_ n4_ n5_ n6_ n7_ n8_;clear hb hbox hg;have hnb39:=NB434_418.out;have hnc39:=NB418_434.out;obtain ⟨hcz40_0,hcz40_1,hcz40_2,hcz40_3,hcz40_4,hcz40_5,hcz40_6,hfz40_0,hfz40_1,hfz40_2,hfz40_3,hfz40_4,hfz40_5,hfz40_6⟩:=zc7 BK434.out;obtain ⟨Ao41,co41,eo41⟩:=Kd.R_slice HO432.out;subst eo41;obtain ⟨Ao42,co42,eo42⟩:=Kd.R_slice HO_7.out;subst eo42)|((with_reducible refine gate_callee (f:=22) rfl ?_);refine goesL_ (some 37) rfl rfl Try.func22 (by kernel_rfl) rfl #[.slice Ao42 t420.length co42,.int .i64 x25_1] rfl (by (try simp only [List.map_toArray,List.map_cons,List.map_nil]);first|done|rfl|(simp only [List.length_drop,List.length_take];rfl)) ?_;(with_reducible refine (inode_Get.calls k1 _ _ t420 x25_1 t435 t436 t437 t438 t439 t440 t441 t444 _ ?side1 ?side2 A14.out).mono ?_);(case side1=>refine (Kd.R_reads' (e:=5) (base:=w.heap.size) (ok:=fun k_=>True) (n:=t420.length) (c:=co42) ?_).2.2;exact (by (with_reducible repeat (first|apply zrA|apply zrN|apply zrD));exact (Kd.R_mono (Kd.R_far (p:=⟨gb434,6,none⟩) (Kd.R_far (p:=⟨gb434,5,none⟩) (Kd.R_far (p:=⟨gb434,4,none⟩) (Kd.R_far (p:=⟨gb434,3,none⟩) (Kd.R_far (p:=⟨gb434,2,none⟩) (Kd.R_far (p:=⟨gb434,1,none⟩) (Kd.R_far (p:=⟨gb434,0,none⟩) (Kd.R_types HO_7.out BK434.out (by decide)) (fun _ hk=>hk.2) (.int .i64 t424)) (fun _ hk=>hk.2) (.int .i64 t425)) (fun _ hk=>hk.2) (.int .i64 t426)) (fun _ hk=>hk.2) (.int .i64 t427)) (fun _ hk=>hk.2) (.int .i64 t428)) (fun _ hk=>hk.2) (.int .i64 t429)) (fun _ hk=>hk.2) (.slice Ao41 t430.length co41)) (fun _ h_=>h_.1))));(case side2=>exact (Kd.R_reads' HO_7.out).2.1);rintro e w43 ⟨v442,rfl,ho0,hb⟩;refine ⟨_,rfl,?_⟩;have n0_:=zm (Kd.R_below (by (with_reducible repeat (first|apply zrA|apply zrN|apply zrD));exact (Kd.R_mono (Kd.R_far (p:=⟨gb434,6,none⟩) (Kd.R_far (p:=⟨gb434,5,none⟩) (Kd.R_far (p:=⟨gb434,4,none⟩) (Kd.R_far (p:=⟨gb434,3,none⟩) (Kd.R_far (p:=⟨gb434,2,none⟩) (Kd.R_far (p:=⟨gb434,1,none⟩) (Kd.R_far (p:=⟨gb434,0,none⟩) (Kd.R_types HO_7.out BK434.out (by decide)) (fun _ hk=>hk.2) (.int .i64 t424)) (fun _ hk=>hk.2) (.int .i64 t425)) (fun _ hk=>hk.2) (.int .i64 t426)) (fun _ hk=>hk.2) (.int .i64 t427)) (fun _ hk=>hk.2) (.int .i64 t428)) (fun _ hk=>hk.2) (.int .i64 t429)) (fun _ hk=>hk.2) (.slice Ao41 t430.length co41)) (fun _ h_=>h_.1))) hb);have n1_:=zm (Kd.R_elder' (by (with_reducible repeat (first|apply zrA|apply zrN|apply zrD));exact (Kd.R_mono (Kd.R_far (p:=⟨gb434,6,none⟩) (Kd.R_far (p:=⟨gb434,5,none⟩) (Kd.R_far (p:=⟨gb434,4,none⟩) (Kd.R_far (p:=⟨gb434,3,none⟩) (Kd.R_far (p:=⟨gb434,2,none⟩) (Kd.R_far (p:=⟨gb434,1,none⟩) (Kd.R_far (p:=⟨gb434,0,none⟩) (Kd.R_types HO432.out BK434.out (by decide)) (fun _ hk=>hk.2) (.int .i64 t424)) (fun _ hk=>hk.2) (.int .i64 t425)) (fun _ hk=>hk.2) (.int .i64 t426)) (fun _ hk=>hk.2) (.int .i64 t427)) (fun _ hk=>hk.2) (.int .i64 t428)) (fun _ hk=>hk.2) (.int .i64 t429)) (fun _ hk=>hk.2) (.slice Ao41 t430.length co41)) (fun _ h_=>h_.1))) (Kd.R_base ho0) hb);have n2_:=zm (Kd.R_lower (Kd.R_new' ho0 (Kd.R_lt (by (with_reducible repeat (first|apply zrA|apply zrN|apply zrD));exact (Kd.R_mono (Kd.R_far (p:=⟨gb434,6,none⟩) (Kd.R_far (p:=⟨gb434,5,none⟩) (Kd.R_far (p:=⟨gb434,4,none⟩) (Kd.R_far (p:=⟨gb434,3,none⟩) (Kd.R_far (p:=⟨gb434,2,none⟩) (Kd.R_far (p:=⟨gb434,1,none⟩) (Kd.R_far (p:=⟨gb434,0,none⟩) (Kd.R_types HO432.out BK434.out (by decide)) (fun _ hk=>hk.2) (.int .i64 t424)) (fun _ hk=>hk.2) (.int .i64 t425)) (fun _ hk=>hk.2) (.int .i64 t426)) (fun _ hk=>hk.2) (.int .i64 t427)) (fun _ hk=>hk.2) (.int .i64 t428)) (fun _ hk=>hk.2) (.int .i64 t429)) (fun _ hk=>hk.2) (.slice Ao41 t430.length co41)) (fun _ h_=>h_.1))))) (below_size (zb_)));have n3_:=zm (zbB (g:=gb418) (o:=.cells #[.int .i64 a2_0,.int .i64 a2_1,.int .i64 a2_2,.int .i64 a2_3,.int .i64 a2_4,.int .i64 a2_5,.slice A2_6 l2_6.length c2_6] 24 (0,0)) (by (with_reducible repeat (first|refine zbN ?_ _|refine zbD ?_|refine zbA ?_ _));refine blk_far ?_ NB418_434.out _;(with_reducible repeat (first|refine zbN ?_ _|refine zbD ?_|refine zbA ?_ _));refine blk_far ?_ NB418_434.out _;(with_reducible repeat (first|refine zbN ?_ _|refine zbD ?_|refine zbA ?_ _));refine blk_far ?_ NB418_434.out _;(with_reducible repeat (first|refine zbN ?_ _|refine zbD ?_|refine zbA ?_ _));refine blk_far ?_ NB418_434.out _;(with_reducible repeat (first|refine zbN ?_ _|refine zbD ?_|refine zbA ?_ _));refine blk_far ?_ NB418_434.out _;(with_reducible repeat (first|refine zbN ?_ _|refine zbD ?_|refine zbA ?_ _));refine blk_far ?_ NB418_434.out _;(with_reducible repeat (first|refine zbN ?_ _|refine zbD ?_|refine zbA ?_ _));refine blk_far ?_ NB418_434.out _;(with_reducible repeat (first|refine zbN ?_ _|refine zbD ?_|refine zbA ?_ _));exact BK418.out) hb);have n4_:=zm (zbB (g:=gb434) (o:=.cells #[.int .i64 t424,.int .i64 t425,.int .i64 t426,.int .i64 t427,.int .i64 t428,.int .i64 t429,.slice Ao41 t430.length co41] 24 (0,0)) (by (with_reducible repeat (first|refine zbN ?_ _|refine zbD ?_|refine zbA ?_ _));refine blk_put (cs:=#[.int .i64 t424,.int .i64 t425,.int .i64 t426,.int .i64 t427,.int .i64 t428,.int .i64 t429,.slice none 0 0]) ?_ 6 _ rfl;(with_reducible repeat (first|refine zbN ?_ _|refine zbD ?_|refine zbA ?_ _));refine blk_put (cs:=#[.int .i64 t424,.int .i64 t425,.int .i64 t426,.int .i64 t427,.int .i64 t428,.int .i64 0,.slice none 0 0]) ?_ 5 _ rfl;(with_reducible repeat (first|refine zbN ?_ _|refine zbD ?_|refine zbA ?_ _));refine blk_put (cs:=#[.int .i64 t424,.int .i64 t425,.int .i64 t426,.int .i64 t427,.int .i64 0,.int .i64 0,.slice none 0 0]) ?_ 4 _ rfl;(with_reducible repeat (first|refine zbN ?_ _|refine zbD ?_|refine zbA ?_ _));refine blk_put (cs:=#[.int .i64 t424,.int .i64 t425,.int .i64 t426,.int .i64 0,.int .i64 0,.int .i64 0,.slice none 0 0]) ?_ 3 _ rfl;(with_reducible repeat (first|refine zbN ?_ _|refine zbD ?_|refine zbA ?_ _));refine blk_put (cs:=#[.int .i64 t424,.int .i64 t425,.int .i64 0,.int .i64 0,.int .i64 0,.int .i64 0,.slice none 0 0]) ?_ 2 _ rfl;(with_reducible repeat (first|refine zbN ?_ _|refine zbD ?_|refine zbA ?_ _));refine blk_put (cs:=#[.int .i64 t424,.int .i64 0,.int .i64 0,.int .i64 0,.int .i64 0,.int .i64 0,.slice none 0 0]) ?_ 1 _ rfl;(with_reducible repeat (first|refine zbN ?_ _|refine zbD ?_|refine zbA ?_ _));refine blk_put (cs:=#[.int .i64 0,.int .i64 0,.int .i64 0,.int .i64 0,.int .i64 0,.int .i64 0,.slice none 0 0]) ?_ 0 _ rfl;(with_reducible repeat (first|refine zbN ?_ _|refine zbD ?_|refine zbA ?_ _));exact BK434.out) hb);have n5_:=zkH HB hb;clear HO_7 HO432 BK418 BK434 HB;have HO_7:=n0_;have HO432:=n1_;have HO443:=n2_;have BK418:=n3_;have BK434:=n4_;have HB:=n5_;clear n0_ n1_ n2_ n3_ n4_ n5_;(try clear hb);(try clear hb2);(try clear hk);(try clear hi);(try clear ho0))|((with_reducible refine gate_dst (N:=12) rfl ?_);refine zbx 12 #[.int .i64 0,.int .i64 0,.int .i64 0,.int .i64 0,.int .i64 0,.int .i64 0,.slice none 0 0] 24 ?_;intro gb445 hg w44 hbox hb;have n0_:=zm (Kd.R_below (by (with_reducible repeat (first|apply zrA|apply zrN|apply zrD));exact HO_7.out) hb);have n1_:=zm (Kd.R_below (by (with_reducible repeat (first|apply zrA|apply zrN|apply zrD));exact HO432.out) hb);have n2_:=zm (Kd.R_below (by (with_reducible repeat (first|apply zrA|apply zrN|apply zrD));exact HO443.out) hb);have n3_:=zkB BK418 hb;have n4_:=zkB BK434 hb;have n5_:=zkH HB hb;have n6_:=zm (hbox);have n7_:=zkG HB hg;have n8_:=zkG HB hg;have n9_:=zkN BK418 hg;have n10_:=zkM BK418 hg;have n11_:=zkN BK434 hg;have n12_:=zkM BK434 hg;clear HO_7 HO432 HO443 BK418 BK434 HB;have HO_7:=n0_;have HO432:=n1_;have HO443:=n2_;have BK418:=n3_;have BK434:=n4_;have HB:=n5_;have BK445:=n6_;have GW445:=n7_;have GE445:=n8_;have NB418_445:=n9_;have NB445_418:=n10_;have NB434_445:=n11_;have NB445_434:=n12_;clear n0_ n1_ n2_ n3_ n4_ n5_ n6_ n7_ n8_ n9_ n10_ n11_ n12_;clear hb hbox hg;have hnb45:=NB445_418.out;have hnc45:=NB418_445.out;have hnb46:=NB445_434.out;have hnc46:=NB434_445.out;obtain ⟨hcz47_0,hcz47_1,hcz47_2,hcz47_3,hcz47_4,hcz47_5,hcz47_6,hfz47_0,hfz47_1,hfz47_2,hfz47_3,hfz47_4,hfz47_5,hfz47_6⟩:=zc7 BK445.out;obtain ⟨Ao48,co48,eo48⟩:=Kd.R_slice HO443.out;subst eo48;obtain ⟨hcz49_0,hcz49_1,hcz49_2,hcz49_3,hcz49_4,hcz49_5,hcz49_6,hfz49_0,hfz49_1,hfz49_2,hfz49_3,hfz49_4,hfz49_5,hfz49_6⟩:=zc7 BK434.out)|(go_at_call 10;(with_reducible refine (slipwayref14_Same.calls k1 t424 t425 t426 t427 t428 t429 _ _ t430 t435 t436 t437 t438 t439 t440 _ _ t441 true _ ?side1 ?side2 ?side3 ?side4 A35.out).mono ?_);(case side1=>refine (Kd.R_reads' (e:=51) (base:=w.heap.size) (ok:=fun k_=>(True∧some k_≠(.slice Ao48 t441.length co48:Value).ownBlock)) (n:=t430.length) (c:=co41) ?_).2.2;exact (by (with_reducible repeat (first|apply zrA|apply zrN|apply zrD));exact (Kd.R_mono (Kd.R_far (p:=⟨gb445,6,none⟩) (Kd.R_far (p:=⟨gb445,5,none⟩) (Kd.R_far (p:=⟨gb445,4,none⟩) (Kd.R_far (p:=⟨gb445,3,none⟩) (Kd.R_far (p:=⟨gb445,2,none⟩) (Kd.R_far (p:=⟨gb445,1,none⟩) (Kd.R_far (p:=⟨gb445,0,none⟩) (Kd.R_types HO432.out BK445.out (by decide)) (fun _ hk=>hk.2) (.int .i64 t435)) (fun _ hk=>hk.2) (.int .i64 t436)) (fun _ hk=>hk.2) (.int .i64 t437)) (fun _ hk=>hk.2) (.int .i64 t438)) (fun _ hk=>hk.2) (.int .i64 t439)) (fun _ hk=>hk.2) (.int .i64 t440)) (fun _ hk=>hk.2) (.slice Ao48 t441.length co48)) (fun _ h_=>h_.1))));(case side2=>exact (Kd.R_reads' HO432.out).2.1);(case side3=>refine (Kd.R_reads' (e:=51) (base:=w.heap.size) (ok:=fun k_=>(True∧some k_≠(.slice Ao41 t430.length co41:Value).ownBlock)) (n:=t441.length) (c:=co48) ?_).2.2;exact (by (with_reducible repeat (first|apply zrA|apply zrN|apply zrD));exact (Kd.R_mono (Kd.R_far (p:=⟨gb445,6,none⟩) (Kd.R_far (p:=⟨gb445,5,none⟩) (Kd.R_far (p:=⟨gb445,4,none⟩) (Kd.R_far (p:=⟨gb445,3,none⟩) (Kd.R_far (p:=⟨gb445,2,none⟩) (Kd.R_far (p:=⟨gb445,1,none⟩) (Kd.R_far (p:=⟨gb445,0,none⟩) (Kd.R_types HO443.out BK445.out (by decide)) (fun _ hk=>hk.2) (.int .i64 t435)) (fun _ hk=>hk.2) (.int .i64 t436)) (fun _ hk=>hk.2) (.int .i64 t437)) (fun _ hk=>hk.2) (.int .i64 t438)) (fun _ hk=>hk.2) (.int .i64 t439)) (fun _ hk=>hk.2) (.int .i64 t440)) (fun _ hk=>hk.2) (.slice Ao48 t441.length co48)) (fun _ h_=>h_.1))));(case side4=>exact (Kd.R_reads' HO443.out).2.1);rintro e w50 ⟨rfl,hb⟩;have n0_:=zm (Kd.R_below (by (with_reducible repeat (first|apply zrA|apply zrN|apply zrD));exact (Kd.R_mono (Kd.R_far (p:=⟨gb445,6,none⟩) (Kd.R_far (p:=⟨gb445,5,none⟩) (Kd.R_far (p:=⟨gb445,4,none⟩) (Kd.R_far (p:=⟨gb445,3,none⟩) (Kd.R_far (p:=⟨gb445,2,none⟩) (Kd.R_far (p:=⟨gb445,1,none⟩) (Kd.R_far (p:=⟨gb445,0,none⟩) (Kd.R_types HO_7.out BK445.out (by decide)) (fun _ hk=>hk.2) (.int .i64 t435)) (fun _ hk=>hk.2) (.int .i64 t436)) (fun _ hk=>hk.2) (.int .i64 t437)) (fun _ hk=>hk.2) (.int .i64 t438)) (fun _ hk=>hk.2) (.int .i64 t439)) (fun _ hk=>hk.2) (.int .i64 t440)) (fun _ hk=>hk.2) (.slice Ao48 t441.length co48)) (fun _ h_=>h_.1))) hb);have n1_:=zm (Kd.R_below (by (with_reducible repeat (first|apply zrA|apply zrN|apply zrD));exact (Kd.R_mono (Kd.R_far (p:=⟨gb445,6,none⟩) (Kd.R_far (p:=⟨gb445,5,none⟩) (Kd.R_far (p:=⟨gb445,4,none⟩) (Kd.R_far (p:=⟨gb445,3,none⟩) (Kd.R_far (p:=⟨gb445,2,none⟩) (Kd.R_far (p:=⟨gb445,1,none⟩) (Kd.R_far (p:=⟨gb445,0,none⟩) (Kd.R_types HO432.out BK445.out (by decide)) (fun _ hk=>hk.2) (.int .i64 t435)) (fun _ hk=>hk.2) (.int .i64 t436)) (fun _ hk=>hk.2) (.int .i64 t437)) (fun _ hk=>hk.2) (.int .i64 t438)) (fun _ hk=>hk.2) (.int .i64 t439)) (fun _ hk=>hk.2) (.int .i64 t440)) (fun _ hk=>hk.2) (.slice Ao48 t441.length co48)) (fun _ h_=>h_.1))) hb);have n2_:=zm (Kd.R_below (by (with_reducible repeat (first|apply zrA|apply zrN|apply zrD));exact (Kd.R_mono (Kd.R_far (p:=⟨gb445,6,none⟩) (Kd.R_far (p:=⟨gb445,5,none⟩) (Kd.R_far (p:=⟨gb445,4,none⟩) (Kd.R_far (p:=⟨gb445,3,none⟩) (Kd.R_far (p:=⟨gb445,2,none⟩) (Kd.R_far (p:=⟨gb445,1,none⟩) (Kd.R_far (p:=⟨gb445,0,none⟩) (Kd.R_types HO443.out BK445.out (by decide)) (fun _ hk=>hk.2) (.int .i64 t435)) (fun _ hk=>hk.2) (.int .i64 t436)) (fun _ hk=>hk.2) (.int .i64 t437)) (fun _ hk=>hk.2) (.int .i64 t438)) (fun _ hk=>hk.2) (.int .i64 t439)) (fun _ hk=>hk.2) (.int .i64 t440)) (fun _ hk=>hk.2) (.slice Ao48 t441.length co48)) (fun _ h_=>h_.1))) hb);have n3_:=zm (zbB (g:=gb418) (o:=.cells #[.int .i64 a2_0,.int .i64 a2_1,.int .i64 a2_2,.int .i64 a2_3,.int .i64 a2_4,.int .i64 a2_5,.slice A2_6 l2_6.length c2_6] 24 (0,0)) (by (with_reducible repeat (first|refine zbN ?_ _|refine zbD ?_|refine zbA ?_ _));refine blk_far ?_ NB418_445.out _;(with_reducible repeat (first|refine zbN ?_ _|refine zbD ?_|refine zbA ?_ _));refine blk_far ?_ NB418_445.out _;(with_reducible repeat (first|refine zbN ?_ _|refine zbD ?_|refine zbA ?_ _));refine blk_far ?_ NB418_445.out _;(with_reducible repeat (first|refine zbN ?_ _|refine zbD ?_|refine zbA ?_ _));refine blk_far ?_ NB418_445.out _;(with_reducible repeat (first|refine zbN ?_ _|refine zbD ?_|refine zbA ?_ _));refine blk_far ?_ NB418_445.out _;(with_reducible repeat (first|refine zbN ?_ _|refine zbD ?_|refine zbA ?_ _));refine blk_far ?_ NB418_445.out _;(with_reducible repeat (first|refine zbN ?_ _|refine zbD ?_|refine zbA ?_ _));refine blk_far ?_ NB418_445.out _;(with_reducible repeat (first|refine zbN ?_ _|refine zbD ?_|refine zbA ?_ _));exact BK418.out) hb);have n4_:=zm (zbB (g:=gb434) (o:=.cells #[.int .i64 t424,.int .i64 t425,.int .i64 t426,.int .i64 t427,.int .i64 t428,.int .i64 t429,.slice Ao41 t430.length co41] 24 (0,0)) (by (with_reducible repeat (first|refine zbN ?_ _|refine zbD ?_|refine zbA ?_ _));refine blk_far ?_ NB434_445.out _;(with_reducible repeat (first|refine zbN ?_ _|refine zbD ?_|refine zbA ?_ _));refine blk_far ?_ NB434_445.out _;(with_reducible repeat (first|refine zbN ?_ _|refine zbD ?_|refine zbA ?_ _));refine blk_far ?_ NB434_445.out _;(with_reducible repeat (first|refine zbN ?_ _|refine zbD ?_|refine zbA ?_ _));refine blk_far ?_ NB434_445.out _;(with_reducible repeat (first|refine zbN ?_ _|refine zbD ?_|refine zbA ?_ _));refine blk_far ?_ NB434_445.out _;(with_reducible repeat (first|refine zbN ?_ _|refine zbD ?_|refine zbA ?_ _));refine blk_far ?_ NB434_445.out _;(with_reducible repeat (first|refine zbN ?_ _|refine zbD ?_|refine zbA ?_ _));refine blk_far ?_ NB434_445.out _;(with_reducible repeat (first|refine zbN ?_ _|refine zbD ?_|refine zbA ?_ _));exact BK434.out) hb);have n5_:=zm (zbB (g:=gb445) (o:=.cells #[.int .i64 t435,.int .i64 t436,.int .i64 t437,.int .i64 t438,.int .i64 t439,.int .i64 t440,.slice Ao48 t441.length co48] 24 (0,0)) (by (with_reducible repeat (first|refine zbN ?_ _|refine zbD ?_|refine zbA ?_ _));refine blk_put (cs:=#[.int .i64 t435,.int .i64 t436,.int .i64 t437,.int .i64 t438,.int .i64 t439,.int .i64 t440,.slice none 0 0]) ?_ 6 _ rfl;(with_reducible repeat (first|refine zbN ?_ _|refine zbD ?_|refine zbA ?_ _));refine blk_put (cs:=#[.int .i64 t435,.int .i64 t436,.int .i64 t437,.int .i64 t438,.int .i64 t439,.int .i64 0,.slice none 0 0]) ?_ 5 _ rfl;(with_reducible repeat (first|refine zbN ?_ _|refine zbD ?_|refine zbA ?_ _));refine blk_put (cs:=#[.int .i64 t435,.int .i64 t436,.int .i64 t437,.int .i64 t438,.int .i64 0,.int .i64 0,.slice none 0 0]) ?_ 4 _ rfl;(with_reducible repeat (first|refine zbN ?_ _|refine zbD ?_|refine zbA ?_ _));refine blk_put (cs:=#[.int .i64 t435,.int .i64 t436,.int .i64 t437,.int .i64 0,.int .i64 0,.int .i64 0,.slice none 0 0]) ?_ 3 _ rfl;(with_reducible repeat (first|refine zbN ?_ _|refine zbD ?_|refine zbA ?_ _));refine blk_put (cs:=#[.int .i64 t435,.int .i64 t436,.int .i64 0,.int .i64 0,.int .i64 0,.int .i64 0,.slice none 0 0]) ?_ 2 _ rfl;(with_reducible repeat (first|refine zbN ?_ _|refine zbD ?_|refine zbA ?_ _));refine blk_put (cs:=#[.int .i64 t435,.int .i64 0,.int .i64 0,.int .i64 0,.int .i64 0,.int .i64 0,.slice none 0 0]) ?_ 1 _ rfl;(with_reducible repeat (first|refine zbN ?_ _|refine zbD ?_|refine zbA ?_ _));refine blk_put (cs:=#[.int .i64 0,.int .i64 0,.int .i64 0,.int .i64 0,.int .i64 0,.int .i64 0,.slice none 0 0]) ?_ 0 _ rfl;(with_reducible repeat (first|refine zbN ?_ _|refine zbD ?_|refine zbA ?_ _));exact BK445.out) hb);have n6_:=zkH HB hb;clear HO_7 HO432 HO443 BK418 BK434 BK445 HB;have HO_7:=n0_;have HO432:=n1_;have HO443:=n2_;have BK418:=n3_;have BK434:=n4_;have BK445:=n5_;have HB:=n6_;clear n0_ n1_ n2_ n3_ n4_ n5_ n6_;(try clear hb);(try clear hb2);(try clear hk);(try clear hi)))
         go_roundg k1
         case measure=>have:=HK1.out;omega
         case rel=>exact ⟨(wrap64 (x25_1 + 1)),zs_,H',⟨by have:=HK1.out;omega⟩,⟨by (with_reducible repeat (first|apply zrA|apply zrN|apply zrD));exact HO_7.out⟩,⟨zx_⟩,⟨zb_⟩⟩
        ·replace c36:=Bool.eq_false_iff.mpr c36
         subst c36
         have H1:(none)=some r:=by rw [if_neg (show ¬ (false=true) by decide)] at H;exact H
         clear H
         have H:=H1
         clear H1
         exact absurd H (by simp)
       ·rw [if_neg c34] at H
        exact absurd H (by simp)
     ·rw [if_neg c12] at H
      have c12b0:decide (x25_1 < 4)=false:=decide_eq_false c12
      clear c12
      obtain rfl:=Option.some.inj H
      obtain ⟨Ao51,co51,eo51⟩:=Kd.R_slice HO_7.out
      subst eo51
      go_wp2
      go_ret
      exact ⟨ze_,zb_⟩
  ·rw [if_neg c7] at H
   have c7b0:(t423 == 0)=false:=beq_eq_false_iff_ne.mpr c7
   have c7b1:(t423 != 0)=true:=bne_iff_ne.mpr c7
   obtain rfl:=Option.some.inj H
   go_enter Try.func5,Try.ntmps5
   go_wp2_with (first|((with_reducible refine gate_dst (N:=5) rfl ?_);refine zbx 5 #[.int .i64 a2_0,.int .i64 a2_1,.int .i64 a2_2,.int .i64 a2_3,.int .i64 a2_4,.int .i64 a2_5,.slice A2_6 l2_6.length c2_6] 24 ?_;intro gb418 hg w52 hbox hb;have n0_:=zkH HB hb;have n1_:=zm (hbox);have n2_:=zkG HB hg;have n3_:=zkG HB hg;clear HB;have HB:=n0_;have BK418:=n1_;have GW418:=n2_;have GE418:=n3_;clear n0_ n1_ n2_ n3_;clear hb hbox hg)|((with_reducible refine gate_callee (f:=7) rfl ?_);refine goesL_ (some 14) rfl rfl Try.func7 (by kernel_rfl) rfl #[] rfl (by (try simp only [List.map_toArray,List.map_cons,List.map_nil]);first|done|rfl|(simp only [List.length_drop,List.length_take];rfl)) ?_;(with_reducible refine (slipwaylaw14_live.calls k  true _ A4.out).mono ?_);rintro e w53 ⟨rfl,hb⟩;refine ⟨_,rfl,?_⟩;have n0_:=zkB BK418 hb;have n1_:=zkH HB hb;clear BK418 HB;have BK418:=n0_;have HB:=n1_;clear n0_ n1_;(try clear hb);(try clear hb2);(try clear hk);(try clear hi);obtain ⟨hcz54_0,hcz54_1,hcz54_2,hcz54_3,hcz54_4,hcz54_5,hcz54_6,hfz54_0,hfz54_1,hfz54_2,hfz54_3,hfz54_4,hfz54_5,hfz54_6⟩:=zc7 BK418.out)|((with_reducible refine gate_callee (f:=21) rfl ?_);refine goesL_ (some 20) rfl rfl Try.func21 (by kernel_rfl) rfl #[.slice A0 l0.length c0,.int .i64 a1,.agg #[.int .i64 a2_0,.int .i64 a2_1,.int .i64 a2_2,.int .i64 a2_3,.int .i64 a2_4,.int .i64 a2_5,.slice A2_6 l2_6.length c2_6]] rfl (by (try simp only [List.map_toArray,List.map_cons,List.map_nil]);first|done|rfl|(simp only [List.length_drop,List.length_take];rfl)) ?_;(with_reducible refine (inode_Put.calls k _ _ l0 a1 a2_0 a2_1 a2_2 a2_3 a2_4 a2_5 _ _ l2_6 t420 t423 _ ?side1 ?side2 ?side3 ?side4 A6.out).mono ?_);(case side1=>exact zC HR0);(case side2=>exact HC0.out);(case side3=>exact zC HR2_6);(case side4=>exact HC2_6.out);rintro e w55 ⟨v421,rfl,ho0,hb⟩;refine ⟨_,rfl,?_⟩;have n0_:=zm (Kd.R_lower ho0 (below_size (zb_)));have n1_:=zkB BK418 hb;have n2_:=zkH HB hb;clear BK418 HB;have HO422:=n0_;have BK418:=n1_;have HB:=n2_;clear n0_ n1_ n2_;(try clear hb);(try clear hb2);(try clear hk);(try clear hi);(try clear ho0)))
   go_ret
   exact ⟨ze_,zb_⟩
 ·replace c5:=Bool.eq_false_iff.mpr c5
  subst c5
  have H1:(none)=some r:=by rw [if_neg (show ¬ (false=true) by decide)] at H;exact H
  clear H
  have H:=H1
  clear H1
  exact absurd H (by simp)
def slipwaylaw14_InodeOwn.Pure:Prop:=∀ (l0:List Int) (a1:Int) (a2_0:Int) (a2_1:Int) (a2_2:Int) (a2_3:Int) (a2_4:Int) (a2_5:Int) (l2_6:List (S51)),(l0.length≤maxLen∧l0.length * 1≤140737488351232∧∀ x ∈ l0,(Lit.int .u8 x).wf=true) → (Lit.int .i64 a1).wf=true → (Lit.int .i64 a2_0).wf=true → (Lit.int .i64 a2_1).wf=true → (Lit.int .i64 a2_2).wf=true → (Lit.int .i64 a2_3).wf=true → (Lit.int .i64 a2_4).wf=true → (Lit.int .i64 a2_5).wf=true → (l2_6.length≤maxLen∧l2_6.length * 24≤140737488351232∧∀ x ∈ l2_6,((Lit.int .i64 x.f0).wf=true∧((Lit.int .i64 x.f1).wf=true∧(Lit.int .i64 x.f2).wf=true))) → ∃ k,slipwaylaw14_InodeOwn.f k l0 a1 a2_0 a2_1 a2_2 a2_3 a2_4 a2_5 l2_6=some true
theorem slipwaylaw14_InodeOwn.walk (P:slipwaylaw14_InodeOwn.Pure) (A0:Option Addr) (c0:Nat) (l0:List Int) (a1:Int) (a2_0:Int) (a2_1:Int) (a2_2:Int) (a2_3:Int) (a2_4:Int) (a2_5:Int) (A2_6:Option Addr) (c2_6:Nat) (l2_6:List (S51)) (w:World) (hr0:Kd.C (Kd.int .u8) w A0 l0.length l0) (hc0:l0.length≤c0) (hr2_6:Kd.C k51 w A2_6 l2_6.length l2_6) (hc2_6:l2_6.length≤c2_6) (w0:(l0.length≤maxLen∧l0.length * 1≤140737488351232∧∀ x ∈ l0,(Lit.int .u8 x).wf=true)) (w1:(Lit.int .i64 a1).wf=true) (w2_0:(Lit.int .i64 a2_0).wf=true) (w2_1:(Lit.int .i64 a2_1).wf=true) (w2_2:(Lit.int .i64 a2_2).wf=true) (w2_3:(Lit.int .i64 a2_3).wf=true) (w2_4:(Lit.int .i64 a2_4).wf=true) (w2_5:(Lit.int .i64 a2_5).wf=true) (w2_6:(l2_6.length≤maxLen∧l2_6.length * 24≤140737488351232∧∀ x ∈ l2_6,((Lit.int .i64 x.f0).wf=true∧((Lit.int .i64 x.f1).wf=true∧(Lit.int .i64 x.f2).wf=true)))) :
  Calls Try.prog 5 #[.slice A0 l0.length c0,.int .i64 a1,.agg #[.int .i64 a2_0,.int .i64 a2_1,.int .i64 a2_2,.int .i64 a2_3,.int .i64 a2_4,.int .i64 a2_5,.slice A2_6 l2_6.length c2_6]] w fun e w'=>e=.returned (.bool true)∧Below w.heap.size w w':=by
 obtain ⟨k,h⟩:=P l0 a1 a2_0 a2_1 a2_2 a2_3 a2_4 a2_5 l2_6 w0 w1 w2_0 w2_1 w2_2 w2_3 w2_4 w2_5 w2_6
 refine (slipwaylaw14_InodeOwn.calls k A0 c0 l0 a1 a2_0 a2_1 a2_2 a2_3 a2_4 a2_5 A2_6 c2_6 l2_6 true w hr0 hc0 hr2_6 hc2_6 h).mono ?_
 rintro e w' ⟨rfl,hd⟩
 exact ⟨rfl,hd⟩
end Go.Proofs.Ytjoojmodghpimaa.Print
end
