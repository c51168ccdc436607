/- Texts of the proof of LayoutBack, part 2. -/
import Derived.Test.YtbdnmdmfnopihaaLayoutBackM1
section
namespace Go.Proofs.Ytbdnmdmfnopihaa.Print
open Go.RowKit Go.Proofs.YtbdnmdmfnopihaaW.PrintWords Go.Proofs.YtbdnmdmfnopihaaW.PrintLast Go.Proofs.YtbdnmdmfnopihaaW.PrintMore
attribute [local go_sem] max2_int min2_int max_two min_two max_three min_three max_four min_four   -- for this text's walks alone
attribute [local go_sem ↓] Go.Proofs.Ytbdnmdmfnopihaa.Sem.isSome_setCell
attribute [local go_sem] Go.Instr.field Go.asAgg
set_option linter.unusedVariables false
set_option linter.unusedSimpArgs false
def bits_Len64.j0:Nat → Int → Int → Option (Int)
 | 0,_,_=>none
 | k + 1,x0,x2=>if x0 ≥ 65536 then (if (x0 / 65536) ≥ 256 then (if 0≤(((x0 / 65536) / 256) % 256) then (if (((x0 / 65536) / 256) % 256) < 256 then (some (wrap64 ((wrap64 ((wrap64 (x2 + 16)) + 8)) + (wrap64 (bt (⟨#[0,1,2,2,3,3,3,3,4,4,4,4,4,4,4,4,5,5,5,5,5,5,5,5,5,5,5,5,5,5,5,5,6,6,6,6,6,6,6,6,6,6,6,6,6,6,6,6,6,6,6,6,6,6,6,6,6,6,6,6,6,6,6,6,7,7,7,7,7,7,7,7,7,7,7,7,7,7,7,7,7,7,7,7,7,7,7,7,7,7,7,7,7,7,7,7,7,7,7,7,7,7,7,7,7,7,7,7,7,7,7,7,7,7,7,7,7,7,7,7,7,7,7,7,7,7,7,7,8,8,8,8,8,8,8,8,8,8,8,8,8,8,8,8,8,8,8,8,8,8,8,8,8,8,8,8,8,8,8,8,8,8,8,8,8,8,8,8,8,8,8,8,8,8,8,8,8,8,8,8,8,8,8,8,8,8,8,8,8,8,8,8,8,8,8,8,8,8,8,8,8,8,8,8,8,8,8,8,8,8,8,8,8,8,8,8,8,8,8,8,8,8,8,8,8,8,8,8,8,8,8,8,8,8,8,8,8,8,8,8,8,8,8,8,8,8,8,8,8,8,8,8,8,8,8,8]⟩:ByteArray) (((x0 / 65536) / 256) % 256)))))) else (none)) else (none)) else (if 0≤((x0 / 65536) % 256) then (if ((x0 / 65536) % 256) < 256 then (some (wrap64 ((wrap64 (x2 + 16)) + (wrap64 (bt (⟨#[0,1,2,2,3,3,3,3,4,4,4,4,4,4,4,4,5,5,5,5,5,5,5,5,5,5,5,5,5,5,5,5,6,6,6,6,6,6,6,6,6,6,6,6,6,6,6,6,6,6,6,6,6,6,6,6,6,6,6,6,6,6,6,6,7,7,7,7,7,7,7,7,7,7,7,7,7,7,7,7,7,7,7,7,7,7,7,7,7,7,7,7,7,7,7,7,7,7,7,7,7,7,7,7,7,7,7,7,7,7,7,7,7,7,7,7,7,7,7,7,7,7,7,7,7,7,7,7,8,8,8,8,8,8,8,8,8,8,8,8,8,8,8,8,8,8,8,8,8,8,8,8,8,8,8,8,8,8,8,8,8,8,8,8,8,8,8,8,8,8,8,8,8,8,8,8,8,8,8,8,8,8,8,8,8,8,8,8,8,8,8,8,8,8,8,8,8,8,8,8,8,8,8,8,8,8,8,8,8,8,8,8,8,8,8,8,8,8,8,8,8,8,8,8,8,8,8,8,8,8,8,8,8,8,8,8,8,8,8,8,8,8,8,8,8,8,8,8,8,8,8,8,8,8,8,8]⟩:ByteArray) ((x0 / 65536) % 256)))))) else (none)) else (none))) else (if x0 ≥ 256 then (if 0≤((x0 / 256) % 256) then (if ((x0 / 256) % 256) < 256 then (some (wrap64 ((wrap64 (x2 + 8)) + (wrap64 (bt (⟨#[0,1,2,2,3,3,3,3,4,4,4,4,4,4,4,4,5,5,5,5,5,5,5,5,5,5,5,5,5,5,5,5,6,6,6,6,6,6,6,6,6,6,6,6,6,6,6,6,6,6,6,6,6,6,6,6,6,6,6,6,6,6,6,6,7,7,7,7,7,7,7,7,7,7,7,7,7,7,7,7,7,7,7,7,7,7,7,7,7,7,7,7,7,7,7,7,7,7,7,7,7,7,7,7,7,7,7,7,7,7,7,7,7,7,7,7,7,7,7,7,7,7,7,7,7,7,7,7,8,8,8,8,8,8,8,8,8,8,8,8,8,8,8,8,8,8,8,8,8,8,8,8,8,8,8,8,8,8,8,8,8,8,8,8,8,8,8,8,8,8,8,8,8,8,8,8,8,8,8,8,8,8,8,8,8,8,8,8,8,8,8,8,8,8,8,8,8,8,8,8,8,8,8,8,8,8,8,8,8,8,8,8,8,8,8,8,8,8,8,8,8,8,8,8,8,8,8,8,8,8,8,8,8,8,8,8,8,8,8,8,8,8,8,8,8,8,8,8,8,8,8,8,8,8,8,8]⟩:ByteArray) ((x0 / 256) % 256)))))) else (none)) else (none)) else (if 0≤((x0) % 256) then (if ((x0) % 256) < 256 then (some (wrap64 (x2 + (wrap64 (bt (⟨#[0,1,2,2,3,3,3,3,4,4,4,4,4,4,4,4,5,5,5,5,5,5,5,5,5,5,5,5,5,5,5,5,6,6,6,6,6,6,6,6,6,6,6,6,6,6,6,6,6,6,6,6,6,6,6,6,6,6,6,6,6,6,6,6,7,7,7,7,7,7,7,7,7,7,7,7,7,7,7,7,7,7,7,7,7,7,7,7,7,7,7,7,7,7,7,7,7,7,7,7,7,7,7,7,7,7,7,7,7,7,7,7,7,7,7,7,7,7,7,7,7,7,7,7,7,7,7,7,8,8,8,8,8,8,8,8,8,8,8,8,8,8,8,8,8,8,8,8,8,8,8,8,8,8,8,8,8,8,8,8,8,8,8,8,8,8,8,8,8,8,8,8,8,8,8,8,8,8,8,8,8,8,8,8,8,8,8,8,8,8,8,8,8,8,8,8,8,8,8,8,8,8,8,8,8,8,8,8,8,8,8,8,8,8,8,8,8,8,8,8,8,8,8,8,8,8,8,8,8,8,8,8,8,8,8,8,8,8,8,8,8,8,8,8,8,8,8,8,8,8,8,8,8,8,8,8]⟩:ByteArray) ((x0) % 256)))))) else (none)) else (none)))
def bits_Len64.f (k:Nat) (a0:Int):Option (Int):=if a0 ≥ 4294967296 then (bits_Len64.j0 k (a0 / 4294967296) 32) else (bits_Len64.j0 k a0 0)
set_option maxHeartbeats 8000000 in
set_option maxRecDepth 100000 in
theorem bits_Len64.calls (k:Nat) (a0:Int) (r:Int) (w:World) (h:bits_Len64.f k a0=some r) :
  Calls Try.prog 62 #[.int .u64 a0] w fun e w'=>e=.returned (.int .i64 r)∧Drawn0 w w':=by
 have H:(if a0 ≥ 4294967296 then (bits_Len64.j0 k (a0 / 4294967296) 32) else (bits_Len64.j0 k a0 0))=some r:=h
 clear h
 have HC2:=Aside0.mk H
 clear H
 go_enter Try.func62,Try.ntmps62
 go_upto_if 4 with (fail)
 go_cut [0,2] (fun v0 v2 wc=>∃ (kq:Nat) (x0_1:Int) (x2_1:Int),v0=.int .u64 x0_1∧v2=.int .i64 x2_1∧Aside0 (bits_Len64.j0 kq x0_1 x2_1=some r)∧Aside0 (kq≤k)∧Drawn0 w wc)
 case first =>
  have H:=HC2.out
  clear HC2
  by_cases c3:a0 ≥ 4294967296
  ·rw [if_pos c3] at H
   have c3b0:decide (4294967296≤a0)=true:=decide_eq_true c3
   clear c3
   (first|rw [c3b0]|(simp only [i64_w,i32_w];rw [c3b0])|skip)
   have H':=Aside0.mk H
   clear H
   go_wp2
   go_meet
   case rel=>exact ⟨_,(a0 / 4294967296),(32),(by first|rfl|(simp;done)|(simp [*];done)),(by first|rfl|(simp;done)|(simp [*];done)),H',⟨by first|omega|exact Nat.le_refl _⟩,by repeat (first|exact Drawn0.refl _|apply Drawn0.step)⟩
  ·rw [if_neg c3] at H
   have c3b0:decide (4294967296≤a0)=false:=decide_eq_false c3
   clear c3
   (first|rw [c3b0]|(simp only [i64_w,i32_w];rw [c3b0])|skip)
   have H':=Aside0.mk H
   clear H
   go_wp2
   go_meet
   case rel=>exact ⟨_,(a0),(0),(by first|rfl|(simp;done)|(simp [*];done)),(by first|rfl|(simp;done)|(simp [*];done)),H',⟨by first|omega|exact Nat.le_refl _⟩,by repeat (first|exact Drawn0.refl _|apply Drawn0.step)⟩
 case rest =>
  clear HC2
  try clear p2
  try clear c3
  try clear c3b0
  obtain ⟨kq,x0_1,x2_1,rfl,rfl,HA,HJ1,⟨mc1,rfl⟩⟩:=hcut
  cases kq with
  | zero=>exact absurd HA.out (by simp [bits_Len64.j0])
  | succ kj1 =>
   have H:=HA.out
   clear HA
   simp only [bits_Len64.j0] at H
   by_cases c4:x0_1 ≥ 65536
   ·rw [if_pos c4] at H
    have c4b0:decide (65536≤x0_1)=true:=decide_eq_true c4
    clear c4
    by_cases c5:(x0_1 / 65536) ≥ 256
    ·rw [if_pos c5] at H
     have c5b0:decide (256≤(x0_1 / 65536))=true:=decide_eq_true c5
     clear c5
     obtain ⟨ji6,hji6⟩:∃ j_:Int,(((x0_1 / 65536) / 256) % 256)=j_:=⟨_,rfl⟩
     replace H:(if 0≤(ji6) then (if (ji6) < 256 then (some (wrap64 ((wrap64 ((wrap64 (x2_1 + 16)) + 8)) + (wrap64 (bt (⟨#[0,1,2,2,3,3,3,3,4,4,4,4,4,4,4,4,5,5,5,5,5,5,5,5,5,5,5,5,5,5,5,5,6,6,6,6,6,6,6,6,6,6,6,6,6,6,6,6,6,6,6,6,6,6,6,6,6,6,6,6,6,6,6,6,7,7,7,7,7,7,7,7,7,7,7,7,7,7,7,7,7,7,7,7,7,7,7,7,7,7,7,7,7,7,7,7,7,7,7,7,7,7,7,7,7,7,7,7,7,7,7,7,7,7,7,7,7,7,7,7,7,7,7,7,7,7,7,7,8,8,8,8,8,8,8,8,8,8,8,8,8,8,8,8,8,8,8,8,8,8,8,8,8,8,8,8,8,8,8,8,8,8,8,8,8,8,8,8,8,8,8,8,8,8,8,8,8,8,8,8,8,8,8,8,8,8,8,8,8,8,8,8,8,8,8,8,8,8,8,8,8,8,8,8,8,8,8,8,8,8,8,8,8,8,8,8,8,8,8,8,8,8,8,8,8,8,8,8,8,8,8,8,8,8,8,8,8,8,8,8,8,8,8,8,8,8,8,8,8,8,8,8,8,8,8,8]⟩:ByteArray) (ji6)))))) else (none)) else (none))=some r:=by first|(rw [hji6] at H;exact H)|(simp only [hji6] at H ⊢;exact H)
     by_cases c7:0≤(ji6)
     ·rw [if_pos c7] at H
      have c7b0:decide (0≤(ji6))=true:=decide_eq_true c7
      clear c7
      by_cases c8:(ji6) < 256
      ·rw [if_pos c8] at H
       have c8b0:decide ((ji6) < 256)=true:=decide_eq_true c8
       clear c8
       obtain rfl:=Option.some.inj H
       have p9:0≤((ji6):Int):=of_decide_eq_true (by first|(with_reducible assumption)|assumption)
       have q9:(ji6) < (256:Int):=of_decide_eq_true (by first|(with_reducible assumption)|assumption)
       have hx9:=bt_at (⟨#[0,1,2,2,3,3,3,3,4,4,4,4,4,4,4,4,5,5,5,5,5,5,5,5,5,5,5,5,5,5,5,5,6,6,6,6,6,6,6,6,6,6,6,6,6,6,6,6,6,6,6,6,6,6,6,6,6,6,6,6,6,6,6,6,7,7,7,7,7,7,7,7,7,7,7,7,7,7,7,7,7,7,7,7,7,7,7,7,7,7,7,7,7,7,7,7,7,7,7,7,7,7,7,7,7,7,7,7,7,7,7,7,7,7,7,7,7,7,7,7,7,7,7,7,7,7,7,7,8,8,8,8,8,8,8,8,8,8,8,8,8,8,8,8,8,8,8,8,8,8,8,8,8,8,8,8,8,8,8,8,8,8,8,8,8,8,8,8,8,8,8,8,8,8,8,8,8,8,8,8,8,8,8,8,8,8,8,8,8,8,8,8,8,8,8,8,8,8,8,8,8,8,8,8,8,8,8,8,8,8,8,8,8,8,8,8,8,8,8,8,8,8,8,8,8,8,8,8,8,8,8,8,8,8,8,8,8,8,8,8,8,8,8,8,8,8,8,8,8,8,8,8,8,8,8,8]⟩:ByteArray) (ji6)
       replace p9:=eq_true p9
       replace q9:=eq_true q9
       go_wp2
       go_ret
       exact ⟨by first|rfl|(simp;done)|(simp only [← hji6] <;> (first|rfl|simp))|(simp [*];done),by repeat (first|exact Drawn0.refl _|apply Drawn0.step)⟩
      ·rw [if_neg c8] at H
       exact absurd H (by simp)
     ·rw [if_neg c7] at H
      exact absurd H (by simp)
    ·rw [if_neg c5] at H
     have c5b0:decide (256≤(x0_1 / 65536))=false:=decide_eq_false c5
     clear c5
     obtain ⟨ji10,hji10⟩:∃ j_:Int,((x0_1 / 65536) % 256)=j_:=⟨_,rfl⟩
     replace H:(if 0≤(ji10) then (if (ji10) < 256 then (some (wrap64 ((wrap64 (x2_1 + 16)) + (wrap64 (bt (⟨#[0,1,2,2,3,3,3,3,4,4,4,4,4,4,4,4,5,5,5,5,5,5,5,5,5,5,5,5,5,5,5,5,6,6,6,6,6,6,6,6,6,6,6,6,6,6,6,6,6,6,6,6,6,6,6,6,6,6,6,6,6,6,6,6,7,7,7,7,7,7,7,7,7,7,7,7,7,7,7,7,7,7,7,7,7,7,7,7,7,7,7,7,7,7,7,7,7,7,7,7,7,7,7,7,7,7,7,7,7,7,7,7,7,7,7,7,7,7,7,7,7,7,7,7,7,7,7,7,8,8,8,8,8,8,8,8,8,8,8,8,8,8,8,8,8,8,8,8,8,8,8,8,8,8,8,8,8,8,8,8,8,8,8,8,8,8,8,8,8,8,8,8,8,8,8,8,8,8,8,8,8,8,8,8,8,8,8,8,8,8,8,8,8,8,8,8,8,8,8,8,8,8,8,8,8,8,8,8,8,8,8,8,8,8,8,8,8,8,8,8,8,8,8,8,8,8,8,8,8,8,8,8,8,8,8,8,8,8,8,8,8,8,8,8,8,8,8,8,8,8,8,8,8,8,8,8]⟩:ByteArray) (ji10)))))) else (none)) else (none))=some r:=by first|(rw [hji10] at H;exact H)|(simp only [hji10] at H ⊢;exact H)
     by_cases c11:0≤(ji10)
     ·rw [if_pos c11] at H
      have c11b0:decide (0≤(ji10))=true:=decide_eq_true c11
      clear c11
      by_cases c12:(ji10) < 256
      ·rw [if_pos c12] at H
       have c12b0:decide ((ji10) < 256)=true:=decide_eq_true c12
       clear c12
       obtain rfl:=Option.some.inj H
       have p13:0≤((ji10):Int):=of_decide_eq_true (by first|(with_reducible assumption)|assumption)
       have q13:(ji10) < (256:Int):=of_decide_eq_true (by first|(with_reducible assumption)|assumption)
       have hx13:=bt_at (⟨#[0,1,2,2,3,3,3,3,4,4,4,4,4,4,4,4,5,5,5,5,5,5,5,5,5,5,5,5,5,5,5,5,6,6,6,6,6,6,6,6,6,6,6,6,6,6,6,6,6,6,6,6,6,6,6,6,6,6,6,6,6,6,6,6,7,7,7,7,7,7,7,7,7,7,7,7,7,7,7,7,7,7,7,7,7,7,7,7,7,7,7,7,7,7,7,7,7,7,7,7,7,7,7,7,7,7,7,7,7,7,7,7,7,7,7,7,7,7,7,7,7,7,7,7,7,7,7,7,8,8,8,8,8,8,8,8,8,8,8,8,8,8,8,8,8,8,8,8,8,8,8,8,8,8,8,8,8,8,8,8,8,8,8,8,8,8,8,8,8,8,8,8,8,8,8,8,8,8,8,8,8,8,8,8,8,8,8,8,8,8,8,8,8,8,8,8,8,8,8,8,8,8,8,8,8,8,8,8,8,8,8,8,8,8,8,8,8,8,8,8,8,8,8,8,8,8,8,8,8,8,8,8,8,8,8,8,8,8,8,8,8,8,8,8,8,8,8,8,8,8,8,8,8,8,8,8]⟩:ByteArray) (ji10)
       replace p13:=eq_true p13
       replace q13:=eq_true q13
       go_wp2
       go_ret
       exact ⟨by first|rfl|(simp;done)|(simp only [← hji10] <;> (first|rfl|simp))|(simp [*];done),by repeat (first|exact Drawn0.refl _|apply Drawn0.step)⟩
      ·rw [if_neg c12] at H
       exact absurd H (by simp)
     ·rw [if_neg c11] at H
      exact absurd H (by simp)
   ·rw [if_neg c4] at H
    have c4b0:decide (65536≤x0_1)=false:=decide_eq_false c4
    clear c4
    by_cases c14:x0_1 ≥ 256
    ·rw [if_pos c14] at H
     have c14b0:decide (256≤x0_1)=true:=decide_eq_true c14
     clear c14
     obtain ⟨ji15,hji15⟩:∃ j_:Int,((x0_1 / 256) % 256)=j_:=⟨_,rfl⟩
     replace H:(if 0≤(ji15) then (if (ji15) < 256 then (some (wrap64 ((wrap64 (x2_1 + 8)) + (wrap64 (bt (⟨#[0,1,2,2,3,3,3,3,4,4,4,4,4,4,4,4,5,5,5,5,5,5,5,5,5,5,5,5,5,5,5,5,6,6,6,6,6,6,6,6,6,6,6,6,6,6,6,6,6,6,6,6,6,6,6,6,6,6,6,6,6,6,6,6,7,7,7,7,7,7,7,7,7,7,7,7,7,7,7,7,7,7,7,7,7,7,7,7,7,7,7,7,7,7,7,7,7,7,7,7,7,7,7,7,7,7,7,7,7,7,7,7,7,7,7,7,7,7,7,7,7,7,7,7,7,7,7,7,8,8,8,8,8,8,8,8,8,8,8,8,8,8,8,8,8,8,8,8,8,8,8,8,8,8,8,8,8,8,8,8,8,8,8,8,8,8,8,8,8,8,8,8,8,8,8,8,8,8,8,8,8,8,8,8,8,8,8,8,8,8,8,8,8,8,8,8,8,8,8,8,8,8,8,8,8,8,8,8,8,8,8,8,8,8,8,8,8,8,8,8,8,8,8,8,8,8,8,8,8,8,8,8,8,8,8,8,8,8,8,8,8,8,8,8,8,8,8,8,8,8,8,8,8,8,8,8]⟩:ByteArray) (ji15)))))) else (none)) else (none))=some r:=by first|(rw [hji15] at H;exact H)|(simp only [hji15] at H ⊢;exact H)
     by_cases c16:0≤(ji15)
     ·rw [if_pos c16] at H
      have c16b0:decide (0≤(ji15))=true:=decide_eq_true c16
      clear c16
      by_cases c17:(ji15) < 256
      ·rw [if_pos c17] at H
       have c17b0:decide ((ji15) < 256)=true:=decide_eq_true c17
       clear c17
       obtain rfl:=Option.some.inj H
       have p18:0≤((ji15):Int):=of_decide_eq_true (by first|(with_reducible assumption)|assumption)
       have q18:(ji15) < (256:Int):=of_decide_eq_true (by first|(with_reducible assumption)|assumption)
       have hx18:=bt_at (⟨#[0,1,2,2,3,3,3,3,4,4,4,4,4,4,4,4,5,5,5,5,5,5,5,5,5,5,5,5,5,5,5,5,6,6,6,6,6,6,6,6,6,6,6,6,6,6,6,6,6,6,6,6,6,6,6,6,6,6,6,6,6,6,6,6,7,7,7,7,7,7,7,7,7,7,7,7,7,7,7,7,7,7,7,7,7,7,7,7,7,7,7,7,7,7,7,7,7,7,7,7,7,7,7,7,7,7,7,7,7,7,7,7,7,7,7,7,7,7,7,7,7,7,7,7,7,7,7,7,8,8,8,8,8,8,8,8,8,8,8,8,8,8,8,8,8,8,8,8,8,8,8,8,8,8,8,8,8,8,8,8,8,8,8,8,8,8,8,8,8,8,8,8,8,8,8,8,8,8,8,8,8,8,8,8,8,8,8,8,8,8,8,8,8,8,8,8,8,8,8,8,8,8,8,8,8,8,8,8,8,8,8,8,8,8,8,8,8,8,8,8,8,8,8,8,8,8,8,8,8,8,8,8,8,8,8,8,8,8,8,8,8,8,8,8,8,8,8,8,8,8,8,8,8,8,8,8]⟩:ByteArray) (ji15)
       replace p18:=eq_true p18
       replace q18:=eq_true q18
       go_wp2
       go_ret
       exact ⟨by first|rfl|(simp;done)|(simp only [← hji15] <;> (first|rfl|simp))|(simp [*];done),by repeat (first|exact Drawn0.refl _|apply Drawn0.step)⟩
      ·rw [if_neg c17] at H
       exact absurd H (by simp)
     ·rw [if_neg c16] at H
      exact absurd H (by simp)
    ·rw [if_neg c14] at H
     have c14b0:decide (256≤x0_1)=false:=decide_eq_false c14
     clear c14
     obtain ⟨ji19,hji19⟩:∃ j_:Int,((x0_1) % 256)=j_:=⟨_,rfl⟩
     replace H:(if 0≤(ji19) then (if (ji19) < 256 then (some (wrap64 (x2_1 + (wrap64 (bt (⟨#[0,1,2,2,3,3,3,3,4,4,4,4,4,4,4,4,5,5,5,5,5,5,5,5,5,5,5,5,5,5,5,5,6,6,6,6,6,6,6,6,6,6,6,6,6,6,6,6,6,6,6,6,6,6,6,6,6,6,6,6,6,6,6,6,7,7,7,7,7,7,7,7,7,7,7,7,7,7,7,7,7,7,7,7,7,7,7,7,7,7,7,7,7,7,7,7,7,7,7,7,7,7,7,7,7,7,7,7,7,7,7,7,7,7,7,7,7,7,7,7,7,7,7,7,7,7,7,7,8,8,8,8,8,8,8,8,8,8,8,8,8,8,8,8,8,8,8,8,8,8,8,8,8,8,8,8,8,8,8,8,8,8,8,8,8,8,8,8,8,8,8,8,8,8,8,8,8,8,8,8,8,8,8,8,8,8,8,8,8,8,8,8,8,8,8,8,8,8,8,8,8,8,8,8,8,8,8,8,8,8,8,8,8,8,8,8,8,8,8,8,8,8,8,8,8,8,8,8,8,8,8,8,8,8,8,8,8,8,8,8,8,8,8,8,8,8,8,8,8,8,8,8,8,8,8,8]⟩:ByteArray) (ji19)))))) else (none)) else (none))=some r:=by first|(rw [hji19] at H;exact H)|(simp only [hji19] at H ⊢;exact H)
     by_cases c20:0≤(ji19)
     ·rw [if_pos c20] at H
      have c20b0:decide (0≤(ji19))=true:=decide_eq_true c20
      clear c20
      by_cases c21:(ji19) < 256
      ·rw [if_pos c21] at H
       have c21b0:decide ((ji19) < 256)=true:=decide_eq_true c21
       clear c21
       obtain rfl:=Option.some.inj H
       have p22:0≤((ji19):Int):=of_decide_eq_true (by first|(with_reducible assumption)|assumption)
       have q22:(ji19) < (256:Int):=of_decide_eq_true (by first|(with_reducible assumption)|assumption)
       have hx22:=bt_at (⟨#[0,1,2,2,3,3,3,3,4,4,4,4,4,4,4,4,5,5,5,5,5,5,5,5,5,5,5,5,5,5,5,5,6,6,6,6,6,6,6,6,6,6,6,6,6,6,6,6,6,6,6,6,6,6,6,6,6,6,6,6,6,6,6,6,7,7,7,7,7,7,7,7,7,7,7,7,7,7,7,7,7,7,7,7,7,7,7,7,7,7,7,7,7,7,7,7,7,7,7,7,7,7,7,7,7,7,7,7,7,7,7,7,7,7,7,7,7,7,7,7,7,7,7,7,7,7,7,7,8,8,8,8,8,8,8,8,8,8,8,8,8,8,8,8,8,8,8,8,8,8,8,8,8,8,8,8,8,8,8,8,8,8,8,8,8,8,8,8,8,8,8,8,8,8,8,8,8,8,8,8,8,8,8,8,8,8,8,8,8,8,8,8,8,8,8,8,8,8,8,8,8,8,8,8,8,8,8,8,8,8,8,8,8,8,8,8,8,8,8,8,8,8,8,8,8,8,8,8,8,8,8,8,8,8,8,8,8,8,8,8,8,8,8,8,8,8,8,8,8,8,8,8,8,8,8,8]⟩:ByteArray) (ji19)
       replace p22:=eq_true p22
       replace q22:=eq_true q22
       go_wp2
       go_ret
       exact ⟨by first|rfl|(simp;done)|(simp only [← hji19] <;> (first|rfl|simp))|(simp [*];done),by repeat (first|exact Drawn0.refl _|apply Drawn0.step)⟩
      ·rw [if_neg c21] at H
       exact absurd H (by simp)
     ·rw [if_neg c20] at H
      exact absurd H (by simp)
end Go.Proofs.Ytbdnmdmfnopihaa.Print
end
section
namespace Go.Proofs.Ytbdnmdmfnopihaa.Print
open Go.RowKit Go.Proofs.YtbdnmdmfnopihaaW.PrintWords Go.Proofs.YtbdnmdmfnopihaaW.PrintLast Go.Proofs.YtbdnmdmfnopihaaW.PrintMore
attribute [local go_sem] max2_int min2_int max_two min_two max_three min_three max_four min_four   -- for this text's walks alone
attribute [local go_sem ↓] Go.Proofs.Ytbdnmdmfnopihaa.Sem.isSome_setCell
attribute [local go_sem] Go.Instr.field Go.asAgg
set_option linter.unusedVariables false
set_option linter.unusedSimpArgs false
mutual
def seal_Pack.l0:Nat → List Int → List Int → Int → List Int → Int → Int → Option (List Int × Int)
 | 0,_,_,_,_,_,_=>none
 | k + 1,x1,x8,x9,x28,x29,x30=>if x30 < x29 then (if 0≤x30 then (if x30 < (x28.length:Int) then (if x30 < (x1.length:Int) then ((bits_Len64.f k (rd x1 x30)).bind fun t423=>(if t423 > (rd x28 x30) then (some (([]:List Int),1)) else (seal_Pack.l1 k x1 x8 x9 x30 (rd x28 x30) x28 x29 x30 (rd x28 x30) 0))) else (none)) else (none)) else (none)) else (some (x8,0))
def seal_Pack.l1:Nat → List Int → List Int → Int → Int → Int → List Int → Int → Int → Int → Int → Option (List Int × Int)
 | 0,_,_,_,_,_,_,_,_,_,_=>none
 | k + 1,x1,x8,x9,x10,x11,x28,x29,x30,x42,x43=>if x43 < x42 then (if 0≤(wrap64 (Int.tdiv x9 8)) then (if (wrap64 (Int.tdiv x9 8)) < (x8.length:Int) then (if 0≤x10 then (if x10 < (x1.length:Int) then (if 0≤(wrap64 ((wrap64 (x11 - 1)) - x43)) then (if 0≤(wrap64 (7 - (Int.tmod x9 8))) then (seal_Pack.l1 k x1 (x8.set ((wrap64 (Int.tdiv x9 8)):Int).toNat (Go.bits .or .u8 (rd x8 (wrap64 (Int.tdiv x9 8))) (shl .u8 ((Go.bits .and .u64 (shr .u64 (rd x1 x10) (wrap64 ((wrap64 (x11 - 1)) - x43))) 1) % 256) (wrap64 (7 - (Int.tmod x9 8)))))) (wrap64 (x9 + 1)) x10 x11 x28 x29 x30 x42 (wrap64 (x43 + 1))) else (none)) else (none)) else (none)) else (none)) else (none)) else (none)) else (seal_Pack.l0 k x1 x8 x9 x28 x29 (wrap64 (x30 + 1)))
end
def seal_Pack.f (k:Nat) (l0:List Int) (l1:List Int):Option (List Int × Int):=(seal_Width.f k l0).bind fun bt416=>(if bt416.2=0 then (if (l1.length:Int)=(l0.length:Int) then (if 0≤bt416.1 then (if (bt416.1:Int).toNat≤281474976710656 then (seal_Pack.l0 k l1 (List.replicate (bt416.1:Int).toNat 0) 0 l0 (l0.length:Int) 0) else (none)) else (none)) else (some (([]:List Int),1))) else (some (([]:List Int),bt416.2)))
def seal_Pack.T16:Bool × List (List Nat × List Nat):=(true,[([],[]),([],[]),([1],[1]),([0,2],[0,2]),([3],[3]),([],[]),([],[]),([5,6],[5,6]),([7],[7]),([],[]),([9],[9]),([],[]),([10,11],[10,11]),([8,12],[8,12]),([13],[13]),([14],[14]),([],[]),([16],[16]),([17],[17]),([15,18],[15,18]),([4,19],[4,19]),([0,2,0,1,2,3,4,5,6,7,8,9,10,11,12,13,14,15,16,17,18,19,20],[0,2]),([21,20,0,1,2,3,4,5,6,7,8,9,10,11,12,13,14,15,16,17,18,19,20],[20,21])])
def seal_Pack.B16:List Nat:=[0,0,2,7,15,0,0,96,224,0,512,0,3584,8160,16352,32736,0,65536,196608,524256,1048575,2097151,4194303]
theorem seal_Pack.tab16:rtab .any (opsOf Try.f53 16)=seal_Pack.T16:=by kernel_rfl
theorem seal_Pack.bits16:waitsOk seal_Pack.T16.2 seal_Pack.B16=true:=by kernel_rfl
set_option maxHeartbeats 8000000 in
set_option maxRecDepth 100000 in
theorem seal_Pack.calls (k:Nat) (A0:Option Addr) (c0:Nat) (l0:List Int) (A1:Option Addr) (c1:Nat) (l1:List Int) (r1:List Int) (r2:Int) (w:World) (hr0:Kd.C (Kd.int .i64) w A0 l0.length l0) (hc0:l0.length≤c0) (hr1:Kd.C (Kd.int .u64) w A1 l1.length l1) (hc1:l1.length≤c1) (h:seal_Pack.f k l0 l1=some (r1,r2)) :
  Calls Try.prog 53 #[.slice A0 l0.length c0,.slice A1 l1.length c1] w fun e w'=>∃ v0_:Value,e=.returned (.tuple #[v0_,.int .i64 r2])∧Kd.R (Kd.int .u8) 5 w' w.heap.size (fun _=>True) v0_ r1∧Below w.heap.size w w':=by
 have HR0:=Aside0.mk hr0
 have HC0:=Aside0.mk hc0
 clear hr0 hc0
 have HR1:=Aside0.mk hr1
 have HC1:=Aside0.mk hc1
 clear hr1 hc1
 have HB:=Aside0.mk (Below.refl w.heap.size w)
 have H:((seal_Width.f k l0).bind fun bt416=>(if bt416.2=0 then (if (l1.length:Int)=(l0.length:Int) then (if 0≤bt416.1 then (if (bt416.1:Int).toNat≤281474976710656 then (seal_Pack.l0 k l1 (List.replicate (bt416.1:Int).toNat 0) 0 l0 (l0.length:Int) 0) else (none)) else (none)) else (some (([]:List Int),1))) else (some (([]:List Int),bt416.2))))=some (r1,r2):=h
 clear h
 replace H:=Option.bind_eq_some_iff.mp H
 obtain ⟨⟨t416,t417⟩,A30,H⟩:=H
 replace H:(if t417=0 then (if (l1.length:Int)=(l0.length:Int) then (if 0≤t416 then (if (t416:Int).toNat≤281474976710656 then (seal_Pack.l0 k l1 (List.replicate (t416:Int).toNat 0) 0 l0 (l0.length:Int) 0) else (none)) else (none)) else (some (([]:List Int),1))) else (some (([]:List Int),t417)))=some (r1,r2):=H
 have A3:=Aside0.mk A30
 clear A30
 by_cases c4:t417=0
 ·rw [if_pos c4] at H
  have c4b0:(t417 == 0)=true:=beq_iff_eq.mpr c4
  have c4b1:(t417 != 0)=false:=bne_eq_false_iff_eq.mpr c4
  clear c4
  by_cases c5:(l1.length:Int)=(l0.length:Int)
  ·rw [if_pos c5] at H
   have c5b0:((l1.length:Int) == (l0.length:Int))=true:=beq_iff_eq.mpr c5
   have c5b1:((l1.length:Int) != (l0.length:Int))=false:=bne_eq_false_iff_eq.mpr c5
   have c5b2:(l1.length == l0.length)=true:=by first|simpa using c5|(simp at c5 ⊢;omega)
   clear c5
   by_cases c6:0≤t416
   ·rw [if_pos c6] at H
    have c6b0:=eq_true c6
    have c6b1:decide (0≤t416)=true:=decide_eq_true c6
    clear c6
    by_cases c7:(t416:Int).toNat≤281474976710656
    ·rw [if_pos c7] at H
     have c7b0:=eq_true c7
     have c7b1:decide ((t416:Int).toNat≤281474976710656)=true:=decide_eq_true c7
     clear c7
     obtain ⟨y418,hy418⟩:∃ y_:List Int,y_=(List.replicate (t416:Int).toNat 0):=⟨_,rfl⟩
     replace H:(seal_Pack.l0 k l1 y418 0 l0 (l0.length:Int) 0)=some (r1,r2):=by first|(rw [hy418];with_reducible exact H)|(have H2_:=(Option.bind_some _ _).symm.trans H;rw [hy418];with_reducible exact H2_)|(have H2_:=(Option.bind_some _ _).symm.trans H;with_reducible exact H2_)|with_reducible exact H|(rw [hy418];exact H)|exact H
     have Ny418:=Aside0.mk hy418
     clear hy418
     have H':=Aside0.mk H
     clear H
     go_enter Try.func53,Try.ntmps53
     go_wp2_with (first|((with_reducible refine gate_callee (f:=58) rfl ?_);refine goesL_ (some 15) rfl rfl Try.func58 (by kernel_rfl) rfl #[.slice A0 l0.length c0] rfl (by (try simp only [List.map_toArray,List.map_cons,List.map_nil]);first|done|rfl|(simp only [List.length_drop,List.length_take];rfl)) ?_;(with_reducible refine (seal_Width.calls k _ _ l0 t416 t417 _ ?side1 ?side2 A3.out).mono ?_);(case side1=>repeat (first|exact HR0.out|(with_reducible refine Kd.C_alloc ?_ _)|(with_reducible refine Kd.C_drewN ?_ _)|(with_reducible refine Kd.C_drew ?_)));(case side2=>exact HC0.out);rintro e w' ⟨rfl,⟨nd,rfl⟩⟩;refine ⟨_,rfl,?_⟩)|((with_reducible refine gate_dst (N:=27) rfl ?_);refine Kd.R_make (Kd.int .u8) _ 5 rfl (N:=27) rfl 48 _ _ rfl t416 rfl rfl Try.underlying48 (.int .u8 0) 1 info5 rfl (by decide) (by omega) 0 (ok:=fun _=>True) (okp:=fun _=>True) rfl (fun _ hk=>hk) trivial (of_decide_eq_true (by first|(with_reducible assumption)|assumption)) (Nat.le_trans (Nat.mul_le_mul_right _ (of_decide_eq_true (by first|(with_reducible assumption)|assumption):t416.toNat≤281474976710656)) (by omega)) (Below.refl _ _) (Nat.le_refl _) ?_;intro v419 w8 ho9 hb hg_ hnew_;clear hg_ hnew_;(first|rw [← Ny418.out] at ho9|(simp only [Int.reduceToNat] at ho9;rw [← Ny418.out] at ho9));have n0_:=Aside0.mk (Kd.R_lower ho9 (below_size (by repeat (first|(with_reducible first|exact HB.out|apply below_alloc|apply pw_below_drewN|apply below_drew1)|exact HB.out))));have n1_:=Aside0.mk (below_step (by repeat (first|(with_reducible first|exact HB.out|apply below_alloc|apply pw_below_drewN|apply below_drew1)|exact HB.out)) hb);clear HB;have HO420:=n0_;have HB:=n1_;clear n0_ n1_;clear hb ho9))
     go_loopg [9,30] k (fun kq v9 v30 w'=>∃ (x8_1:List Int) (x9_1:Int) (x30_1:Int),v9=.int .i64 x9_1∧v30=.int .i64 x30_1∧Aside0 (seal_Pack.l0 kq l1 x8_1 x9_1 l0 (l0.length:Int) x30_1=some (r1,r2))∧Aside0 (kq≤k)∧Aside0 (Kd.R (Kd.int .u8) 5 w' w.heap.size (fun _=>True) v419 x8_1)∧Aside0 (Below w.heap.size w w'))
     case atStart=>exact ⟨(y418),(0),(0),(by first|rfl|(simp;done)|(simp [*];done)),(by first|rfl|(simp;done)|(simp [*];done)),H',⟨Nat.le_refl _⟩,⟨by (with_reducible repeat (first|apply Kd.R_alloc|apply Kd.R_drewN|apply Kd.R_drew));exact HO420.out⟩,⟨by repeat (first|(with_reducible first|exact HB.out|apply below_alloc|apply pw_below_drewN|apply below_drew1)|exact HB.out)⟩⟩
     case round =>
      clear H'
      try clear c1
      try clear p2
      try clear c4
      try clear c4b0
      try clear c4b1
      try clear c5
      try clear c5b0
      try clear c5b1
      try clear c5b2
      try clear c6
      try clear c6b0
      try clear c6b1
      try clear c7
      try clear c7b0
      try clear c7b1
      obtain ⟨x8_1,x9_1,x30_1,rfl,rfl,HA,HK1,HO_8,HB⟩:=hrel
      cases gk with
      | zero=>exact absurd HA.out (by simp [seal_Pack.l0])
      | succ k1 =>
       have H:=HA.out
       clear HA
       simp only [seal_Pack.l0] at H
       by_cases c10:x30_1 < (l0.length:Int)
       ·rw [if_pos c10] at H
        have c10b0:decide (x30_1 < (l0.length:Int))=true:=decide_eq_true c10
        clear c10
        by_cases c11:0≤x30_1
        ·rw [if_pos c11] at H
         have c11b0:decide (0≤x30_1)=true:=decide_eq_true c11
         clear c11
         by_cases c12:x30_1 < (l0.length:Int)
         ·rw [if_pos c12] at H
          have c12b0:decide (x30_1 < (l0.length:Int))=true:=decide_eq_true c12
          clear c12
          by_cases c13:x30_1 < (l1.length:Int)
          ·rw [if_pos c13] at H
           have c13b0:decide (x30_1 < (l1.length:Int))=true:=decide_eq_true c13
           clear c13
           replace H:=Option.bind_eq_some_iff.mp H
           obtain ⟨t423,A140,H⟩:=H
           replace H:(if t423 > (rd l0 x30_1) then (some (([]:List Int),1)) else (seal_Pack.l1 k1 l1 x8_1 x9_1 x30_1 (rd l0 x30_1) l0 (l0.length:Int) x30_1 (rd l0 x30_1) 0))=some (r1,r2):=H
           have A14:=Aside0.mk A140
           clear A140
           by_cases c15:t423 > (rd l0 x30_1)
           ·rw [if_pos c15] at H
            have c15b0:decide ((rd l0 x30_1) < t423)=true:=decide_eq_true c15
            clear c15
            simp only [Option.some.injEq,Prod.mk.injEq] at H
            obtain ⟨rfl,rfl⟩:=H
            have p421:0≤(x30_1:Int):=of_decide_eq_true (by first|(with_reducible assumption)|assumption)
            have q421:x30_1 < (l0.length:Int):=of_decide_eq_true (by first|(with_reducible assumption)|assumption)
            obtain ⟨ad421,e421,hx421_0⟩:=Kd.at_int HR0.out x30_1 p421 q421
            cases e421
            replace hx421_0:=(HB.out.cell (World.block_lt_of_cell? w _ hx421_0)).trans hx421_0
            replace p421:=eq_true p421
            replace q421:=eq_true q421
            have p422:0≤(x30_1:Int):=of_decide_eq_true (by first|(with_reducible assumption)|assumption)
            have q422:x30_1 < (l1.length:Int):=of_decide_eq_true (by first|(with_reducible assumption)|assumption)
            obtain ⟨ad422,e422,hx422_0⟩:=Kd.at_int HR1.out x30_1 p422 q422
            cases e422
            replace hx422_0:=(HB.out.cell (World.block_lt_of_cell? w _ hx422_0)).trans hx422_0
            replace p422:=eq_true p422
            replace q422:=eq_true q422
            go_wp2_with (first|((with_reducible refine gate_callee (f:=62) rfl ?_);refine goesL_ (some 39) rfl rfl Try.func62 (by kernel_rfl) rfl #[.int .u64 (rd l1 x30_1)] rfl (by (try simp only [List.map_toArray,List.map_cons,List.map_nil]);first|done|rfl|(simp only [List.length_drop,List.length_take];rfl)) ?_;(with_reducible refine (bits_Len64.calls k1 (rd l1 x30_1) t423 _ A14.out).mono ?_);rintro e w' ⟨rfl,⟨nd,rfl⟩⟩;refine ⟨_,rfl,?_⟩))
            go_ret2
            exact ⟨_,by first|rfl|(simp [errW_none,errW_some] <;> rfl)|(simp [*,errW_none,errW_some] <;> rfl),by first|exact Kd.R_nil _ _ _ _ _|exact Kd.N_nil _ _ _ _ _|exact Kd.V_nil _ _ _ _ _|exact Kd.Q_nil _ _ _ _ _|exact Kd.S_nil _ _ _ _ _,by repeat (first|(with_reducible first|exact HB.out|apply below_alloc|apply pw_below_drewN|apply below_drew1)|exact HB.out)⟩
           ·rw [if_neg c15] at H
            have c15b0:decide ((rd l0 x30_1) < t423)=false:=decide_eq_false c15
            clear c15
            have H':=Aside0.mk H
            clear H
            have p421:0≤(x30_1:Int):=of_decide_eq_true (by first|(with_reducible assumption)|assumption)
            have q421:x30_1 < (l0.length:Int):=of_decide_eq_true (by first|(with_reducible assumption)|assumption)
            obtain ⟨ad421,e421,hx421_0⟩:=Kd.at_int HR0.out x30_1 p421 q421
            cases e421
            replace hx421_0:=(HB.out.cell (World.block_lt_of_cell? w _ hx421_0)).trans hx421_0
            replace p421:=eq_true p421
            replace q421:=eq_true q421
            have p422:0≤(x30_1:Int):=of_decide_eq_true (by first|(with_reducible assumption)|assumption)
            have q422:x30_1 < (l1.length:Int):=of_decide_eq_true (by first|(with_reducible assumption)|assumption)
            obtain ⟨ad422,e422,hx422_0⟩:=Kd.at_int HR1.out x30_1 p422 q422
            cases e422
            replace hx422_0:=(HB.out.cell (World.block_lt_of_cell? w _ hx422_0)).trans hx422_0
            replace p422:=eq_true p422
            replace q422:=eq_true q422
            go_wp2_with (first|((with_reducible refine gate_callee (f:=62) rfl ?_);refine goesL_ (some 39) rfl rfl Try.func62 (by kernel_rfl) rfl #[.int .u64 (rd l1 x30_1)] rfl (by (try simp only [List.map_toArray,List.map_cons,List.map_nil]);first|done|rfl|(simp only [List.length_drop,List.length_take];rfl)) ?_;(with_reducible refine (bits_Len64.calls k1 (rd l1 x30_1) t423 _ A14.out).mono ?_);rintro e w' ⟨rfl,⟨nd,rfl⟩⟩;refine ⟨_,rfl,?_⟩))
            go_loopg [9,43] k1 (fun kq v9 v43 w'=>∃ (x8_2:List Int) (x9_2:Int) (x43_2:Int),v9=.int .i64 x9_2∧v43=.int .i64 x43_2∧Aside0 (seal_Pack.l1 kq l1 x8_2 x9_2 x30_1 (rd l0 x30_1) l0 (l0.length:Int) x30_1 (rd l0 x30_1) x43_2=some (r1,r2))∧Aside0 (kq≤k1)∧Aside0 (Kd.R (Kd.int .u8) 5 w' w.heap.size (fun _=>True) v419 x8_2)∧Aside0 (Below w.heap.size w w'))
            case atStart=>exact ⟨(x8_1),(x9_1),(0),(by first|rfl|(simp;done)|(simp [*];done)),(by first|rfl|(simp;done)|(simp [*];done)),H',⟨Nat.le_refl _⟩,⟨by (with_reducible repeat (first|apply Kd.R_alloc|apply Kd.R_drewN|apply Kd.R_drew));exact HO_8.out⟩,⟨by repeat (first|(with_reducible first|exact HB.out|apply below_alloc|apply pw_below_drewN|apply below_drew1)|exact HB.out)⟩⟩
            case round =>
             clear H'
             try clear c1
             try clear p2
             try clear c4
             try clear c4b0
             try clear c4b1
             try clear p4
             try clear q4
             try clear hx4
             try clear c5
             try clear c5b0
             try clear c5b1
             try clear c5b2
             try clear c6
             try clear c6b0
             try clear c6b1
             try clear c7
             try clear c7b0
             try clear c7b1
             try clear c10
             try clear c10b0
             try clear c11
             try clear c11b0
             try clear c12
             try clear c12b0
             try clear c13
             try clear c13b0
             try clear c15
             try clear c15b0
             try clear hx421_0
             try clear hx422_0
             try clear p2
             try clear p421
             try clear p422
             try clear q421
             try clear q422
             obtain ⟨x8_2,x9_2,x43_2,rfl,rfl,HA,HK2,HO_8,HB⟩:=hrel
             cases gk with
             | zero=>exact absurd HA.out (by simp [seal_Pack.l1])
             | succ k2 =>
              have H:=HA.out
              clear HA
              simp only [seal_Pack.l1] at H
              by_cases c16:x43_2 < (rd l0 x30_1)
              ·rw [if_pos c16] at H
               have c16b0:decide (x43_2 < (rd l0 x30_1))=true:=decide_eq_true c16
               clear c16
               obtain ⟨ji17,hji17⟩:∃ j_:Int,(wrap64 (Int.tdiv x9_2 8))=j_:=⟨_,rfl⟩
               replace H:(if 0≤(ji17) then (if (ji17) < (x8_2.length:Int) then (if 0≤x30_1 then (if x30_1 < (l1.length:Int) then (if 0≤(wrap64 ((wrap64 ((rd l0 x30_1) - 1)) - x43_2)) then (if 0≤(wrap64 (7 - (Int.tmod x9_2 8))) then (seal_Pack.l1 k2 l1 (x8_2.set ((ji17):Int).toNat (Go.bits .or .u8 (rd x8_2 (ji17)) (shl .u8 ((Go.bits .and .u64 (shr .u64 (rd l1 x30_1) (wrap64 ((wrap64 ((rd l0 x30_1) - 1)) - x43_2))) 1) % 256) (wrap64 (7 - (Int.tmod x9_2 8)))))) (wrap64 (x9_2 + 1)) x30_1 (rd l0 x30_1) l0 (l0.length:Int) x30_1 (rd l0 x30_1) (wrap64 (x43_2 + 1))) else (none)) else (none)) else (none)) else (none)) else (none)) else (none))=some (r1,r2):=by first|(rw [hji17] at H;exact H)|(simp only [hji17] at H ⊢;exact H)
               have hji17w:(IntKind.i64.wrap (Int.tdiv x9_2 8))=ji17:=(i64_w _).trans hji17
               by_cases c18:0≤(ji17)
               ·rw [if_pos c18] at H
                have c18b0:decide (0≤(ji17))=true:=decide_eq_true c18
                clear c18
                by_cases c19:(ji17) < (x8_2.length:Int)
                ·rw [if_pos c19] at H
                 have c19b0:decide ((ji17) < (x8_2.length:Int))=true:=decide_eq_true c19
                 clear c19
                 by_cases c20:0≤x30_1
                 ·rw [if_pos c20] at H
                  have c20b0:decide (0≤x30_1)=true:=decide_eq_true c20
                  clear c20
                  by_cases c21:x30_1 < (l1.length:Int)
                  ·rw [if_pos c21] at H
                   have c21b0:decide (x30_1 < (l1.length:Int))=true:=decide_eq_true c21
                   clear c21
                   obtain ⟨ji22,hji22⟩:∃ j_:Int,(wrap64 ((wrap64 ((rd l0 x30_1) - 1)) - x43_2))=j_:=⟨_,rfl⟩
                   replace H:(if 0≤(ji22) then (if 0≤(wrap64 (7 - (Int.tmod x9_2 8))) then (seal_Pack.l1 k2 l1 (x8_2.set ((ji17):Int).toNat (Go.bits .or .u8 (rd x8_2 (ji17)) (shl .u8 ((Go.bits .and .u64 (shr .u64 (rd l1 x30_1) (ji22)) 1) % 256) (wrap64 (7 - (Int.tmod x9_2 8)))))) (wrap64 (x9_2 + 1)) x30_1 (rd l0 x30_1) l0 (l0.length:Int) x30_1 (rd l0 x30_1) (wrap64 (x43_2 + 1))) else (none)) else (none))=some (r1,r2):=by first|(rw [hji22] at H;exact H)|(simp only [hji22] at H ⊢;exact H)
                   have hji22w:(IntKind.i64.wrap ((wrap64 ((rd l0 x30_1) - 1)) - x43_2))=ji22:=(i64_w _).trans hji22
                   by_cases c23:0≤(ji22)
                   ·rw [if_pos c23] at H
                    have c23b0:=eq_true c23
                    have c23b1:decide (0≤(ji22))=true:=decide_eq_true c23
                    clear c23
                    obtain ⟨ji24,hji24⟩:∃ j_:Int,(shr .u64 (rd l1 x30_1) (ji22))=j_:=⟨_,rfl⟩
                    replace H:(if 0≤(wrap64 (7 - (Int.tmod x9_2 8))) then (seal_Pack.l1 k2 l1 (x8_2.set ((ji17):Int).toNat (Go.bits .or .u8 (rd x8_2 (ji17)) (shl .u8 ((Go.bits .and .u64 (ji24) 1) % 256) (wrap64 (7 - (Int.tmod x9_2 8)))))) (wrap64 (x9_2 + 1)) x30_1 (rd l0 x30_1) l0 (l0.length:Int) x30_1 (rd l0 x30_1) (wrap64 (x43_2 + 1))) else (none))=some (r1,r2):=by first|(rw [hji24] at H;exact H)|(simp only [hji24] at H ⊢;exact H)
                    have hji24_:((rd l1 x30_1) / 2 ^ min (ji22).toNat 64)=ji24:=hji24
                    have hji24z:(ji22)≤64 → ((rd l1 x30_1) / 2 ^ (ji22).toNat)=ji24:=shr_small hji24
                    obtain ⟨ji25,hji25⟩:∃ j_:Int,(wrap64 (7 - (Int.tmod x9_2 8)))=j_:=⟨_,rfl⟩
                    replace H:(if 0≤(ji25) then (seal_Pack.l1 k2 l1 (x8_2.set ((ji17):Int).toNat (Go.bits .or .u8 (rd x8_2 (ji17)) (shl .u8 ((Go.bits .and .u64 (ji24) 1) % 256) (ji25)))) (wrap64 (x9_2 + 1)) x30_1 (rd l0 x30_1) l0 (l0.length:Int) x30_1 (rd l0 x30_1) (wrap64 (x43_2 + 1))) else (none))=some (r1,r2):=by first|(rw [hji25] at H;exact H)|(simp only [hji25] at H ⊢;exact H)
                    have hji25w:(IntKind.i64.wrap (7 - (Int.tmod x9_2 8)))=ji25:=(i64_w _).trans hji25
                    by_cases c26:0≤(ji25)
                    ·rw [if_pos c26] at H
                     have c26b0:=eq_true c26
                     have c26b1:decide (0≤(ji25))=true:=decide_eq_true c26
                     clear c26
                     obtain ⟨ji27,hji27⟩:∃ j_:Int,(shl .u8 ((Go.bits .and .u64 (ji24) 1) % 256) (ji25))=j_:=⟨_,rfl⟩
                     replace H:(seal_Pack.l1 k2 l1 (x8_2.set ((ji17):Int).toNat (Go.bits .or .u8 (rd x8_2 (ji17)) (ji27))) (wrap64 (x9_2 + 1)) x30_1 (rd l0 x30_1) l0 (l0.length:Int) x30_1 (rd l0 x30_1) (wrap64 (x43_2 + 1)))=some (r1,r2):=by first|(rw [hji27] at H;exact H)|(simp only [hji27] at H ⊢;exact H)
                     have hji27_:(IntKind.u8.wrap (((Go.bits .and .u64 (ji24) 1) % 256) * 2 ^ min (ji25).toNat 8))=ji27:=hji27
                     have hji27z:(ji25)≤8 → (IntKind.u8.wrap (((Go.bits .and .u64 (ji24) 1) % 256) * 2 ^ (ji25).toNat))=ji27:=shl_small hji27
                     have hji27m:(((Go.bits .and .u64 (ji24) 1) % 256) * 2 ^ min (ji25).toNat 8) % 256=ji27:=(IntKind.wrap_u8 _).symm.trans hji27_
                     have hji27n:(ji25)≤8 → (((Go.bits .and .u64 (ji24) 1) % 256) * 2 ^ (ji25).toNat) % 256=ji27:=fun hle_=>(IntKind.wrap_u8 _).symm.trans (hji27z hle_)
                     obtain ⟨y426,hy426⟩:∃ y_:List Int,y_=(x8_2.set ((ji17):Int).toNat (Go.bits .or .u8 (rd x8_2 (ji17)) (ji27))):=⟨_,rfl⟩
                     replace H:(seal_Pack.l1 k2 l1 y426 (wrap64 (x9_2 + 1)) x30_1 (rd l0 x30_1) l0 (l0.length:Int) x30_1 (rd l0 x30_1) (wrap64 (x43_2 + 1)))=some (r1,r2):=by first|(rw [hy426];with_reducible exact H)|(have H2_:=(Option.bind_some _ _).symm.trans H;rw [hy426];with_reducible exact H2_)|(have H2_:=(Option.bind_some _ _).symm.trans H;with_reducible exact H2_)|with_reducible exact H|(rw [hy426];exact H)|exact H
                     have Ny426:=Aside0.mk hy426
                     clear hy426
                     have H':=Aside0.mk H
                     clear H
                     try go_wp2
                     have n0_:=Aside0.mk (Kd.R_drew HO_8.out)
                     have n1_:=Aside0.mk (below_drew1 HB.out)
                     clear HO_8 HB
                     have HO_8:=n0_
                     have HB:=n1_
                     clear n0_ n1_
                     obtain ⟨Ao30,co30,eo30⟩:=Kd.R_slice HO_8.out
                     (first|subst eo30|(injection eo30 with f1_ f2_ f3_;have f4_:=f1_.symm;have f5_:=f3_.symm;clear f1_ f2_ f3_;subst f4_;subst f5_))
                     have p424:0≤((ji17):Int):=of_decide_eq_true (by first|(with_reducible assumption)|assumption)
                     have q424:(ji17) < (x8_2.length:Int):=of_decide_eq_true (by first|(with_reducible assumption)|assumption)
                     obtain ⟨ad424,e424,hx424_0⟩:=Kd.at_int (Kd.R_reads' HO_8.out).2.2 (ji17) p424 q424
                     cases e424
                     replace p424:=eq_true p424
                     replace q424:=eq_true q424
                     have p425:0≤(x30_1:Int):=of_decide_eq_true (by first|(with_reducible assumption)|assumption)
                     have q425:x30_1 < (l1.length:Int):=of_decide_eq_true (by first|(with_reducible assumption)|assumption)
                     obtain ⟨ad425,e425,hx425_0⟩:=Kd.at_int HR1.out x30_1 p425 q425
                     have hw425_0:=hx425_0
                     obtain rfl:ad422=ad425:=(by injection e425)
                     replace hx425_0:=(HB.out.cell (World.block_lt_of_cell? w _ hx425_0)).trans hx425_0
                     replace p425:=eq_true p425
                     replace q425:=eq_true q425
                     have p28:0≤((ji17):Int):=of_decide_eq_true (by first|(with_reducible assumption)|assumption)
                     have q28:((ji17):Int) < ((x8_2.length:Int):Int):=of_decide_eq_true (by first|(with_reducible assumption)|assumption)
                     obtain ⟨go28,co28,eo28,gb28,gl28,cl28,HG28⟩:=Kd.R_form HO_8.out (by omega)
                     (first|cases eo28|(injection eo28 with ea_ en_ ec_;(first|subst ea_|(injection ea_ with ea_;subst ea_));subst ec_;clear en_))
                     have GB28:=Aside0.mk gb28
                     have GG28:=Aside0.mk HG28
                     clear gb28 gl28 HG28
                     (first|simp only [add_plain] at hx424_0|skip)
                     obtain ⟨hx28_0,hf28_0⟩:=Kd.R_celln 0 HO_8.out ((ji17):Int) p28 q28
                     replace p28:=eq_true p28
                     replace q28:=eq_true q28
                     have HP31:=Kd.R_putn HO_8.out ((ji17):Int) (Go.bits .or .u8 (rd x8_2 (ji17)) (ji27))
                     rw [← Ny426.out] at HP31
                     have HQ31:=Aside0.mk HP31
                     clear HP31
                     refine start_ (n:=23) (S:=fun w'=>w'.cell? ⟨go28,((ji17)).toNat,none⟩=some (.int .u8 (rd x8_2 (ji17)))∧w'.cell? (ad422.add (x30_1).toNat)=some (.int .u64 (rd l1 x30_1))) (ds:=[22]) #[false,false,false,false,false,false,false,false,false,false,false,false,false,false,false,false,false,false,false,false,false,false,false] (by kernel_rfl) rfl rfl ⟨hx424_0,((HB.out.cell (World.block_lt_of_cell? w _ hw425_0)).trans hw425_0)⟩ (fun hHeld=>?_);refine with_tabW seal_Pack.tab16 seal_Pack.bits16 (fun HT_ HW_=>?_)
                     generalize wr.drew=w29 at HO_8 HB GG28 HQ31 hf28_0 hx28_0 hx424_0 hx425_0 hHeld ⊢
                     refine pure_ (i:=0) (N:=some 46) (v:=?_) (a':=?_) #[true,false,false,false,false,false,false,false,false,false,false,false,false,false,false,false,false,false,false,false,false,false,false] rfl rfl (any_of HT_.out (by kernel_rfl)) (fun _ _ _ h=>h) (Or.inl ⟨by rfl,?_⟩) ?_ ?_
                     rotate_left
                     ·intro w'
                      go_simp
                      with_reducible rfl
                     rotate_left
                     ·simp only [Act.put,List.setIfInBounds_toArray,List.set_cons_zero,List.set_cons_succ,i64_w,i32_w]
                      rfl
                     refine pure_ (i:=1) (N:=some 47) (v:=?_) (a':=?_) #[true,true,false,false,false,false,false,false,false,false,false,false,false,false,false,false,false,false,false,false,false,false,false] rfl rfl (any_of HT_.out (by kernel_rfl)) (fun _ _ _ h=>h) (Or.inl ⟨by rfl,?_⟩) ?_ ?_
                     rotate_left
                     ·intro w'
                      go_simp
                      with_reducible rfl
                     rotate_left
                     ·simp only [Act.put,List.setIfInBounds_toArray,List.set_cons_zero,List.set_cons_succ,i64_w,i32_w]
                      rfl
                     refine pure_ (i:=2) (N:=some 48) (v:=?_) (a':=?_) #[true,true,true,false,false,false,false,false,false,false,false,false,false,false,false,false,false,false,false,false,false,false,false] rfl rfl (any_of HT_.out (by kernel_rfl)) (fun _ _ _ h=>h) (Or.inl ⟨by rfl,?_⟩) ?_ ?_
                     rotate_left
                     ·intro w'
                      go_simp
                      with_reducible rfl
                     rotate_left
                     ·simp only [Act.put,List.setIfInBounds_toArray,List.set_cons_zero,List.set_cons_succ,i64_w,i32_w]
                      rfl
                     refine pure_ (i:=3) (N:=some 49) (v:=?_) (a':=?_) #[true,true,true,true,false,false,false,false,false,false,false,false,false,false,false,false,false,false,false,false,false,false,false] rfl rfl (any_of HT_.out (by kernel_rfl)) (fun _ _ _ h=>h) (Or.inl ⟨by rfl,?_⟩) ?_ ?_
                     rotate_left
                     ·intro w'
                      go_simp
                      with_reducible rfl
                     rotate_left
                     ·simp only [Act.put,List.setIfInBounds_toArray,List.set_cons_zero,List.set_cons_succ,i64_w,i32_w]
                      rfl
                     refine pure_ (i:=5) (N:=some 51) (v:=?_) (a':=?_) #[true,true,true,true,false,true,false,false,false,false,false,false,false,false,false,false,false,false,false,false,false,false,false] rfl rfl (any_of HT_.out (by kernel_rfl)) (fun _ _ _ h=>h) (Or.inl ⟨by rfl,?_⟩) ?_ ?_
                     rotate_left
                     ·intro w'
                      go_simp
                      with_reducible rfl
                     rotate_left
                     ·simp only [Act.put,List.setIfInBounds_toArray,List.set_cons_zero,List.set_cons_succ,i64_w,i32_w]
                      rfl
                     refine pure_ (i:=6) (N:=some 52) (v:=?_) (a':=?_) #[true,true,true,true,false,true,true,false,false,false,false,false,false,false,false,false,false,false,false,false,false,false,false] rfl rfl (any_of HT_.out (by kernel_rfl)) (fun _ _ _ h=>h) (Or.inl ⟨by rfl,?_⟩) ?_ ?_
                     rotate_left
                     ·intro w'
                      go_simp
                      with_reducible rfl
                     rotate_left
                     ·simp only [Act.put,List.setIfInBounds_toArray,List.set_cons_zero,List.set_cons_succ,i64_w,i32_w]
                      rfl
                     refine pure_ (i:=7) (N:=some 53) (v:=?_) (a':=?_) #[true,true,true,true,false,true,true,true,false,false,false,false,false,false,false,false,false,false,false,false,false,false,false] rfl rfl (any_of HT_.out (by kernel_rfl)) (fun _ _ _ h=>h) (Or.inl ⟨by rfl,?_⟩) ?_ ?_
                     rotate_left
                     ·intro w'
                      go_simp
                      with_reducible rfl
                     rotate_left
                     ·simp only [Act.put,List.setIfInBounds_toArray,List.set_cons_zero,List.set_cons_succ,i64_w,i32_w]
                      rfl
                     refine pure_ (i:=9) (N:=some 55) (v:=?_) (a':=?_) #[true,true,true,true,false,true,true,true,false,true,false,false,false,false,false,false,false,false,false,false,false,false,false] rfl rfl (any_of HT_.out (by kernel_rfl)) (fun _ _ _ h=>h) (Or.inl ⟨by rfl,?_⟩) ?_ ?_
                     rotate_left
                     ·intro w'
                      go_simp
                      with_reducible rfl
                     rotate_left
                     ·simp only [Act.put,List.setIfInBounds_toArray,List.set_cons_zero,List.set_cons_succ,i64_w,i32_w]
                      rfl
                     refine pure_ (i:=10) (N:=some 56) (v:=?_) (a':=?_) #[true,true,true,true,false,true,true,true,false,true,true,false,false,false,false,false,false,false,false,false,false,false,false] rfl rfl (any_of HT_.out (by kernel_rfl)) (fun _ _ _ h=>h) (Or.inl ⟨by rfl,?_⟩) ?_ ?_
                     rotate_left
                     ·intro w'
                      go_simp
                      with_reducible rfl
                     rotate_left
                     ·simp only [Act.put,List.setIfInBounds_toArray,List.set_cons_zero,List.set_cons_succ,i64_w,i32_w]
                      rfl
                     refine pure_ (i:=11) (N:=some 57) (v:=?_) (a':=?_) #[true,true,true,true,false,true,true,true,false,true,true,true,false,false,false,false,false,false,false,false,false,false,false] rfl rfl (any_of HT_.out (by kernel_rfl)) (fun _ _ _ h=>h) (Or.inl ⟨by rfl,?_⟩) ?_ ?_
                     rotate_left
                     ·intro w'
                      go_simp
                      with_reducible rfl
                     rotate_left
                     ·simp only [Act.put,List.setIfInBounds_toArray,List.set_cons_zero,List.set_cons_succ,i64_w,i32_w]
                      rfl
                     refine pure_ (i:=12) (N:=some 58) (v:=?_) (a':=?_) #[true,true,true,true,false,true,true,true,false,true,true,true,true,false,false,false,false,false,false,false,false,false,false] rfl rfl (any_of HT_.out (by kernel_rfl)) (fun _ _ _ h=>h) (Or.inl ⟨by rfl,?_⟩) ?_ ?_
                     rotate_left
                     ·intro w'
                      go_simp
                      with_reducible rfl
                     rotate_left
                     ·simp only [Act.put,List.setIfInBounds_toArray,List.set_cons_zero,List.set_cons_succ,i64_w,i32_w]
                      rfl
                     refine pure_ (i:=16) (N:=some 62) (v:=?_) (a':=?_) #[true,true,true,true,false,true,true,true,false,true,true,true,true,false,false,false,true,false,false,false,false,false,false] rfl rfl (any_of HT_.out (by kernel_rfl)) (fun _ _ _ h=>h) (Or.inl ⟨by rfl,?_⟩) ?_ ?_
                     rotate_left
                     ·intro w'
                      go_simp
                      with_reducible rfl
                     rotate_left
                     ·simp only [Act.put,List.setIfInBounds_toArray,List.set_cons_zero,List.set_cons_succ,i64_w,i32_w]
                      rfl
                     refine pure_ (i:=17) (N:=some 63) (v:=?_) (a':=?_) #[true,true,true,true,false,true,true,true,false,true,true,true,true,false,false,false,true,true,false,false,false,false,false] rfl rfl (any_of HT_.out (by kernel_rfl)) (fun _ _ _ h=>h) (Or.inl ⟨by rfl,?_⟩) ?_ ?_
                     rotate_left
                     ·intro w'
                      go_simp
                      with_reducible rfl
                     rotate_left
                     ·simp only [Act.put,List.setIfInBounds_toArray,List.set_cons_zero,List.set_cons_succ,i64_w,i32_w]
                      rfl
                     refine pure_ (i:=18) (N:=some 64) (v:=?_) (a':=?_) #[true,true,true,true,false,true,true,true,false,true,true,true,true,false,false,false,true,true,true,false,false,false,false] rfl rfl (any_of HT_.out (by kernel_rfl)) (fun _ _ _ h=>h) (Or.inl ⟨by rfl,?_⟩) ?_ ?_
                     rotate_left
                     ·intro w'
                      go_simp
                      with_reducible rfl
                     rotate_left
                     ·simp only [Act.put,List.setIfInBounds_toArray,List.set_cons_zero,List.set_cons_succ,i64_w,i32_w]
                      rfl
                     refine take_ (i:=4) (N:=some 50) (v:=?_) (a':=?_) #[true,true,true,true,true,true,true,true,false,true,true,true,true,false,false,false,true,true,true,false,false,false,false] rfl rfl (take_ofW HT_.out HW_.out (by kernel_rfl)) (fun _ _ _ h=>h) (Or.inl ⟨by rfl,?_⟩) hHeld ?_ ?_
                     rotate_left
                     ·rintro w' ⟨s0,s1⟩
                      go_simp
                      with_reducible rfl
                     rotate_left
                     ·simp only [Act.put,List.setIfInBounds_toArray,List.set_cons_zero,List.set_cons_succ,i64_w,i32_w]
                      rfl
                     refine take_ (i:=8) (N:=some 54) (v:=?_) (a':=?_) #[true,true,true,true,true,true,true,true,true,true,true,true,true,false,false,false,true,true,true,false,false,false,false] rfl rfl (take_ofW HT_.out HW_.out (by kernel_rfl)) (fun _ _ _ h=>h) (Or.inl ⟨by rfl,?_⟩) hHeld ?_ ?_
                     rotate_left
                     ·rintro w' ⟨s0,s1⟩
                      go_simp
                      with_reducible rfl
                     rotate_left
                     ·simp only [Act.put,List.setIfInBounds_toArray,List.set_cons_zero,List.set_cons_succ,i64_w,i32_w]
                      rfl
                     refine pure_ (i:=13) (N:=some 59) (v:=?_) (a':=?_) #[true,true,true,true,true,true,true,true,true,true,true,true,true,true,false,false,true,true,true,false,false,false,false] rfl rfl (any_of HT_.out (by kernel_rfl)) (fun _ _ _ h=>h) (Or.inl ⟨by rfl,?_⟩) ?_ ?_
                     rotate_left
                     ·intro w'
                      go_simp
                      with_reducible rfl
                     rotate_left
                     ·simp only [Act.put,List.setIfInBounds_toArray,List.set_cons_zero,List.set_cons_succ,i64_w,i32_w]
                      rfl
                     refine pure_ (i:=14) (N:=some 60) (v:=?_) (a':=?_) #[true,true,true,true,true,true,true,true,true,true,true,true,true,true,true,false,true,true,true,false,false,false,false] rfl rfl (any_of HT_.out (by kernel_rfl)) (fun _ _ _ h=>h) (Or.inl ⟨by rfl,?_⟩) ?_ ?_
                     rotate_left
                     ·intro w'
                      go_simp
                      with_reducible rfl
                     rotate_left
                     ·simp only [Act.put,List.setIfInBounds_toArray,List.set_cons_zero,List.set_cons_succ,i64_w,i32_w]
                      rfl
                     refine pure_ (i:=15) (N:=some 61) (v:=?_) (a':=?_) #[true,true,true,true,true,true,true,true,true,true,true,true,true,true,true,true,true,true,true,false,false,false,false] rfl rfl (any_of HT_.out (by kernel_rfl)) (fun _ _ _ h=>h) (Or.inl ⟨by rfl,?_⟩) ?_ ?_
                     rotate_left
                     ·intro w'
                      go_simp
                      with_reducible rfl
                     rotate_left
                     ·simp only [Act.put,List.setIfInBounds_toArray,List.set_cons_zero,List.set_cons_succ,i64_w,i32_w]
                      rfl
                     refine pure_ (i:=19) (N:=some 65) (v:=?_) (a':=?_) #[true,true,true,true,true,true,true,true,true,true,true,true,true,true,true,true,true,true,true,true,false,false,false] rfl rfl (any_of HT_.out (by kernel_rfl)) (fun _ _ _ h=>h) (Or.inl ⟨by rfl,?_⟩) ?_ ?_
                     rotate_left
                     ·intro w'
                      go_simp
                      with_reducible rfl
                     rotate_left
                     ·simp only [Act.put,List.setIfInBounds_toArray,List.set_cons_zero,List.set_cons_succ,i64_w,i32_w]
                      rfl
                     refine pure_ (i:=20) (N:=some 66) (v:=?_) (a':=?_) #[true,true,true,true,true,true,true,true,true,true,true,true,true,true,true,true,true,true,true,true,true,false,false] rfl rfl (any_of HT_.out (by kernel_rfl)) (fun _ _ _ h=>h) (Or.inl ⟨by rfl,?_⟩) ?_ ?_
                     rotate_left
                     ·intro w'
                      go_simp
                      with_reducible rfl
                     rotate_left
                     ·simp only [Act.put,List.setIfInBounds_toArray,List.set_cons_zero,List.set_cons_succ,i64_w,i32_w]
                      rfl
                     refine pure_ (i:=21) (N:=some 67) (v:=?_) (a':=?_) #[true,true,true,true,true,true,true,true,true,true,true,true,true,true,true,true,true,true,true,true,true,true,false] rfl rfl (any_of HT_.out (by kernel_rfl)) (fun _ _ _ h=>h) (Or.inl ⟨by rfl,?_⟩) ?_ ?_
                     rotate_left
                     ·intro w'
                      go_simp
                      with_reducible rfl
                     rotate_left
                     ·simp only [Act.put,List.setIfInBounds_toArray,List.set_cons_zero,List.set_cons_succ,i64_w,i32_w]
                      rfl
                     refine last_ (i:=22) (N:=none) #[true,true,true,true,true,true,true,true,true,true,true,true,true,true,true,true,true,true,true,true,true,true,true] rfl rfl (one_of HT_.out (by kernel_rfl)) (by decide) (fun K hK=>?_)
                     refine skip_ (w1:=?_) (by rfl) rfl ?_ ?_
                     rotate_left
                     ·go_simp
                      rfl
                     refine hK.out _ _ ?_
                     clear hK K
                     refine done_ (done_of HT_.out (by kernel_rfl)) ?_
                     try go_wp2
                     go_roundg k2
                     case measure=>have:=HK1.out;have:=HK2.out;omega
                     case rel=>exact ⟨(y426),(wrap64 (x9_2 + 1)),(wrap64 (x43_2 + 1)),(by first|rfl|(simp;done)|(simp [*];done)),(by first|rfl|(simp;done)|(simp [*];done)),H',⟨by have:=HK1.out;have:=HK2.out;omega⟩,⟨by (with_reducible repeat (first|apply Kd.R_alloc|apply Kd.R_drewN|apply Kd.R_drew));exact HQ31.out⟩,⟨by repeat (first|(with_reducible first|exact HB.out|apply below_alloc|apply pw_below_drewN|apply below_drew1|refine below_set ?_ GB28.out)|exact HB.out)⟩⟩
                    ·rw [if_neg c26] at H
                     exact absurd H (by simp)
                   ·rw [if_neg c23] at H
                    exact absurd H (by simp)
                  ·rw [if_neg c21] at H
                   exact absurd H (by simp)
                 ·rw [if_neg c20] at H
                  exact absurd H (by simp)
                ·rw [if_neg c19] at H
                 exact absurd H (by simp)
               ·rw [if_neg c18] at H
                exact absurd H (by simp)
              ·rw [if_neg c16] at H
               have c16b0:decide (x43_2 < (rd l0 x30_1))=false:=decide_eq_false c16
               clear c16
               have H':=Aside0.mk H
               clear H
               go_wp2
               go_roundg k2
               case measure=>have:=HK1.out;have:=HK2.out;omega
               case rel=>exact ⟨(x8_2),(x9_2),(wrap64 (x30_1 + 1)),(by first|rfl|(simp;done)|(simp [*];done)),(by first|rfl|(simp;done)|(simp [*];done)),H',⟨by have:=HK1.out;have:=HK2.out;omega⟩,⟨by (with_reducible repeat (first|apply Kd.R_alloc|apply Kd.R_drewN|apply Kd.R_drew));exact HO_8.out⟩,⟨by repeat (first|(with_reducible first|exact HB.out|apply below_alloc|apply pw_below_drewN|apply below_drew1)|exact HB.out)⟩⟩
          ·rw [if_neg c13] at H
           exact absurd H (by simp)
         ·rw [if_neg c12] at H
          exact absurd H (by simp)
        ·rw [if_neg c11] at H
         exact absurd H (by simp)
       ·rw [if_neg c10] at H
        have c10b0:decide (x30_1 < (l0.length:Int))=false:=decide_eq_false c10
        clear c10
        simp only [Option.some.injEq,Prod.mk.injEq] at H
        obtain ⟨rfl,rfl⟩:=H
        go_wp2
        go_ret2
        exact ⟨_,by first|rfl|(simp [errW_none,errW_some] <;> rfl)|(simp [*,errW_none,errW_some] <;> rfl),by (with_reducible repeat (first|apply Kd.R_alloc|apply Kd.R_drewN|apply Kd.R_drew));exact HO_8.out,by repeat (first|(with_reducible first|exact HB.out|apply below_alloc|apply pw_below_drewN|apply below_drew1)|exact HB.out)⟩
    ·rw [if_neg c7] at H
     exact absurd H (by simp)
   ·rw [if_neg c6] at H
    exact absurd H (by simp)
  ·rw [if_neg c5] at H
   have c5b0:((l1.length:Int) == (l0.length:Int))=false:=beq_eq_false_iff_ne.mpr c5
   have c5b1:((l1.length:Int) != (l0.length:Int))=true:=bne_iff_ne.mpr c5
   have c5b2:(l1.length == l0.length)=false:=by first|simpa using c5|(simp at c5 ⊢;omega)
   simp only [Option.some.injEq,Prod.mk.injEq] at H
   obtain ⟨rfl,rfl⟩:=H
   go_enter Try.func53,Try.ntmps53
   go_wp2_with (first|((with_reducible refine gate_callee (f:=58) rfl ?_);refine goesL_ (some 15) rfl rfl Try.func58 (by kernel_rfl) rfl #[.slice A0 l0.length c0] rfl (by (try simp only [List.map_toArray,List.map_cons,List.map_nil]);first|done|rfl|(simp only [List.length_drop,List.length_take];rfl)) ?_;(with_reducible refine (seal_Width.calls k _ _ l0 t416 t417 _ ?side1 ?side2 A3.out).mono ?_);(case side1=>repeat (first|exact HR0.out|(with_reducible refine Kd.C_alloc ?_ _)|(with_reducible refine Kd.C_drewN ?_ _)|(with_reducible refine Kd.C_drew ?_)));(case side2=>exact HC0.out);rintro e w' ⟨rfl,⟨nd,rfl⟩⟩;refine ⟨_,rfl,?_⟩))
   go_ret2
   exact ⟨_,by first|rfl|(simp [errW_none,errW_some] <;> rfl)|(simp [*,errW_none,errW_some] <;> rfl),by first|exact Kd.R_nil _ _ _ _ _|exact Kd.N_nil _ _ _ _ _|exact Kd.V_nil _ _ _ _ _|exact Kd.Q_nil _ _ _ _ _|exact Kd.S_nil _ _ _ _ _,by repeat (first|(with_reducible first|exact HB.out|apply below_alloc|apply pw_below_drewN|apply below_drew1)|exact HB.out)⟩
 ·rw [if_neg c4] at H
  have c4b0:(t417 == 0)=false:=beq_eq_false_iff_ne.mpr c4
  have c4b1:(t417 != 0)=true:=bne_iff_ne.mpr c4
  simp only [Option.some.injEq,Prod.mk.injEq] at H
  obtain ⟨rfl,rfl⟩:=H
  go_enter Try.func53,Try.ntmps53
  go_wp2_with (first|((with_reducible refine gate_callee (f:=58) rfl ?_);refine goesL_ (some 15) rfl rfl Try.func58 (by kernel_rfl) rfl #[.slice A0 l0.length c0] rfl (by (try simp only [List.map_toArray,List.map_cons,List.map_nil]);first|done|rfl|(simp only [List.length_drop,List.length_take];rfl)) ?_;(with_reducible refine (seal_Width.calls k _ _ l0 t416 t417 _ ?side1 ?side2 A3.out).mono ?_);(case side1=>repeat (first|exact HR0.out|(with_reducible refine Kd.C_alloc ?_ _)|(with_reducible refine Kd.C_drewN ?_ _)|(with_reducible refine Kd.C_drew ?_)));(case side2=>exact HC0.out);rintro e w' ⟨rfl,⟨nd,rfl⟩⟩;refine ⟨_,rfl,?_⟩))
  go_ret2
  exact ⟨_,by first|rfl|(simp [errW_none,errW_some] <;> rfl)|(simp [*,errW_none,errW_some] <;> rfl),by first|exact Kd.R_nil _ _ _ _ _|exact Kd.N_nil _ _ _ _ _|exact Kd.V_nil _ _ _ _ _|exact Kd.Q_nil _ _ _ _ _|exact Kd.S_nil _ _ _ _ _,by repeat (first|(with_reducible first|exact HB.out|apply below_alloc|apply pw_below_drewN|apply below_drew1)|exact HB.out)⟩
end Go.Proofs.Ytbdnmdmfnopihaa.Print
end
section
namespace Go.Proofs.Ytbdnmdmfnopihaa.Print
open Go.RowKit Go.Proofs.YtbdnmdmfnopihaaW.PrintWords Go.Proofs.YtbdnmdmfnopihaaW.PrintLast Go.Proofs.YtbdnmdmfnopihaaW.PrintMore
attribute [local go_sem] max2_int min2_int max_two min_two max_three min_three max_four min_four   -- for this text's walks alone
attribute [local go_sem ↓] Go.Proofs.Ytbdnmdmfnopihaa.Sem.isSome_setCell
attribute [local go_sem] Go.Instr.field Go.asAgg
set_option linter.unusedVariables false
set_option linter.unusedSimpArgs false
def layout_superWidths.f :Option (List Int):=some (([32,32,16,8,32,64]:List Int))
set_option maxHeartbeats 8000000 in
set_option maxRecDepth 100000 in
theorem layout_superWidths.calls  (r:List Int) (w:World) (h:layout_superWidths.f =some r) :
  Calls Try.prog 54 #[] w fun e w'=>∃ v0_:Value,e=.returned (v0_)∧Kd.R (Kd.int .i64) 3 w' w.heap.size (fun _=>True) v0_ r∧Below w.heap.size w w':=by
 have HB:=Aside0.mk (Below.refl w.heap.size w)
 have H:(some (([32,32,16,8,32,64]:List Int)))=some r:=h
 clear h
 obtain ⟨y427,hy427⟩:∃ y_:List Int,y_=(([32,32,16,8,32,64]:List Int)):=⟨_,rfl⟩
 replace H:(some y427)=some r:=by first|(rw [hy427];with_reducible exact H)|(have H2_:=(Option.bind_some _ _).symm.trans H;rw [hy427];with_reducible exact H2_)|(have H2_:=(Option.bind_some _ _).symm.trans H;with_reducible exact H2_)|with_reducible exact H|(rw [hy427];exact H)|exact H
 have Ny427:=Aside0.mk hy427
 clear hy427
 obtain rfl:=Option.some.inj H
 go_enter Try.func54,Try.ntmps54
 go_wp2_with (first|((with_reducible refine gate_dst (N:=1) rfl ?_);refine Kd.R_lit (Kd.int .i64) _ 3 ?hg (N:=1) ?hd (xs:=([32,32,16,8,32,64]:List Int)) (inner:=[.int .i64 32,.int .i64 32,.int .i64 16,.int .i64 8,.int .i64 32,.int .i64 64]) (ok:=fun _=>True) (okp:=fun _=>True) ?hr ?hp (fun _ hk=>hk) trivial (Below.refl _ _) (Nat.le_refl _) (by simp) ?_;(case hd=>rfl);(case hg=>rfl);(case hr=>first|(go_simp;done)|(go_simp;rfl));(case hp=>exact (Reps.one (show Kd.M (Kd.int .i64) _ _ _ 32 [.int .i64 32] from rfl) (Reps.one (show Kd.M (Kd.int .i64) _ _ _ 32 [.int .i64 32] from rfl) (Reps.one (show Kd.M (Kd.int .i64) _ _ _ 16 [.int .i64 16] from rfl) (Reps.one (show Kd.M (Kd.int .i64) _ _ _ 8 [.int .i64 8] from rfl) (Reps.one (show Kd.M (Kd.int .i64) _ _ _ 32 [.int .i64 32] from rfl) (Reps.one (show Kd.M (Kd.int .i64) _ _ _ 64 [.int .i64 64] from rfl) (Reps.none _ _))))))));intro v428 w1 ho2 hb hg_ hnew_;clear hg_ hnew_;(first|rw [← Ny427.out] at ho2|(simp only [Int.reduceToNat] at ho2;rw [← Ny427.out] at ho2));have n0_:=Aside0.mk (Kd.R_lower ho2 (below_size (by repeat (first|(with_reducible first|exact HB.out|apply below_alloc|apply pw_below_drewN|apply below_drew1)|exact HB.out))));have n1_:=Aside0.mk (below_step (by repeat (first|(with_reducible first|exact HB.out|apply below_alloc|apply pw_below_drewN|apply below_drew1)|exact HB.out)) hb);clear HB;have HO429:=n0_;have HB:=n1_;clear n0_ n1_;clear hb ho2))
 go_ret
 exact ⟨_,by first|rfl|(simp [errW_none,errW_some] <;> rfl)|(simp [*,errW_none,errW_some] <;> rfl),by (with_reducible repeat (first|apply Kd.R_alloc|apply Kd.R_drewN|apply Kd.R_drew));exact HO429.out,by repeat (first|(with_reducible first|exact HB.out|apply below_alloc|apply pw_below_drewN|apply below_drew1)|exact HB.out)⟩
def slices_Grow_byte_byte.f (l0:List Int) (a1:Int):Option (List Int):=if a1 < 0 then (none) else (if (wrap64 (a1)) > 0 then (if 0≤(wrap64 (a1)) then (if ([]:List Int).length + (wrap64 (a1):Int).toNat < 140737488355328 then ((some (([]:List Int) ++ List.replicate (wrap64 (a1):Int).toNat 0:List Int)).bind fun y430=>(if 0≤(y430.length:Int) then (some (y430.take (0:Int).toNat)) else (none))) else (none)) else (none)) else (some ([]:List Int)))
set_option maxHeartbeats 8000000 in
set_option maxRecDepth 100000 in
theorem slices_Grow_byte_byte.calls (A0:Option Addr) (c0:Nat) (l0:List Int) (a1:Int) (r:List Int) (w:World) (hr0:Kd.C (Kd.int .u8) w A0 l0.length l0) (hc0:l0.length≤c0) (h:slices_Grow_byte_byte.f l0 a1=some r) :
  Calls Try.prog 69 #[.slice none 0 0,.int .i64 a1] w fun e w'=>∃ v0_:Value,e=.returned (v0_)∧Kd.R (Kd.int .u8) 5 w' w.heap.size (fun _=>True) v0_ r∧Below w.heap.size w w':=by
 have HR0:=Aside0.mk hr0
 have HC0:=Aside0.mk hc0
 clear hr0 hc0
 have HB:=Aside0.mk (Below.refl w.heap.size w)
 have H:(if a1 < 0 then (none) else (if (wrap64 (a1)) > 0 then (if 0≤(wrap64 (a1)) then (if ([]:List Int).length + (wrap64 (a1):Int).toNat < 140737488355328 then ((some (([]:List Int) ++ List.replicate (wrap64 (a1):Int).toNat 0:List Int)).bind fun y430=>(if 0≤(y430.length:Int) then (some (y430.take (0:Int).toNat)) else (none))) else (none)) else (none)) else (some ([]:List Int))))=some r:=h
 clear h
 by_cases c3:a1 < 0
 ·rw [if_pos c3] at H
  exact absurd H (by simp)
 ·rw [if_neg c3] at H
  have c3b0:decide (a1 < 0)=false:=decide_eq_false c3
  clear c3
  by_cases c4:(wrap64 (a1)) > 0
  ·rw [if_pos c4] at H
   have c4b0:decide (0 < (wrap64 (a1)))=true:=decide_eq_true c4
   clear c4
   obtain ⟨ji5,hji5⟩:∃ j_:Int,(wrap64 (a1))=j_:=⟨_,rfl⟩
   replace H:(if 0≤(ji5) then (if ([]:List Int).length + (ji5:Int).toNat < 140737488355328 then ((some (([]:List Int) ++ List.replicate (ji5:Int).toNat 0:List Int)).bind fun y430=>(if 0≤(y430.length:Int) then (some (y430.take (0:Int).toNat)) else (none))) else (none)) else (none))=some r:=by first|(rw [hji5] at H;exact H)|(simp only [hji5] at H ⊢;exact H)
   (try rw [hji5] at c4b0)
   have hji5w:(IntKind.i64.wrap (a1))=ji5:=(i64_w _).trans hji5
   by_cases c6:0≤(ji5)
   ·rw [if_pos c6] at H
    have c6b0:=eq_true c6
    have c6b1:decide (0≤(ji5))=true:=decide_eq_true c6
    clear c6
    by_cases c7:([]:List Int).length + (ji5:Int).toNat < 140737488355328
    ·rw [if_pos c7] at H
     have LMc7:=Aside0.mk c7
     clear c7
     obtain ⟨y430,hy430⟩:∃ y_:List Int,y_=(([]:List Int) ++ List.replicate (ji5:Int).toNat 0):=⟨_,rfl⟩
     replace H:(if 0≤(y430.length:Int) then (some (y430.take (0:Int).toNat)) else (none))=some r:=by first|(rw [hy430];with_reducible exact H)|(have H2_:=(Option.bind_some _ _).symm.trans H;rw [hy430];with_reducible exact H2_)|(have H2_:=(Option.bind_some _ _).symm.trans H;with_reducible exact H2_)|with_reducible exact H|(rw [hy430];exact H)|exact H
     have Ny430:=Aside0.mk hy430
     clear hy430
     by_cases c8:0≤(y430.length:Int)
     ·rw [if_pos c8] at H
      have c8b0:=eq_true c8
      have c8b1:decide (0≤(y430.length:Int))=true:=decide_eq_true c8
      clear c8
      obtain ⟨y433,hy433⟩:∃ y_:List Int,y_=(y430.take (0:Int).toNat):=⟨_,rfl⟩
      replace H:(some y433)=some r:=by first|(rw [hy433];with_reducible exact H)|(have H2_:=(Option.bind_some _ _).symm.trans H;rw [hy433];with_reducible exact H2_)|(have H2_:=(Option.bind_some _ _).symm.trans H;with_reducible exact H2_)|with_reducible exact H|(rw [hy433];exact H)|exact H
      have Ny433:=Aside0.mk hy433
      clear hy433
      obtain rfl:=Option.some.inj H
      go_enter Try.func69,Try.ntmps69
      go_wp2_with (first|(at_builtin;refine Kd.R_append_zeros (Kd.int .u8) (w0:=w) w.heap.size rfl (.tmp 20) (.tmp 21) 48 3 5 (.int .u8 0) 1 rfl Try.underlying48 Try.underlying3 info5 rfl (by decide) (by omega) (.slice none 0 0) ([]:List Int) 0 (ji5:Int) (fun _=>True) rfl rfl rfl ?aF ?aO (of_decide_eq_true (by first|(with_reducible assumption)|assumption)) ?aB ?aS ?aL ?_;(case aB=>exact (by repeat (first|(with_reducible first|exact HB.out|apply below_alloc|apply pw_below_drewN|apply below_drew1)|exact HB.out)));(case aF=>exact (fun _ _=>trivial));(case aO=>exact ((Kd.R_nil _ _ _ _ (fun _=>True))));(case aS=>exact (below_size (by repeat (first|(with_reducible first|exact HB.out|apply below_alloc|apply pw_below_drewN|apply below_drew1)|exact HB.out))));(case aL=>have:=LMc7.out;omega);intro v431 w9 ho hb hg hat;rw [← Ny430.out] at ho;have n0_:=Aside0.mk (hb);have n1_:=Aside0.mk (ho);clear HB;have HB:=n0_;have HO432:=n1_;clear n0_ n1_;clear ho hb hg hat;obtain ⟨Ao10,co10,eo10⟩:=Kd.R_slice HO432.out;subst eo10;have q11:(0:Int)≤((y430.length:Int):Int):=of_decide_eq_true (by first|(with_reducible assumption)|assumption);obtain ⟨i011,hi011,_,hsz11,_⟩:=info_parts info5;have hcut11:=cut_to (P:=Try.prog) 48 5 .i64 Try.underlying48 hi011 Ao10 y430.length co10 0 (by omega) q11 (Kd.R_reads' HO432.out).2.1;have hr11:=Kd.R_take (m:=(0:Int).toNat) HO432.out (by omega);have hy11:y433.length=(0:Int).toNat:=(by rw [Ny433.out,List.length_take];omega);rw [← Ny433.out] at hr11;rw [← hy11] at hr11 hcut11;clear hy11 hi011 hsz11 HO432;have HO435:=Aside0.mk hr11;clear hr11;replace q11:=eq_true q11))
      go_ret
      exact ⟨_,by first|rfl|(simp [errW_none,errW_some] <;> rfl)|(simp only [← hji5];first|rfl|(simp [errW_none,errW_some] <;> rfl))|(simp [*,errW_none,errW_some] <;> rfl),by (with_reducible repeat (first|apply Kd.R_alloc|apply Kd.R_drewN|apply Kd.R_drew));exact HO435.out,by repeat (first|(with_reducible first|exact HB.out|apply below_alloc|apply pw_below_drewN|apply below_drew1)|exact HB.out)⟩
     ·rw [if_neg c8] at H
      exact absurd H (by simp)
    ·rw [if_neg c7] at H
     exact absurd H (by simp)
   ·rw [if_neg c6] at H
    exact absurd H (by simp)
  ·rw [if_neg c4] at H
   have c4b0:decide (0 < (wrap64 (a1)))=false:=decide_eq_false c4
   clear c4
   obtain rfl:=Option.some.inj H
   go_enter Try.func69,Try.ntmps69
   go_wp2
   go_ret
   exact ⟨_,by first|rfl|(simp [errW_none,errW_some] <;> rfl)|(simp [*,errW_none,errW_some] <;> rfl),by first|exact Kd.R_nil _ _ _ _ _|exact Kd.N_nil _ _ _ _ _|exact Kd.V_nil _ _ _ _ _|exact Kd.Q_nil _ _ _ _ _|exact Kd.S_nil _ _ _ _ _,by repeat (first|(with_reducible first|exact HB.out|apply below_alloc|apply pw_below_drewN|apply below_drew1)|exact HB.out)⟩
mutual
def slices_Concat_byte_byte.l0:Nat → List (List Int) → Int → List (List Int) → Int → Int → Option (List Int)
 | 0,_,_,_,_,_=>none
 | k + 1,x0,x3,x9,x10,x11=>if x11 < x10 then (if 0≤x11 then (if x11 < (x9.length:Int) then (if (wrap64 (x3 + ((rd_L5 x9 x11).length:Int))) < 0 then (none) else (slices_Concat_byte_byte.l0 k x0 (wrap64 (x3 + ((rd_L5 x9 x11).length:Int))) x9 x10 (wrap64 (x11 + 1)))) else (none)) else (none)) else ((slices_Grow_byte_byte.f ([]:List Int) x3).bind fun t437=>(slices_Concat_byte_byte.l1 k t437 x0 (x0.length:Int) 0))
def slices_Concat_byte_byte.l1:Nat → List Int → List (List Int) → Int → Int → Option (List Int)
 | 0,_,_,_,_=>none
 | k + 1,x6,x25,x26,x27=>if x27 < x26 then (if 0≤x27 then (if x27 < (x25.length:Int) then (if x6.length + (rd_L5 x25 x27).length < 140737488355328 then (slices_Concat_byte_byte.l1 k (x6 ++ (rd_L5 x25 x27)) x25 x26 (wrap64 (x27 + 1))) else (none)) else (none)) else (none)) else (some x6)
end
def slices_Concat_byte_byte.f (k:Nat) (l0:List (List Int)):Option (List Int):=slices_Concat_byte_byte.l0 k l0 0 l0 (l0.length:Int) 0
theorem slices_Concat_byte_byte.mono_l:∀ k,(∀ y0 y1 y2 y3 y4,LeO (slices_Concat_byte_byte.l0 k y0 y1 y2 y3 y4) (slices_Concat_byte_byte.l0 (k + 1) y0 y1 y2 y3 y4))∧(∀ y0 y1 y2 y3,LeO (slices_Concat_byte_byte.l1 k y0 y1 y2 y3) (slices_Concat_byte_byte.l1 (k + 1) y0 y1 y2 y3))
 | 0=>⟨fun _ _ _ _ _ r h=>by simp [slices_Concat_byte_byte.l0] at h,fun _ _ _ _ r h=>by simp [slices_Concat_byte_byte.l1] at h⟩
 | k + 1=>by
  obtain ⟨ih0,ih1⟩:=slices_Concat_byte_byte.mono_l k
  refine ⟨?_,?_⟩
  ·intro y0 y1 y2 y3 y4
   unfold slices_Concat_byte_byte.l0
   repeat' first
   | (with_reducible exact ih0 _ _ _ _ _)
   | (with_reducible exact ih1 _ _ _ _)
   | (with_reducible exact LeO.refl _)
   | (with_reducible exact LeO.none _)
   | (with_reducible refine LeO.ite ?_ ?_)
   | (with_reducible refine LeO.bind ?_ (fun _=>?_))
   | exact ih0 _ _ _ _ _
   | exact ih1 _ _ _ _
   | exact LeO.none _
   | refine LeO.ite ?_ ?_
   | refine LeO.bind ?_ (fun _=>?_)
  ·intro y0 y1 y2 y3
   unfold slices_Concat_byte_byte.l1
   repeat' first
   | (with_reducible exact ih0 _ _ _ _ _)
   | (with_reducible exact ih1 _ _ _ _)
   | (with_reducible exact LeO.refl _)
   | (with_reducible exact LeO.none _)
   | (with_reducible refine LeO.ite ?_ ?_)
   | (with_reducible refine LeO.bind ?_ (fun _=>?_))
   | exact ih0 _ _ _ _ _
   | exact ih1 _ _ _ _
   | exact LeO.none _
   | refine LeO.ite ?_ ?_
   | refine LeO.bind ?_ (fun _=>?_)
theorem slices_Concat_byte_byte.mono:∀ a0 k,LeO (slices_Concat_byte_byte.f k a0) (slices_Concat_byte_byte.f (k + 1) a0):=by
 intro a0 k
 obtain ⟨ih0,ih1⟩:=slices_Concat_byte_byte.mono_l k
 unfold slices_Concat_byte_byte.f
 repeat' first
   | (with_reducible exact ih0 _ _ _ _ _)
   | (with_reducible exact ih1 _ _ _ _)
   | (with_reducible exact LeO.refl _)
   | (with_reducible exact LeO.none _)
   | (with_reducible refine LeO.ite ?_ ?_)
   | (with_reducible refine LeO.bind ?_ (fun _=>?_))
   | exact ih0 _ _ _ _ _
   | exact ih1 _ _ _ _
   | exact LeO.none _
   | refine LeO.ite ?_ ?_
   | refine LeO.bind ?_ (fun _=>?_)
set_option maxHeartbeats 8000000 in
set_option maxRecDepth 100000 in
theorem slices_Concat_byte_byte.calls (k:Nat) (A0:Option Addr) (c0:Nat) (l0:List (List Int)) (r:List Int) (w:World) (hr0:Kd.C (Kd.slice 5 (Kd.int .u8)) w A0 l0.length l0) (hc0:l0.length≤c0) (h:slices_Concat_byte_byte.f k l0=some r) :
  Calls Try.prog 63 #[.slice A0 l0.length c0] w fun e w'=>∃ v0_:Value,e=.returned (v0_)∧Kd.R (Kd.int .u8) 5 w' w.heap.size (fun _=>True) v0_ r∧Below w.heap.size w w':=by
 have HR0:=Aside0.mk hr0
 have HC0:=Aside0.mk hc0
 clear hr0 hc0
 have HB:=Aside0.mk (Below.refl w.heap.size w)
 have H:(slices_Concat_byte_byte.l0 k l0 0 l0 (l0.length:Int) 0)=some r:=h
 clear h
 have H':=Aside0.mk H
 clear H
 go_enter Try.func63,Try.ntmps63
 go_wp2
 go_loopg [3,11] k (fun kq v3 v11 w'=>∃ (x3_1:Int) (x11_1:Int),v3=.int .i64 x3_1∧v11=.int .i64 x11_1∧Aside0 (slices_Concat_byte_byte.l0 kq l0 x3_1 l0 (l0.length:Int) x11_1=some r)∧Aside0 (kq≤k)∧Aside0 (Below w.heap.size w w'))
 case atStart=>exact ⟨(0),(0),(by first|rfl|(simp;done)|(simp [*];done)),(by first|rfl|(simp;done)|(simp [*];done)),H',⟨Nat.le_refl _⟩,⟨by repeat (first|(with_reducible first|exact HB.out|apply below_alloc|apply pw_below_drewN|apply below_drew1)|exact HB.out)⟩⟩
 case round =>
  clear H'
  obtain ⟨x3_1,x11_1,rfl,rfl,HA,HK1,HB⟩:=hrel
  cases gk with
  | zero=>exact absurd HA.out (by simp [slices_Concat_byte_byte.l0])
  | succ k1 =>
   have H:=HA.out
   clear HA
   simp only [slices_Concat_byte_byte.l0] at H
   by_cases c2:x11_1 < (l0.length:Int)
   ·rw [if_pos c2] at H
    have c2b0:decide (x11_1 < (l0.length:Int))=true:=decide_eq_true c2
    clear c2
    by_cases c3:0≤x11_1
    ·rw [if_pos c3] at H
     have c3b0:decide (0≤x11_1)=true:=decide_eq_true c3
     clear c3
     by_cases c4:x11_1 < (l0.length:Int)
     ·rw [if_pos c4] at H
      have c4b0:decide (x11_1 < (l0.length:Int))=true:=decide_eq_true c4
      clear c4
      by_cases c5:(wrap64 (x3_1 + ((rd_L5 l0 x11_1).length:Int))) < 0
      ·rw [if_pos c5] at H
       exact absurd H (by simp)
      ·rw [if_neg c5] at H
       have c5b0:decide ((wrap64 (x3_1 + ((rd_L5 l0 x11_1).length:Int))) < 0)=false:=decide_eq_false c5
       clear c5
       have H':=Aside0.mk H
       clear H
       have p436:0≤(x11_1:Int):=of_decide_eq_true (by first|(with_reducible assumption)|assumption)
       have q436:x11_1 < (l0.length:Int):=of_decide_eq_true (by first|(with_reducible assumption)|assumption)
       obtain ⟨ad436,A436_0,c436_0,e436,hx436_0,hl436_0,hi436_0⟩:=at_L5 HR0.out x11_1 p436 q436
       cases e436
       replace hx436_0:=(HB.out.cell (World.block_lt_of_cell? w _ hx436_0)).trans hx436_0
       have HR436_0:=Aside0.mk hi436_0
       have HC436_0:=Aside0.mk hl436_0
       clear hi436_0 hl436_0
       replace p436:=eq_true p436
       replace q436:=eq_true q436
       go_wp2
       go_roundg k1
       case measure=>have:=HK1.out;omega
       case rel=>exact ⟨(wrap64 (x3_1 + ((rd_L5 l0 x11_1).length:Int))),(wrap64 (x11_1 + 1)),(by first|rfl|(simp;done)|(simp [*];done)),(by first|rfl|(simp;done)|(simp [*];done)),H',⟨by have:=HK1.out;omega⟩,⟨by repeat (first|(with_reducible first|exact HB.out|apply below_alloc|apply pw_below_drewN|apply below_drew1)|exact HB.out)⟩⟩
     ·rw [if_neg c4] at H
      exact absurd H (by simp)
    ·rw [if_neg c3] at H
     exact absurd H (by simp)
   ·rw [if_neg c2] at H
    have c2b0:decide (x11_1 < (l0.length:Int))=false:=decide_eq_false c2
    clear c2
    replace H:=Option.bind_eq_some_iff.mp H
    obtain ⟨t437,A60,H⟩:=H
    replace H:(slices_Concat_byte_byte.l1 k1 t437 l0 (l0.length:Int) 0)=some r:=H
    have A6:=Aside0.mk A60
    clear A60
    have H':=Aside0.mk H
    clear H
    go_wp2_with (first|((with_reducible refine gate_callee (f:=69) rfl ?_);refine goesL_ (some 24) rfl rfl Try.func69 (by kernel_rfl) rfl #[.slice none 0 0,.int .i64 x3_1] rfl (by (try simp only [List.map_toArray,List.map_cons,List.map_nil]);first|done|rfl|(simp only [List.length_drop,List.length_take];rfl)) ?_;(refine (slices_Grow_byte_byte.calls none 0 ([]:List Int) x3_1 t437 _ ?side1 ?side2 A6.out).mono ?_);(case side1=>exact Kd.C_nil _ _);(case side2=>exact Nat.le_refl _);rintro e w7 ⟨v438,rfl,ho0,hb⟩;refine ⟨_,rfl,?_⟩;have n0_:=Aside0.mk (Kd.R_lower ho0 (below_size (by repeat (first|(with_reducible first|exact HB.out|apply below_alloc|apply pw_below_drewN|apply below_drew1)|exact HB.out))));have n1_:=Aside0.mk (below_step (by repeat (first|(with_reducible first|exact HB.out|apply below_alloc|apply pw_below_drewN|apply below_drew1)|exact HB.out)) hb);clear HB;have HO439:=n0_;have HB:=n1_;clear n0_ n1_;(try clear hb);(try clear hb2);(try clear hk);(try clear hi);(try clear ho0)))
    go_loopg [6,27] k1 (fun kq v6 v27 w'=>∃ (x6_2:List Int) (x27_2:Int),v27=.int .i64 x27_2∧Aside0 (slices_Concat_byte_byte.l1 kq x6_2 l0 (l0.length:Int) x27_2=some r)∧Aside0 (kq≤k1)∧Aside0 (Kd.R (Kd.int .u8) 5 w' w.heap.size (fun _=>True) v6 x6_2)∧Aside0 (Below w.heap.size w w'))
    case atStart=>exact ⟨(t437),(0),(by first|rfl|(simp;done)|(simp [*];done)),H',⟨Nat.le_refl _⟩,⟨by (with_reducible repeat (first|apply Kd.R_alloc|apply Kd.R_drewN|apply Kd.R_drew));exact HO439.out⟩,⟨by repeat (first|(with_reducible first|exact HB.out|apply below_alloc|apply pw_below_drewN|apply below_drew1)|exact HB.out)⟩⟩
    case round =>
     clear H'
     try clear c2
     try clear c2b0
     try clear p2
     try clear c3
     try clear c3b0
     try clear c4
     try clear c4b0
     try clear p4
     try clear q4
     try clear hx4
     try clear c5
     try clear c5b0
     try clear c6
     try clear p6
     try clear hx436_0
     try clear p436
     try clear q436
     obtain ⟨x6_2,x27_2,rfl,HA,HK2,HO_6,HB⟩:=hrel
     cases gk with
     | zero=>exact absurd HA.out (by simp [slices_Concat_byte_byte.l1])
     | succ k2 =>
      have H:=HA.out
      clear HA
      simp only [slices_Concat_byte_byte.l1] at H
      by_cases c8:x27_2 < (l0.length:Int)
      ·rw [if_pos c8] at H
       have c8b0:decide (x27_2 < (l0.length:Int))=true:=decide_eq_true c8
       clear c8
       by_cases c9:0≤x27_2
       ·rw [if_pos c9] at H
        have c9b0:decide (0≤x27_2)=true:=decide_eq_true c9
        clear c9
        by_cases c10:x27_2 < (l0.length:Int)
        ·rw [if_pos c10] at H
         have c10b0:decide (x27_2 < (l0.length:Int))=true:=decide_eq_true c10
         clear c10
         by_cases c11:x6_2.length + (rd_L5 l0 x27_2).length < 140737488355328
         ·rw [if_pos c11] at H
          have LMc11:=Aside0.mk c11
          clear c11
          obtain ⟨y441,hy441⟩:∃ y_:List Int,y_=(x6_2 ++ (rd_L5 l0 x27_2)):=⟨_,rfl⟩
          replace H:(slices_Concat_byte_byte.l1 k2 y441 l0 (l0.length:Int) (wrap64 (x27_2 + 1)))=some r:=by first|(rw [hy441];with_reducible exact H)|(have H2_:=(Option.bind_some _ _).symm.trans H;rw [hy441];with_reducible exact H2_)|(have H2_:=(Option.bind_some _ _).symm.trans H;with_reducible exact H2_)|with_reducible exact H|(rw [hy441];exact H)|exact H
          have Ny441:=Aside0.mk hy441
          clear hy441
          have H':=Aside0.mk H
          clear H
          have p440:0≤(x27_2:Int):=of_decide_eq_true (by first|(with_reducible assumption)|assumption)
          have q440:x27_2 < (l0.length:Int):=of_decide_eq_true (by first|(with_reducible assumption)|assumption)
          obtain ⟨ad440,A440_0,c440_0,e440,hx440_0,hl440_0,hi440_0⟩:=at_L5 HR0.out x27_2 p440 q440
          cases e440
          replace hx440_0:=(HB.out.cell (World.block_lt_of_cell? w _ hx440_0)).trans hx440_0
          have HR440_0:=Aside0.mk hi440_0
          have HC440_0:=Aside0.mk hl440_0
          clear hi440_0 hl440_0
          replace p440:=eq_true p440
          replace q440:=eq_true q440
          go_wp2_with (first|((with_reducible refine gate_builtin (b:=.append) (xs:=#[.tmp 31,.tmp 32]) rfl ?_);at_builtin;refine Kd.R_append_rows (Kd.int .u8) (w0:=w) w.heap.size rfl (.tmp 31) (.tmp 32) 48 5 (.int .u8 0) 1 rfl Try.underlying48 info5 rfl (by decide) (by omega) u6 x6_2 (rd_L5 l0 x27_2) _ _ _ (fun _=>True) (fun _=>False) rfl rfl ?aO ?aR (fun _ _ h=>h) (fun _ h=>h.elim) ?aF ?aB ?aS ?aL ?_;(case aR=>repeat (first|exact (Kd.C_below HR440_0.out HB.out)|(with_reducible refine Kd.C_alloc ?_ _)|(with_reducible refine Kd.C_drewN ?_ _)|(with_reducible refine Kd.C_drew ?_)));(case aB=>exact (by repeat (first|(with_reducible first|exact HB.out|apply below_alloc|apply pw_below_drewN|apply below_drew1)|exact HB.out)));(case aF=>exact (fun _ _=>trivial));(case aO=>exact (by (with_reducible repeat (first|apply Kd.R_alloc|apply Kd.R_drewN|apply Kd.R_drew));exact HO_6.out));(case aS=>exact (below_size (by repeat (first|(with_reducible first|exact HB.out|apply below_alloc|apply pw_below_drewN|apply below_drew1)|exact HB.out))));(case aL=>have:=LMc11.out;omega);intro v442 w12 ho hb hg hat;rw [← Ny441.out] at ho;have n0_:=Aside0.mk (hb);have n1_:=Aside0.mk (ho);clear HB HO_6;have HB:=n0_;have HO443:=n1_;clear n0_ n1_;clear ho hb hg hat))
          go_roundg k2
          case measure=>have:=HK1.out;have:=HK2.out;omega
          case rel=>exact ⟨(y441),(wrap64 (x27_2 + 1)),(by first|rfl|(simp;done)|(simp [*];done)),H',⟨by have:=HK1.out;have:=HK2.out;omega⟩,⟨by (with_reducible repeat (first|apply Kd.R_alloc|apply Kd.R_drewN|apply Kd.R_drew));exact HO443.out⟩,⟨by repeat (first|(with_reducible first|exact HB.out|apply below_alloc|apply pw_below_drewN|apply below_drew1)|exact HB.out)⟩⟩
         ·rw [if_neg c11] at H
          exact absurd H (by simp)
        ·rw [if_neg c10] at H
         exact absurd H (by simp)
       ·rw [if_neg c9] at H
        exact absurd H (by simp)
      ·rw [if_neg c8] at H
       have c8b0:decide (x27_2 < (l0.length:Int))=false:=decide_eq_false c8
       clear c8
       obtain rfl:=Option.some.inj H
       go_wp2
       go_ret
       exact ⟨_,by first|rfl|(simp [errW_none,errW_some] <;> rfl)|(simp [*,errW_none,errW_some] <;> rfl),by (with_reducible repeat (first|apply Kd.R_alloc|apply Kd.R_drewN|apply Kd.R_drew));exact HO_6.out,by repeat (first|(with_reducible first|exact HB.out|apply below_alloc|apply pw_below_drewN|apply below_drew1)|exact HB.out)⟩
end Go.Proofs.Ytbdnmdmfnopihaa.Print
end
section
namespace Go.Proofs.Ytbdnmdmfnopihaa.Print
open Go.RowKit Go.Proofs.YtbdnmdmfnopihaaW.PrintWords Go.Proofs.YtbdnmdmfnopihaaW.PrintLast Go.Proofs.YtbdnmdmfnopihaaW.PrintMore
attribute [local go_sem] max2_int min2_int max_two min_two max_three min_three max_four min_four   -- for this text's walks alone
attribute [local go_sem ↓] Go.Proofs.Ytbdnmdmfnopihaa.Sem.isSome_setCell
attribute [local go_sem] Go.Instr.field Go.asAgg
set_option linter.unusedVariables false
set_option linter.unusedSimpArgs false
mutual
def seal_Zeros.l0:Nat → Int → List Int → Int → Int → Option (Int)
 | 0,_,_,_,_=>none
 | k + 1,x3,x7,x8,x9=>if x9 < x8 then (if 0≤x9 then (if x9 < (x7.length:Int) then (seal_Zeros.l1 k x3 (rd x7 x9) x7 x8 x9 0) else (none)) else (none)) else (some x3)
def seal_Zeros.l1:Nat → Int → Int → List Int → Int → Int → Int → Option (Int)
 | 0,_,_,_,_,_,_=>none
 | k + 1,x3,x5,x7,x8,x9,x13=>if x13 < 8 then (if 0≤x13 then (if (Go.bits .and .u8 (shr .u8 x5 x13) 1)=0 then (seal_Zeros.l1 k (wrap64 (x3 + 1)) x5 x7 x8 x9 (wrap64 (x13 + 1))) else (seal_Zeros.l1 k x3 x5 x7 x8 x9 (wrap64 (x13 + 1)))) else (none)) else (seal_Zeros.l0 k x3 x7 x8 (wrap64 (x9 + 1)))
end
def seal_Zeros.f (k:Nat) (l0:List Int):Option (Int):=seal_Zeros.l0 k 0 l0 (l0.length:Int) 0
set_option maxHeartbeats 8000000 in
set_option maxRecDepth 100000 in
theorem seal_Zeros.calls (k:Nat) (A0:Option Addr) (c0:Nat) (l0:List Int) (r:Int) (w:World) (hr0:Kd.C (Kd.int .u8) w A0 l0.length l0) (hc0:l0.length≤c0) (h:seal_Zeros.f k l0=some r) :
  Calls Try.prog 70 #[.slice A0 l0.length c0] w fun e w'=>e=.returned (.int .i64 r)∧Drawn0 w w':=by
 have HR0:=Aside0.mk hr0
 have HC0:=Aside0.mk hc0
 clear hr0 hc0
 have H:(seal_Zeros.l0 k 0 l0 (l0.length:Int) 0)=some r:=h
 clear h
 have H':=Aside0.mk H
 clear H
 go_enter Try.func70,Try.ntmps70
 go_wp2
 go_loopg [3,9] k (fun kq v3 v9 w'=>∃ (x3_1:Int) (x9_1:Int),v3=.int .i64 x3_1∧v9=.int .i64 x9_1∧Aside0 (seal_Zeros.l0 kq x3_1 l0 (l0.length:Int) x9_1=some r)∧Aside0 (kq≤k)∧Drawn0 w w')
 case atStart=>exact ⟨(0),(0),(by first|rfl|(simp;done)|(simp [*];done)),(by first|rfl|(simp;done)|(simp [*];done)),H',⟨Nat.le_refl _⟩,by repeat (first|exact Drawn0.refl _|apply Drawn0.step)⟩
 case round =>
  clear H'
  obtain ⟨x3_1,x9_1,rfl,rfl,HA,HK1,⟨m1,rfl⟩⟩:=hrel
  cases gk with
  | zero=>exact absurd HA.out (by simp [seal_Zeros.l0])
  | succ k1 =>
   have H:=HA.out
   clear HA
   simp only [seal_Zeros.l0] at H
   by_cases c2:x9_1 < (l0.length:Int)
   ·rw [if_pos c2] at H
    have c2b0:decide (x9_1 < (l0.length:Int))=true:=decide_eq_true c2
    clear c2
    by_cases c3:0≤x9_1
    ·rw [if_pos c3] at H
     have c3b0:decide (0≤x9_1)=true:=decide_eq_true c3
     clear c3
     by_cases c4:x9_1 < (l0.length:Int)
     ·rw [if_pos c4] at H
      have c4b0:decide (x9_1 < (l0.length:Int))=true:=decide_eq_true c4
      clear c4
      have H':=Aside0.mk H
      clear H
      have p444:0≤(x9_1:Int):=of_decide_eq_true (by first|(with_reducible assumption)|assumption)
      have q444:x9_1 < (l0.length:Int):=of_decide_eq_true (by first|(with_reducible assumption)|assumption)
      obtain ⟨ad444,e444,hx444_0⟩:=Kd.at_int HR0.out x9_1 p444 q444
      cases e444
      replace p444:=eq_true p444
      replace q444:=eq_true q444
      go_wp2
      go_loopg [3,13] k1 (fun kq v3 v13 w'=>∃ (x3_2:Int) (x13_2:Int),v3=.int .i64 x3_2∧v13=.int .i64 x13_2∧Aside0 (seal_Zeros.l1 kq x3_2 (rd l0 x9_1) l0 (l0.length:Int) x9_1 x13_2=some r)∧Aside0 (kq≤k1)∧Drawn0 w w')
      case atStart=>exact ⟨(x3_1),(0),(by first|rfl|(simp;done)|(simp [*];done)),(by first|rfl|(simp;done)|(simp [*];done)),H',⟨Nat.le_refl _⟩,by repeat (first|exact Drawn0.refl _|apply Drawn0.step)⟩
      case round =>
       clear H'
       try clear c2
       try clear c2b0
       try clear p2
       try clear c3
       try clear c3b0
       try clear c4
       try clear c4b0
       try clear p4
       try clear q4
       try clear hx4
       try clear hx444_0
       try clear p444
       try clear q444
       obtain ⟨x3_2,x13_2,rfl,rfl,HA,HK2,⟨m2,rfl⟩⟩:=hrel
       cases gk with
       | zero=>exact absurd HA.out (by simp [seal_Zeros.l1])
       | succ k2 =>
        have H:=HA.out
        clear HA
        simp only [seal_Zeros.l1] at H
        by_cases c5:x13_2 < 8
        ·rw [if_pos c5] at H
         have c5b0:decide (x13_2 < 8)=true:=decide_eq_true c5
         clear c5
         by_cases c6:0≤x13_2
         ·rw [if_pos c6] at H
          have c6b0:=eq_true c6
          have c6b1:decide (0≤x13_2)=true:=decide_eq_true c6
          clear c6
          obtain ⟨ji7,hji7⟩:∃ j_:Int,(shr .u8 (rd l0 x9_1) x13_2)=j_:=⟨_,rfl⟩
          replace H:(if (Go.bits .and .u8 (ji7) 1)=0 then (seal_Zeros.l1 k2 (wrap64 (x3_2 + 1)) (rd l0 x9_1) l0 (l0.length:Int) x9_1 (wrap64 (x13_2 + 1))) else (seal_Zeros.l1 k2 x3_2 (rd l0 x9_1) l0 (l0.length:Int) x9_1 (wrap64 (x13_2 + 1))))=some r:=by first|(rw [hji7] at H;exact H)|(simp only [hji7] at H ⊢;exact H)
          have hji7_:((rd l0 x9_1) / 2 ^ min x13_2.toNat 8)=ji7:=hji7
          have hji7z:x13_2≤8 → ((rd l0 x9_1) / 2 ^ x13_2.toNat)=ji7:=shr_small hji7
          by_cases c8:(Go.bits .and .u8 (ji7) 1)=0
          ·rw [if_pos c8] at H
           have c8b0:((Go.bits .and .u8 (ji7) 1) == 0)=true:=beq_iff_eq.mpr c8
           have c8b1:((Go.bits .and .u8 (ji7) 1) != 0)=false:=bne_eq_false_iff_eq.mpr c8
           clear c8
           have H':=Aside0.mk H
           clear H
           go_wp2
           go_roundg k2
           case measure=>have:=HK1.out;have:=HK2.out;omega
           case rel=>exact ⟨(wrap64 (x3_2 + 1)),(wrap64 (x13_2 + 1)),(by first|rfl|(simp;done)|(simp [*];done)),(by first|rfl|(simp;done)|(simp [*];done)),H',⟨by have:=HK1.out;have:=HK2.out;omega⟩,by repeat (first|exact Drawn0.refl _|apply Drawn0.step)⟩
          ·rw [if_neg c8] at H
           have c8b0:((Go.bits .and .u8 (ji7) 1) == 0)=false:=beq_eq_false_iff_ne.mpr c8
           have c8b1:((Go.bits .and .u8 (ji7) 1) != 0)=true:=bne_iff_ne.mpr c8
           have H':=Aside0.mk H
           clear H
           go_wp2
           go_roundg k2
           case measure=>have:=HK1.out;have:=HK2.out;omega
           case rel=>exact ⟨(x3_2),(wrap64 (x13_2 + 1)),(by first|rfl|(simp;done)|(simp [*];done)),(by first|rfl|(simp;done)|(simp [*];done)),H',⟨by have:=HK1.out;have:=HK2.out;omega⟩,by repeat (first|exact Drawn0.refl _|apply Drawn0.step)⟩
         ·rw [if_neg c6] at H
          exact absurd H (by simp)
        ·rw [if_neg c5] at H
         have c5b0:decide (x13_2 < 8)=false:=decide_eq_false c5
         clear c5
         have H':=Aside0.mk H
         clear H
         go_wp2
         go_roundg k2
         case measure=>have:=HK1.out;have:=HK2.out;omega
         case rel=>exact ⟨(x3_2),(wrap64 (x9_1 + 1)),(by first|rfl|(simp;done)|(simp [*];done)),(by first|rfl|(simp;done)|(simp [*];done)),H',⟨by have:=HK1.out;have:=HK2.out;omega⟩,by repeat (first|exact Drawn0.refl _|apply Drawn0.step)⟩
     ·rw [if_neg c4] at H
      exact absurd H (by simp)
    ·rw [if_neg c3] at H
     exact absurd H (by simp)
   ·rw [if_neg c2] at H
    have c2b0:decide (x9_1 < (l0.length:Int))=false:=decide_eq_false c2
    clear c2
    obtain rfl:=Option.some.inj H
    go_wp2
    go_ret
    exact ⟨by first|rfl|(simp;done)|(simp [*];done),by repeat (first|exact Drawn0.refl _|apply Drawn0.step)⟩
def seal_sum.f (k:Nat) (l0:List Int):Option (List Int):=(seal_Zeros.f k l0).bind fun t445=>(some (([(t445 / 16777216) % 256,(t445 / 65536) % 256,(t445 / 256) % 256,(t445) % 256]:List Int)))
set_option maxHeartbeats 8000000 in
set_option maxRecDepth 100000 in
theorem seal_sum.calls (k:Nat) (A0:Option Addr) (c0:Nat) (l0:List Int) (r:List Int) (w:World) (hr0:Kd.C (Kd.int .u8) w A0 l0.length l0) (hc0:l0.length≤c0) (h:seal_sum.f k l0=some r) :
  Calls Try.prog 64 #[.slice A0 l0.length c0] w fun e w'=>∃ v0_:Value,e=.returned (v0_)∧Kd.R (Kd.int .u8) 5 w' w.heap.size (fun _=>True) v0_ r∧Below w.heap.size w w':=by
 have HR0:=Aside0.mk hr0
 have HC0:=Aside0.mk hc0
 clear hr0 hc0
 have HB:=Aside0.mk (Below.refl w.heap.size w)
 have H:((seal_Zeros.f k l0).bind fun t445=>(some (([(t445 / 16777216) % 256,(t445 / 65536) % 256,(t445 / 256) % 256,(t445) % 256]:List Int))))=some r:=h
 clear h
 replace H:=Option.bind_eq_some_iff.mp H
 obtain ⟨t445,A20,H⟩:=H
 replace H:(some (([(t445 / 16777216) % 256,(t445 / 65536) % 256,(t445 / 256) % 256,(t445) % 256]:List Int)))=some r:=H
 have A2:=Aside0.mk A20
 clear A20
 obtain ⟨y446,hy446⟩:∃ y_:List Int,y_=(([(t445 / 16777216) % 256,(t445 / 65536) % 256,(t445 / 256) % 256,(t445) % 256]:List Int)):=⟨_,rfl⟩
 replace H:(some y446)=some r:=by first|(rw [hy446];with_reducible exact H)|(have H2_:=(Option.bind_some _ _).symm.trans H;rw [hy446];with_reducible exact H2_)|(have H2_:=(Option.bind_some _ _).symm.trans H;with_reducible exact H2_)|with_reducible exact H|(rw [hy446];exact H)|exact H
 have Ny446:=Aside0.mk hy446
 clear hy446
 obtain rfl:=Option.some.inj H
 go_enter Try.func64,Try.ntmps64
 go_wp2_with (first|((with_reducible refine gate_callee (f:=70) rfl ?_);refine goesL_ (some 5) rfl rfl Try.func70 (by kernel_rfl) rfl #[.slice A0 l0.length c0] rfl (by (try simp only [List.map_toArray,List.map_cons,List.map_nil]);first|done|rfl|(simp only [List.length_drop,List.length_take];rfl)) ?_;(with_reducible refine (seal_Zeros.calls k _ _ l0 t445 _ ?side1 ?side2 A2.out).mono ?_);(case side1=>repeat (first|exact HR0.out|(with_reducible refine Kd.C_alloc ?_ _)|(with_reducible refine Kd.C_drewN ?_ _)|(with_reducible refine Kd.C_drew ?_)));(case side2=>exact HC0.out);rintro e w' ⟨rfl,⟨nd,rfl⟩⟩;refine ⟨_,rfl,?_⟩)|((with_reducible refine gate_dst (N:=17) rfl ?_);refine Kd.R_lit (Kd.int .u8) _ 5 ?hg (N:=17) ?hd (xs:=([(t445 / 16777216) % 256,(t445 / 65536) % 256,(t445 / 256) % 256,(t445) % 256]:List Int)) (inner:=[.int .u8 ((t445 / 16777216) % 256),.int .u8 ((t445 / 65536) % 256),.int .u8 ((t445 / 256) % 256),.int .u8 ((t445) % 256)]) (ok:=fun _=>True) (okp:=fun _=>True) ?hr ?hp (fun _ hk=>hk) trivial (Below.refl _ _) (Nat.le_refl _) (by simp) ?_;(case hd=>rfl);(case hg=>rfl);(case hr=>first|(go_simp;done)|(go_simp;rfl));(case hp=>exact (Reps.one (show Kd.M (Kd.int .u8) _ _ _ ((t445 / 16777216) % 256) [.int .u8 ((t445 / 16777216) % 256)] from rfl) (Reps.one (show Kd.M (Kd.int .u8) _ _ _ ((t445 / 65536) % 256) [.int .u8 ((t445 / 65536) % 256)] from rfl) (Reps.one (show Kd.M (Kd.int .u8) _ _ _ ((t445 / 256) % 256) [.int .u8 ((t445 / 256) % 256)] from rfl) (Reps.one (show Kd.M (Kd.int .u8) _ _ _ ((t445) % 256) [.int .u8 ((t445) % 256)] from rfl) (Reps.none _ _))))));intro v447 w3 ho4 hb hg_ hnew_;clear hg_ hnew_;(first|rw [← Ny446.out] at ho4|(simp only [Int.reduceToNat] at ho4;rw [← Ny446.out] at ho4));have n0_:=Aside0.mk (Kd.R_lower ho4 (below_size (by repeat (first|(with_reducible first|exact HB.out|apply below_alloc|apply pw_below_drewN|apply below_drew1)|exact HB.out))));have n1_:=Aside0.mk (below_step (by repeat (first|(with_reducible first|exact HB.out|apply below_alloc|apply pw_below_drewN|apply below_drew1)|exact HB.out)) hb);clear HB;have HO448:=n0_;have HB:=n1_;clear n0_ n1_;clear hb ho4))
 go_ret
 exact ⟨_,by first|rfl|(simp [errW_none,errW_some] <;> rfl)|(simp [*,errW_none,errW_some] <;> rfl),by (with_reducible repeat (first|apply Kd.R_alloc|apply Kd.R_drewN|apply Kd.R_drew));exact HO448.out,by repeat (first|(with_reducible first|exact HB.out|apply below_alloc|apply pw_below_drewN|apply below_drew1)|exact HB.out)⟩
def seal_Seal.f (k:Nat) (l0:List Int):Option (List Int × Int):=if (l0.length:Int) > 1048576 then (some (([]:List Int),3)) else ((seal_sum.f k l0).bind fun t449=>((slices_Concat_byte_byte.f k (([l0,t449]:List (List Int)))).bind fun t455=>(some (t455,0))))
set_option maxHeartbeats 8000000 in
set_option maxRecDepth 100000 in
theorem seal_Seal.calls (k:Nat) (P0_:Nat → Prop) (A0:Option Addr) (c0:Nat) (l0:List Int) (r1:List Int) (r2:Int) (w:World) (hs0:Kd.V (Kd.int .u8) 5 w w.heap.size (fun k_=>P0_ k_) (.slice A0 l0.length c0) l0) (h:seal_Seal.f k l0=some (r1,r2)) :
  Calls Try.prog 55 #[.slice A0 l0.length c0] w fun e w'=>∃ v0_:Value,e=.returned (.tuple #[v0_,.int .i64 r2])∧Kd.R (Kd.int .u8) 5 w' w.heap.size (fun k_=>(w.heap.size≤k_)) v0_ r1∧Below w.heap.size w w':=by
 have HO0:=Aside0.mk (show Kd.V (Kd.int .u8) 5 w w.heap.size (fun k_=>(P0_ k_∨w.heap.size≤k_)) (.slice A0 l0.length c0) l0 from Kd.V_mono hs0 (fun k_ hk=>.inl hk))
 have HB:=Aside0.mk (Below.refl w.heap.size w)
 have H:(if (l0.length:Int) > 1048576 then (some (([]:List Int),3)) else ((seal_sum.f k l0).bind fun t449=>((slices_Concat_byte_byte.f k (([l0,t449]:List (List Int)))).bind fun t455=>(some (t455,0)))))=some (r1,r2):=h
 clear h
 by_cases c2:(l0.length:Int) > 1048576
 ·rw [if_pos c2] at H
  have c2b0:decide (1048576 < (l0.length:Int))=true:=decide_eq_true c2
  have c2b1:decide (1048576 < l0.length)=true:=decide_eq_true (by omega)
  clear c2
  simp only [Option.some.injEq,Prod.mk.injEq] at H
  obtain ⟨rfl,rfl⟩:=H
  go_enter Try.func55,Try.ntmps55
  go_wp2
  go_ret2
  exact ⟨_,by first|rfl|(simp [errW_none,errW_some] <;> rfl)|(simp [*,errW_none,errW_some] <;> rfl),by first|exact Kd.R_nil _ _ _ _ _|exact Kd.N_nil _ _ _ _ _|exact Kd.V_nil _ _ _ _ _|exact Kd.Q_nil _ _ _ _ _|exact Kd.S_nil _ _ _ _ _,by repeat (first|(with_reducible first|exact HB.out|apply below_alloc|apply pw_below_drewN|apply below_drew1)|exact HB.out)⟩
 ·rw [if_neg c2] at H
  have c2b0:decide (1048576 < (l0.length:Int))=false:=decide_eq_false c2
  have c2b1:decide (1048576 < l0.length)=false:=decide_eq_false (by omega)
  clear c2
  replace H:=Option.bind_eq_some_iff.mp H
  obtain ⟨t449,A30,H⟩:=H
  replace H:((slices_Concat_byte_byte.f k (([l0,t449]:List (List Int)))).bind fun t455=>(some (t455,0)))=some (r1,r2):=H
  have A3:=Aside0.mk A30
  clear A30
  obtain ⟨y452,hy452⟩:∃ y_:List (List Int),y_=(([l0,t449]:List (List Int))):=⟨_,rfl⟩
  replace H:((slices_Concat_byte_byte.f k y452).bind fun t455=>(some (t455,0)))=some (r1,r2):=by first|(rw [hy452];with_reducible exact H)|(have H2_:=(Option.bind_some _ _).symm.trans H;rw [hy452];with_reducible exact H2_)|(have H2_:=(Option.bind_some _ _).symm.trans H;with_reducible exact H2_)|with_reducible exact H|(rw [hy452];exact H)|exact H
  have Ny452:=Aside0.mk hy452
  clear hy452
  replace H:=Option.bind_eq_some_iff.mp H
  obtain ⟨t455,A40,H⟩:=H
  replace H:(some (t455,0))=some (r1,r2):=H
  have A4:=Aside0.mk A40
  clear A40
  simp only [Option.some.injEq,Prod.mk.injEq] at H
  obtain ⟨rfl,rfl⟩:=H
  go_enter Try.func55,Try.ntmps55
  go_wp2_with (first|((with_reducible refine gate_callee (f:=64) rfl ?_);refine goesL_ (some 9) rfl rfl Try.func64 (by kernel_rfl) rfl #[.slice A0 l0.length c0] rfl (by (try simp only [List.map_toArray,List.map_cons,List.map_nil]);first|done|rfl|(simp only [List.length_drop,List.length_take];rfl)) ?_;(with_reducible refine (seal_sum.calls k _ _ l0 t449 _ ?side1 ?side2 A3.out).mono ?_);(case side1=>repeat (first|exact (Kd.V_reads' HO0.out).2.2|(with_reducible refine Kd.C_alloc ?_ _)|(with_reducible refine Kd.C_drewN ?_ _)|(with_reducible refine Kd.C_drew ?_)));(case side2=>exact (Kd.V_reads' HO0.out).2.1);rintro e w5 ⟨v450,rfl,ho0,hb⟩;refine ⟨_,rfl,?_⟩;have n0_:=Aside0.mk (Kd.V_elder' (by (with_reducible repeat (first|apply Kd.V_alloc|apply Kd.V_drewN|apply Kd.V_drew));exact HO0.out) (Kd.R_base ho0) hb);have n1_:=Aside0.mk (Kd.R_lower (Kd.R_newM (M:=fun k_=>(w.heap.size≤k_)) ho0 (below_size (by repeat (first|(with_reducible first|exact HB.out|apply below_alloc|apply pw_below_drewN|apply below_drew1)|exact HB.out))) (fun k_ h_=>h_)) (below_size (by repeat (first|(with_reducible first|exact HB.out|apply below_alloc|apply pw_below_drewN|apply below_drew1)|exact HB.out))));have n2_:=Aside0.mk (below_step (by repeat (first|(with_reducible first|exact HB.out|apply below_alloc|apply pw_below_drewN|apply below_drew1)|exact HB.out)) hb);clear HO0 HB;have HO0:=n0_;have HO451:=n1_;have HB:=n2_;clear n0_ n1_ n2_;(try clear hb);(try clear hb2);(try clear hk);(try clear hi);(try clear ho0);obtain ⟨Ao6,co6,eo6⟩:=Kd.R_slice HO451.out;subst eo6)|((with_reducible refine gate_dst (N:=10) rfl ?_);refine Kd.N_lit (Kd.slice 5 (Kd.int .u8)) _ 48 ?hg (N':=10) ?hd (xs:=([l0,t449]:List (List Int))) (inner:=[.slice A0 l0.length c0,.slice Ao6 t449.length co6]) (ok:=(fun k_=>(P0_ k_∨w.heap.size≤k_))) (okp:=(fun k_=>(P0_ k_∨w.heap.size≤k_))) ?hr ?hp (fun _ hk=>hk) ((show ∀ k_,w5.heap.size≤k_ → (fun k_=>(P0_ k_∨w.heap.size≤k_)) k_ from fun k_ hk=>(.inr (Nat.le_trans (below_size (by repeat (first|(with_reducible first|exact HB.out|apply below_alloc|apply pw_below_drewN|apply below_drew1)|exact HB.out))) hk))) _ (Nat.le_refl _)) (Below.refl _ _) (Nat.le_refl _) (by simp) ?_;(case hd=>rfl);(case hg=>rfl);(case hr=>first|(go_simp;done)|(go_simp;rfl));(case hp=>exact (Reps.one (show Kd.FK (Kd.slice 5 (Kd.int .u8)) _ _ l0 [.slice A0 l0.length c0] from (Kd.FK_slice_mk (Kd.V_reads' (Kd.V_mono (ok':=(fun k_=>(P0_ k_∨w.heap.size≤k_))) (HO0.out) (fun k_ hk=>hk.1))).2.1 (Kd.V_F (Kd.V_mono (ok':=(fun k_=>(P0_ k_∨w.heap.size≤k_))) (HO0.out) (fun k_ hk=>hk.1))))) (Reps.one (show Kd.FK (Kd.slice 5 (Kd.int .u8)) _ _ t449 [.slice Ao6 t449.length co6] from (Kd.FK_slice_mk (Kd.R_reads' (Kd.R_mono (ok':=(fun k_=>(P0_ k_∨w.heap.size≤k_))) (HO451.out) (fun k_ hk=>(.inr (hk.1))))).2.1 (Kd.R_F (Kd.R_mono (ok':=(fun k_=>(P0_ k_∨w.heap.size≤k_))) (HO451.out) (fun k_ hk=>(.inr (hk.1))))))) (Reps.none _ _))));intro v453 w7 ho8 hb hg_ hnew_;clear hg_ hnew_;(first|rw [← Ny452.out] at ho8|(simp only [Int.reduceToNat] at ho8;rw [← Ny452.out] at ho8));have n0_:=Aside0.mk (Kd.V_elder' (by (with_reducible repeat (first|apply Kd.V_alloc|apply Kd.V_drewN|apply Kd.V_drew));exact HO0.out) (Kd.N_base ho8) hb);have n1_:=Aside0.mk (Kd.N_lower ho8 (below_size (by repeat (first|(with_reducible first|exact HB.out|apply below_alloc|apply pw_below_drewN|apply below_drew1)|exact HB.out))));have n2_:=Aside0.mk (below_step (by repeat (first|(with_reducible first|exact HB.out|apply below_alloc|apply pw_below_drewN|apply below_drew1)|exact HB.out)) hb);clear HO0 HB HO451;have HO0:=n0_;have HO454:=n1_;have HB:=n2_;clear n0_ n1_ n2_;clear hb ho8;obtain ⟨Ao9,co9,eo9⟩:=Kd.N_slice HO454.out;subst eo9)|((with_reducible refine gate_callee (f:=63) rfl ?_);refine goesL_ (some 11) rfl rfl Try.func63 (by kernel_rfl) rfl #[.slice Ao9 y452.length co9] rfl (by (try simp only [List.map_toArray,List.map_cons,List.map_nil]);first|done|rfl|(simp only [List.length_drop,List.length_take];rfl)) ?_;(with_reducible refine (slices_Concat_byte_byte.calls k _ _ y452 t455 _ ?side1 ?side2 A4.out).mono ?_);(case side1=>repeat (first|exact (Kd.N_reads' HO454.out).2.2|(with_reducible refine Kd.C_alloc ?_ _)|(with_reducible refine Kd.C_drewN ?_ _)|(with_reducible refine Kd.C_drew ?_)));(case side2=>exact (Kd.N_reads' HO454.out).2.1);rintro e w10 ⟨v456,rfl,ho0,hb⟩;refine ⟨_,rfl,?_⟩;have n0_:=Aside0.mk (Kd.V_elder' (by (with_reducible repeat (first|apply Kd.V_alloc|apply Kd.V_drewN|apply Kd.V_drew));exact HO0.out) (Kd.R_base ho0) hb);have n1_:=Aside0.mk (Kd.N_elder' (by (with_reducible repeat (first|apply Kd.N_alloc|apply Kd.N_drewN|apply Kd.N_drew));exact HO454.out) (Kd.R_base ho0) hb);have n2_:=Aside0.mk (Kd.R_lower (Kd.R_newM (M:=fun k_=>(w.heap.size≤k_)) ho0 (below_size (by repeat (first|(with_reducible first|exact HB.out|apply below_alloc|apply pw_below_drewN|apply below_drew1)|exact HB.out))) (fun k_ h_=>h_)) (below_size (by repeat (first|(with_reducible first|exact HB.out|apply below_alloc|apply pw_below_drewN|apply below_drew1)|exact HB.out))));have n3_:=Aside0.mk (below_step (by repeat (first|(with_reducible first|exact HB.out|apply below_alloc|apply pw_below_drewN|apply below_drew1)|exact HB.out)) hb);clear HO0 HO454 HB;have HO0:=n0_;have HO454:=n1_;have HO457:=n2_;have HB:=n3_;clear n0_ n1_ n2_ n3_;(try clear hb);(try clear hb2);(try clear hk);(try clear hi);(try clear ho0)))
  go_ret2
  exact ⟨_,by first|rfl|(simp [errW_none,errW_some] <;> rfl)|(simp [*,errW_none,errW_some] <;> rfl),by (with_reducible repeat (first|apply Kd.R_alloc|apply Kd.R_drewN|apply Kd.R_drew));exact Kd.R_mono HO457.out (fun _ hk=>hk.1),by repeat (first|(with_reducible first|exact HB.out|apply below_alloc|apply pw_below_drewN|apply below_drew1)|exact HB.out)⟩
end Go.Proofs.Ytbdnmdmfnopihaa.Print
end
section
namespace Go.Proofs.Ytbdnmdmfnopihaa.Print
open Go.RowKit Go.Proofs.YtbdnmdmfnopihaaW.PrintWords Go.Proofs.YtbdnmdmfnopihaaW.PrintLast Go.Proofs.YtbdnmdmfnopihaaW.PrintMore
attribute [local go_sem] max2_int min2_int max_two min_two max_three min_three max_four min_four   -- for this text's walks alone
attribute [local go_sem ↓] Go.Proofs.Ytbdnmdmfnopihaa.Sem.isSome_setCell
attribute [local go_sem] Go.Instr.field Go.asAgg
set_option linter.unusedVariables false
set_option linter.unusedSimpArgs false
mutual
def layout_EncodeSuper.j0:Nat → Bool → Int → Int → Int → Bool → Int → Option (List Int × Int)
 | 0,_,_,_,_,_,_=>none
 | k + 1,x34,x459000,x459001,x459002,x459003,x459004=>if x34=true then (some (([]:List Int),1)) else (if x459003=true then (layout_EncodeSuper.j1 k 1 x459000 x459001 x459002 x459003 x459004) else (layout_EncodeSuper.j1 k 0 x459000 x459001 x459002 x459003 x459004))
def layout_EncodeSuper.j1:Nat → Int → Int → Int → Int → Bool → Int → Option (List Int × Int)
 | 0,_,_,_,_,_,_=>none
 | k + 1,x5,x459000,x459001,x459002,x459003,x459004=>(layout_superWidths.f).bind fun t461=>((seal_Pack.f k t461 (([1397508432,IntKind.u64.wrap (x459000),IntKind.u64.wrap (x459001),x5,IntKind.u64.wrap (x459002),IntKind.u64.wrap (x459004)]:List Int))).bind fun bt467=>(if bt467.2=0 then (if 0≤(wrap64 (252 - (bt467.1.length:Int))) then (if bt467.1.length + (wrap64 (252 - (bt467.1.length:Int)):Int).toNat < 140737488355328 then ((seal_Seal.f k (bt467.1 ++ List.replicate (wrap64 (252 - (bt467.1.length:Int)):Int).toNat 0)).bind fun bt474=>(some (bt474.1,bt474.2))) else (none)) else (none)) else (some (([]:List Int),bt467.2))))
end
def layout_EncodeSuper.f (k:Nat) (a0_0:Int) (a0_1:Int) (a0_2:Int) (a0_3:Bool) (a0_4:Int):Option (List Int × Int):=(layout_Check.f k a0_0 a0_1).bind fun t459=>(if t459=0 then (if a0_2 < 0 then (layout_EncodeSuper.j0 k true a0_0 a0_1 a0_2 a0_3 a0_4) else ((layout_Inodes.f k a0_0 a0_1).bind fun t460=>(if a0_2 > t460 then (layout_EncodeSuper.j0 k true a0_0 a0_1 a0_2 a0_3 a0_4) else (if a0_4 < 0 then (layout_EncodeSuper.j0 k true a0_0 a0_1 a0_2 a0_3 a0_4) else (layout_EncodeSuper.j0 k (decide (a0_4 > 1152921504606846976)) a0_0 a0_1 a0_2 a0_3 a0_4))))) else (some (([]:List Int),t459)))
def layout_EncodeSuper.T4:Bool × List (List Nat × List Nat):=(true,[([],[]),([0],[0]),([1],[1]),([2],[2]),([3],[3]),([4,3],[3,4]),([3],[3]),([6,3],[3,6]),([7,3,3],[3,7]),([5,8,3],[3,5,8]),([3,9],[3,9]),([10,8],[10]),([11],[11]),([12,11],[11,12]),([13,11],[11,13]),([11,14],[11,14]),([15,11],[15]),([16],[16]),([17,16],[16,17]),([18,16],[16,18]),([16,19],[16,19])])
def layout_EncodeSuper.B4:List Nat:=[0,1,3,7,15,31,15,79,207,511,1023,2047,4095,8191,16383,32767,65535,131071,262143,524287,1048575]
theorem layout_EncodeSuper.tab4:rtab .any (opsOf Try.f40 4)=layout_EncodeSuper.T4:=by kernel_rfl
theorem layout_EncodeSuper.bits4:waitsOk layout_EncodeSuper.T4.2 layout_EncodeSuper.B4=true:=by kernel_rfl
def layout_EncodeSuper.T9:Bool × List (List Nat × List Nat):=(true,[([],[]),([],[]),([1],[1]),([2],[2]),([3],[3]),([],[]),([5],[5]),([6],[6]),([7],[7]),([],[]),([],[]),([10],[10]),([11],[11]),([],[]),([13],[13]),([14],[14]),([4,8,9,12,15],[4,8,9,12,15]),([0,16,0],[0,16]),([17],[17]),([18],[18]),([18],[18]),([19,17,0,1,2,3,4,5,6,7,8,9,10,11,12,13,14,15,16,17,18,19],[19]),([20,21,0,1,2,3,4,5,6,7,8,9,10,11,12,13,14,15,16,17,18,19,20,21],[20])])
def layout_EncodeSuper.B9:List Nat:=[0,0,2,6,14,0,32,96,224,0,0,1024,3072,0,8192,24576,65534,131071,262143,524287,524287,1048575,4194303]
theorem layout_EncodeSuper.tab9:rtab .any (opsOf Try.f40 9)=layout_EncodeSuper.T9:=by kernel_rfl
theorem layout_EncodeSuper.bits9:waitsOk layout_EncodeSuper.T9.2 layout_EncodeSuper.B9=true:=by kernel_rfl
set_option maxHeartbeats 8000000 in
set_option maxRecDepth 100000 in
theorem layout_EncodeSuper.calls (k:Nat) (a0_0:Int) (a0_1:Int) (a0_2:Int) (a0_3:Bool) (a0_4:Int) (r1:List Int) (r2:Int) (w:World) (h:layout_EncodeSuper.f k a0_0 a0_1 a0_2 a0_3 a0_4=some (r1,r2)) :
  Calls Try.prog 40 #[.agg #[.int .i64 a0_0,.int .i64 a0_1,.int .i64 a0_2,.bool a0_3,.int .i64 a0_4]] w fun e w'=>∃ v0_:Value,e=.returned (.tuple #[v0_,.int .i64 r2])∧Kd.R (Kd.int .u8) 5 w' w.heap.size (fun _=>True) v0_ r1∧Below w.heap.size w w':=by
 have hu63:=Try.underlying63
 have hu24:=Try.underlying24
 have HB:=Aside0.mk (Below.refl w.heap.size w)
 have H:((layout_Check.f k a0_0 a0_1).bind fun t459=>(if t459=0 then (if a0_2 < 0 then (layout_EncodeSuper.j0 k true a0_0 a0_1 a0_2 a0_3 a0_4) else ((layout_Inodes.f k a0_0 a0_1).bind fun t460=>(if a0_2 > t460 then (layout_EncodeSuper.j0 k true a0_0 a0_1 a0_2 a0_3 a0_4) else (if a0_4 < 0 then (layout_EncodeSuper.j0 k true a0_0 a0_1 a0_2 a0_3 a0_4) else (layout_EncodeSuper.j0 k (decide (a0_4 > 1152921504606846976)) a0_0 a0_1 a0_2 a0_3 a0_4))))) else (some (([]:List Int),t459))))=some (r1,r2):=h
 clear h
 replace H:=Option.bind_eq_some_iff.mp H
 obtain ⟨t459,A20,H⟩:=H
 replace H:(if t459=0 then (if a0_2 < 0 then (layout_EncodeSuper.j0 k true a0_0 a0_1 a0_2 a0_3 a0_4) else ((layout_Inodes.f k a0_0 a0_1).bind fun t460=>(if a0_2 > t460 then (layout_EncodeSuper.j0 k true a0_0 a0_1 a0_2 a0_3 a0_4) else (if a0_4 < 0 then (layout_EncodeSuper.j0 k true a0_0 a0_1 a0_2 a0_3 a0_4) else (layout_EncodeSuper.j0 k (decide (a0_4 > 1152921504606846976)) a0_0 a0_1 a0_2 a0_3 a0_4))))) else (some (([]:List Int),t459)))=some (r1,r2):=H
 have A2:=Aside0.mk A20
 clear A20
 by_cases c3:t459=0
 ·rw [if_pos c3] at H
  have c3b0:(t459 == 0)=true:=beq_iff_eq.mpr c3
  have c3b1:(t459 != 0)=false:=bne_eq_false_iff_eq.mpr c3
  clear c3
  have HC4:=Aside0.mk H
  clear H
  go_enter Try.func40,Try.ntmps40
  go_upto_region 4 with (first|((with_reducible refine gate_dst (N:=1) rfl ?_);refine box_event ?hg (N:=1) ?hd (cs:=#[.int .i64 a0_0,.int .i64 a0_1,.int .i64 a0_2,.bool a0_3,.int .i64 a0_4]) (t:=63) ?hr ?_;(case hd=>rfl);(case hg=>rfl);(case hr=>first|(go_simp;done)|(go_simp;rfl));intro gb458 hg w5 hbox hb;have n0_:=Aside0.mk (below_step (by repeat (first|(with_reducible first|exact HB.out|apply below_alloc|apply pw_below_drewN|apply below_drew1)|exact HB.out)) hb);have n1_:=Aside0.mk (hbox);have n2_:=Aside0.mk ((by rw [hg];exact (below_size (by repeat (first|(with_reducible first|exact HB.out|apply below_alloc|apply pw_below_drewN|apply below_drew1)|exact HB.out))):w.heap.size≤gb458));have n3_:=Aside0.mk ((by rw [hg];exact (below_size (by repeat (first|(with_reducible first|exact HB.out|apply below_alloc|apply pw_below_drewN|apply below_drew1)|exact HB.out))):w.heap.size≤gb458));clear HB;have HB:=n0_;have BK458:=n1_;have GW458:=n2_;have GE458:=n3_;clear n0_ n1_ n2_ n3_;clear hb hbox hg;have hcz6_0:w5.cell? ⟨gb458,0,none⟩=some (.int .i64 a0_0):=(blk_cell BK458.out 0).trans rfl;have hcz6_1:w5.cell? ⟨gb458,1,none⟩=some (.int .i64 a0_1):=(blk_cell BK458.out 1).trans rfl;have hcz6_2:w5.cell? ⟨gb458,2,none⟩=some (.int .i64 a0_2):=(blk_cell BK458.out 2).trans rfl;have hcz6_3:w5.cell? ⟨gb458,3,none⟩=some (.bool a0_3):=(blk_cell BK458.out 3).trans rfl;have hcz6_4:w5.cell? ⟨gb458,4,none⟩=some (.int .i64 a0_4):=(blk_cell BK458.out 4).trans rfl;have hfz6_0:=blk_frozen BK458.out 0;have hfz6_1:=blk_frozen BK458.out 1;have hfz6_2:=blk_frozen BK458.out 2;have hfz6_3:=blk_frozen BK458.out 3;have hfz6_4:=blk_frozen BK458.out 4)|((with_reducible refine gate_callee (f:=15) rfl ?_);refine goesL_ (some 10) rfl rfl Try.func15 (by kernel_rfl) rfl #[.agg #[.int .i64 a0_0,.int .i64 a0_1]] rfl (by (try simp only [List.map_toArray,List.map_cons,List.map_nil]);first|done|rfl|(simp only [List.length_drop,List.length_take];rfl)) ?_;(with_reducible refine (layout_Check.calls k a0_0 a0_1 t459 _ A2.out).mono ?_);rintro e w7 ⟨rfl,hb⟩;refine ⟨_,rfl,?_⟩;have n0_:=Aside0.mk (blk_below (g:=gb458) (o:=.cells #[.int .i64 a0_0,.int .i64 a0_1,.int .i64 a0_2,.bool a0_3,.int .i64 a0_4] 63 (0,0)) (by (with_reducible repeat (first|refine blk_drewN ?_ _|refine blk_drew ?_|refine blk_alloc ?_ _));exact BK458.out) hb);have n1_:=Aside0.mk (below_step (by repeat (first|(with_reducible first|exact HB.out|apply below_alloc|apply pw_below_drewN|apply below_drew1|refine below_set ?_ GE458.out)|exact HB.out)) hb);clear BK458 HB;have BK458:=n0_;have HB:=n1_;clear n0_ n1_;(try clear hb);(try clear hb2);(try clear hk);(try clear hi)))
  (try simp only [Act.put,List.setIfInBounds_toArray,List.set_cons_zero,List.set_cons_succ])
  go_cut [34] (fun v34 wc=>∃ (kq:Nat) (x34_3:Bool),v34=.bool x34_3∧Aside0 (layout_EncodeSuper.j0 kq x34_3 a0_0 a0_1 a0_2 a0_3 a0_4=some (r1,r2))∧Aside0 (kq≤k)∧Aside0 (wc.heap[gb458]?=some (.cells #[.int .i64 a0_0,.int .i64 a0_1,.int .i64 a0_2,.bool a0_3,.int .i64 a0_4] 63 (0,0)))∧Aside0 (Below w.heap.size w wc))
  case first =>
   have H:=HC4.out
   clear HC4
   by_cases c8:a0_2 < 0
   ·rw [if_pos c8] at H
    have c8b0:decide (a0_2 < 0)=true:=decide_eq_true c8
    clear c8
    (first|rw [c8b0]|(simp only [i64_w,i32_w];rw [c8b0])|skip)
    have H':=Aside0.mk H
    clear H
    try go_wp2
    have n0_:=Aside0.mk (blk_drew BK458.out)
    have n1_:=Aside0.mk (below_drew1 HB.out)
    clear BK458 HB
    have BK458:=n0_
    have HB:=n1_
    clear n0_ n1_
    refine start_ (n:=21) (S:=fun w'=>w'.cell? ⟨gb458,0,none⟩=some (.int .i64 a0_0)∧w'.cell? ⟨gb458,1,none⟩=some (.int .i64 a0_1)∧w'.cell? ⟨gb458,2,none⟩=some (.int .i64 a0_2)∧w'.cell? ⟨gb458,3,none⟩=some (.bool a0_3)∧w'.cell? ⟨gb458,4,none⟩=some (.int .i64 a0_4)) (ds:=[]) #[false,false,false,false,false,false,false,false,false,false,false,false,false,false,false,false,false,false,false,false,false] (by kernel_rfl) rfl rfl ⟨(blk_cell BK458.out 0).trans rfl,(blk_cell BK458.out 1).trans rfl,(blk_cell BK458.out 2).trans rfl,(blk_cell BK458.out 3).trans rfl,(blk_cell BK458.out 4).trans rfl⟩ (fun hHeld=>?_);refine with_tabW layout_EncodeSuper.tab4 layout_EncodeSuper.bits4 (fun HT_ HW_=>?_)
    generalize w7.drew=w9 at BK458 HB hHeld ⊢
    refine pure_ (i:=0) (N:=some 14) (v:=?_) (a':=?_) #[true,false,false,false,false,false,false,false,false,false,false,false,false,false,false,false,false,false,false,false,false] rfl rfl (any_of HT_.out (by kernel_rfl)) (fun _ _ _ h=>h) (Or.inl ⟨by rfl,?_⟩) ?_ ?_
    rotate_left
    ·intro w'
     go_simp
     with_reducible rfl
    rotate_left
    ·simp only [Act.put,List.setIfInBounds_toArray,List.set_cons_zero,List.set_cons_succ,i64_w,i32_w]
     rfl
    refine take_ (i:=1) (N:=some 15) (v:=?_) (a':=?_) #[true,true,false,false,false,false,false,false,false,false,false,false,false,false,false,false,false,false,false,false,false] rfl rfl (take_ofW HT_.out HW_.out (by kernel_rfl)) (fun _ _ _ h=>h) (Or.inl ⟨by rfl,?_⟩) hHeld ?_ ?_
    rotate_left
    ·rintro w' ⟨s0,s1,s2,s3,s4⟩
     go_simp
     with_reducible rfl
    rotate_left
    ·simp only [Act.put,List.setIfInBounds_toArray,List.set_cons_zero,List.set_cons_succ,i64_w,i32_w]
     rfl
    refine pure_ (i:=2) (N:=some 16) (v:=?_) (a':=?_) #[true,true,true,false,false,false,false,false,false,false,false,false,false,false,false,false,false,false,false,false,false] rfl rfl (any_of HT_.out (by kernel_rfl)) (fun _ _ _ h=>h) (Or.inl ⟨by rfl,?_⟩) ?_ ?_
    rotate_left
    ·intro w'
     go_simp
     with_reducible rfl
    rotate_left
    ·simp only [Act.put,List.setIfInBounds_toArray,List.set_cons_zero,List.set_cons_succ,i64_w,i32_w]
     rfl
    refine pure_ (i:=3) (N:=some 17) (v:=?_) (a':=?_) #[true,true,true,true,false,false,false,false,false,false,false,false,false,false,false,false,false,false,false,false,false] rfl rfl (any_of HT_.out (by kernel_rfl)) (fun _ _ _ h=>h) (Or.inl ⟨by rfl,?_⟩) ?_ ?_
    rotate_left
    ·intro w'
     go_simp
     with_reducible rfl
    rotate_left
    ·simp only [Act.put,List.setIfInBounds_toArray,List.set_cons_zero,List.set_cons_succ,i64_w,i32_w]
     rfl
    refine pure_ (i:=4) (N:=some 18) (v:=undef) (a':=?_) #[true,true,true,true,true,false,false,false,false,false,false,false,false,false,false,false,false,false,false,false,false] rfl rfl (any_of HT_.out (by kernel_rfl)) (fun _ _ _ h=>h) (Or.inr ⟨by rfl,rfl⟩) ?_ ?_
    rotate_left
    ·simp only [Act.put,List.setIfInBounds_toArray,List.set_cons_zero,List.set_cons_succ,i64_w,i32_w]
     rfl
    refine pure_ (i:=5) (N:=some 19) (v:=undef) (a':=?_) #[true,true,true,true,true,true,false,false,false,false,false,false,false,false,false,false,false,false,false,false,false] rfl rfl (any_of HT_.out (by kernel_rfl)) (fun _ _ _ h=>h) (Or.inr ⟨by rfl,rfl⟩) ?_ ?_
    rotate_left
    ·simp only [Act.put,List.setIfInBounds_toArray,List.set_cons_zero,List.set_cons_succ,i64_w,i32_w]
     rfl
    refine pure_ (i:=6) (N:=some 20) (v:=undef) (a':=?_) #[true,true,true,true,true,true,true,false,false,false,false,false,false,false,false,false,false,false,false,false,false] rfl rfl (any_of HT_.out (by kernel_rfl)) (fun _ _ _ h=>h) (Or.inr ⟨by rfl,rfl⟩) ?_ ?_
    rotate_left
    ·simp only [Act.put,List.setIfInBounds_toArray,List.set_cons_zero,List.set_cons_succ,i64_w,i32_w]
     rfl
    refine pure_ (i:=7) (N:=some 21) (v:=undef) (a':=?_) #[true,true,true,true,true,true,true,true,false,false,false,false,false,false,false,false,false,false,false,false,false] rfl rfl (any_of HT_.out (by kernel_rfl)) (fun _ _ _ h=>h) (Or.inr ⟨by rfl,rfl⟩) ?_ ?_
    rotate_left
    ·simp only [Act.put,List.setIfInBounds_toArray,List.set_cons_zero,List.set_cons_succ,i64_w,i32_w]
     rfl
    refine pure_ (i:=8) (N:=some 22) (v:=undef) (a':=?_) #[true,true,true,true,true,true,true,true,true,false,false,false,false,false,false,false,false,false,false,false,false] rfl rfl (any_of HT_.out (by kernel_rfl)) (fun _ _ _ h=>h) (Or.inr ⟨by rfl,rfl⟩) ?_ ?_
    rotate_left
    ·simp only [Act.put,List.setIfInBounds_toArray,List.set_cons_zero,List.set_cons_succ,i64_w,i32_w]
     rfl
    refine pure_ (i:=9) (N:=some 23) (v:=undef) (a':=?_) #[true,true,true,true,true,true,true,true,true,true,false,false,false,false,false,false,false,false,false,false,false] rfl rfl (any_of HT_.out (by kernel_rfl)) (fun _ _ _ h=>h) (Or.inr ⟨by rfl,rfl⟩) ?_ ?_
    rotate_left
    ·simp only [Act.put,List.setIfInBounds_toArray,List.set_cons_zero,List.set_cons_succ,i64_w,i32_w]
     rfl
    refine pure_ (i:=10) (N:=some 24) (v:=?_) (a':=?_) #[true,true,true,true,true,true,true,true,true,true,true,false,false,false,false,false,false,false,false,false,false] rfl rfl (any_of HT_.out (by kernel_rfl)) (fun _ _ _ h=>h) (Or.inl ⟨by rfl,?_⟩) ?_ ?_
    rotate_left
    ·intro w'
     go_simp
     with_reducible rfl
    rotate_left
    ·simp only [Act.put,List.setIfInBounds_toArray,List.set_cons_zero,List.set_cons_succ,i64_w,i32_w]
     rfl
    refine pure_ (i:=11) (N:=some 25) (v:=?_) (a':=?_) #[true,true,true,true,true,true,true,true,true,true,true,true,false,false,false,false,false,false,false,false,false] rfl rfl (any_of HT_.out (by kernel_rfl)) (fun _ _ _ h=>h) (Or.inl ⟨by rfl,?_⟩) ?_ ?_
    rotate_left
    ·intro w'
     go_simp
     with_reducible rfl
    rotate_left
    ·simp only [Act.put,List.setIfInBounds_toArray,List.set_cons_zero,List.set_cons_succ,i64_w,i32_w]
     rfl
    refine pure_ (i:=12) (N:=some 26) (v:=undef) (a':=?_) #[true,true,true,true,true,true,true,true,true,true,true,true,true,false,false,false,false,false,false,false,false] rfl rfl (any_of HT_.out (by kernel_rfl)) (fun _ _ _ h=>h) (Or.inr ⟨by rfl,rfl⟩) ?_ ?_
    rotate_left
    ·simp only [Act.put,List.setIfInBounds_toArray,List.set_cons_zero,List.set_cons_succ,i64_w,i32_w]
     rfl
    refine pure_ (i:=13) (N:=some 27) (v:=undef) (a':=?_) #[true,true,true,true,true,true,true,true,true,true,true,true,true,true,false,false,false,false,false,false,false] rfl rfl (any_of HT_.out (by kernel_rfl)) (fun _ _ _ h=>h) (Or.inr ⟨by rfl,rfl⟩) ?_ ?_
    rotate_left
    ·simp only [Act.put,List.setIfInBounds_toArray,List.set_cons_zero,List.set_cons_succ,i64_w,i32_w]
     rfl
    refine pure_ (i:=14) (N:=some 28) (v:=undef) (a':=?_) #[true,true,true,true,true,true,true,true,true,true,true,true,true,true,true,false,false,false,false,false,false] rfl rfl (any_of HT_.out (by kernel_rfl)) (fun _ _ _ h=>h) (Or.inr ⟨by rfl,rfl⟩) ?_ ?_
    rotate_left
    ·simp only [Act.put,List.setIfInBounds_toArray,List.set_cons_zero,List.set_cons_succ,i64_w,i32_w]
     rfl
    refine pure_ (i:=15) (N:=some 29) (v:=?_) (a':=?_) #[true,true,true,true,true,true,true,true,true,true,true,true,true,true,true,true,false,false,false,false,false] rfl rfl (any_of HT_.out (by kernel_rfl)) (fun _ _ _ h=>h) (Or.inl ⟨by rfl,?_⟩) ?_ ?_
    rotate_left
    ·intro w'
     go_simp
     with_reducible rfl
    rotate_left
    ·simp only [Act.put,List.setIfInBounds_toArray,List.set_cons_zero,List.set_cons_succ,i64_w,i32_w]
     rfl
    refine pure_ (i:=16) (N:=some 30) (v:=?_) (a':=?_) #[true,true,true,true,true,true,true,true,true,true,true,true,true,true,true,true,true,false,false,false,false] rfl rfl (any_of HT_.out (by kernel_rfl)) (fun _ _ _ h=>h) (Or.inl ⟨by rfl,?_⟩) ?_ ?_
    rotate_left
    ·intro w'
     go_simp
     with_reducible rfl
    rotate_left
    ·simp only [Act.put,List.setIfInBounds_toArray,List.set_cons_zero,List.set_cons_succ,i64_w,i32_w]
     rfl
    refine pure_ (i:=17) (N:=some 31) (v:=undef) (a':=?_) #[true,true,true,true,true,true,true,true,true,true,true,true,true,true,true,true,true,true,false,false,false] rfl rfl (any_of HT_.out (by kernel_rfl)) (fun _ _ _ h=>h) (Or.inr ⟨by rfl,rfl⟩) ?_ ?_
    rotate_left
    ·simp only [Act.put,List.setIfInBounds_toArray,List.set_cons_zero,List.set_cons_succ,i64_w,i32_w]
     rfl
    refine pure_ (i:=18) (N:=some 32) (v:=undef) (a':=?_) #[true,true,true,true,true,true,true,true,true,true,true,true,true,true,true,true,true,true,true,false,false] rfl rfl (any_of HT_.out (by kernel_rfl)) (fun _ _ _ h=>h) (Or.inr ⟨by rfl,rfl⟩) ?_ ?_
    rotate_left
    ·simp only [Act.put,List.setIfInBounds_toArray,List.set_cons_zero,List.set_cons_succ,i64_w,i32_w]
     rfl
    refine pure_ (i:=19) (N:=some 33) (v:=undef) (a':=?_) #[true,true,true,true,true,true,true,true,true,true,true,true,true,true,true,true,true,true,true,true,false] rfl rfl (any_of HT_.out (by kernel_rfl)) (fun _ _ _ h=>h) (Or.inr ⟨by rfl,rfl⟩) ?_ ?_
    rotate_left
    ·simp only [Act.put,List.setIfInBounds_toArray,List.set_cons_zero,List.set_cons_succ,i64_w,i32_w]
     rfl
    refine pure_ (i:=20) (N:=some 34) (v:=?_) (a':=?_) #[true,true,true,true,true,true,true,true,true,true,true,true,true,true,true,true,true,true,true,true,true] rfl rfl (any_of HT_.out (by kernel_rfl)) (fun _ _ _ h=>h) (Or.inl ⟨by rfl,?_⟩) ?_ ?_
    rotate_left
    ·intro w'
     go_simp
     with_reducible rfl
    rotate_left
    ·simp only [Act.put,List.setIfInBounds_toArray,List.set_cons_zero,List.set_cons_succ,i64_w,i32_w]
     rfl
    refine done_ (done_of HT_.out (by kernel_rfl)) ?_
    try go_wp2
    go_meet
    case rel=>exact ⟨_,(true),(by first|rfl|(simp;done)|(simp [*];done)),H',⟨by first|omega|exact Nat.le_refl _⟩,⟨by (with_reducible repeat (first|refine blk_drewN ?_ _|refine blk_drew ?_|refine blk_alloc ?_ _));exact BK458.out⟩,⟨by repeat (first|(with_reducible first|exact HB.out|apply below_alloc|apply pw_below_drewN|apply below_drew1|refine below_set ?_ GE458.out)|exact HB.out)⟩⟩
   ·rw [if_neg c8] at H
    have c8b0:decide (a0_2 < 0)=false:=decide_eq_false c8
    clear c8
    (first|rw [c8b0]|(simp only [i64_w,i32_w];rw [c8b0])|skip)
    replace H:=Option.bind_eq_some_iff.mp H
    obtain ⟨t460,A100,H⟩:=H
    replace H:(if a0_2 > t460 then (layout_EncodeSuper.j0 k true a0_0 a0_1 a0_2 a0_3 a0_4) else (if a0_4 < 0 then (layout_EncodeSuper.j0 k true a0_0 a0_1 a0_2 a0_3 a0_4) else (layout_EncodeSuper.j0 k (decide (a0_4 > 1152921504606846976)) a0_0 a0_1 a0_2 a0_3 a0_4)))=some (r1,r2):=H
    have A10:=Aside0.mk A100
    clear A100
    by_cases c11:a0_2 > t460
    ·rw [if_pos c11] at H
     have c11b0:decide (t460 < a0_2)=true:=decide_eq_true c11
     clear c11
     have H':=Aside0.mk H
     clear H
     try go_wp2
     have n0_:=Aside0.mk (blk_drew BK458.out)
     have n1_:=Aside0.mk (below_drew1 HB.out)
     clear BK458 HB
     have BK458:=n0_
     have HB:=n1_
     clear n0_ n1_
     refine start_ (n:=21) (S:=fun w'=>w'.cell? ⟨gb458,0,none⟩=some (.int .i64 a0_0)∧w'.cell? ⟨gb458,1,none⟩=some (.int .i64 a0_1)∧w'.cell? ⟨gb458,2,none⟩=some (.int .i64 a0_2)∧w'.cell? ⟨gb458,3,none⟩=some (.bool a0_3)∧w'.cell? ⟨gb458,4,none⟩=some (.int .i64 a0_4)) (ds:=[]) #[false,false,false,false,false,false,false,false,false,false,false,false,false,false,false,false,false,false,false,false,false] (by kernel_rfl) rfl rfl ⟨(blk_cell BK458.out 0).trans rfl,(blk_cell BK458.out 1).trans rfl,(blk_cell BK458.out 2).trans rfl,(blk_cell BK458.out 3).trans rfl,(blk_cell BK458.out 4).trans rfl⟩ (fun hHeld=>?_);refine with_tabW layout_EncodeSuper.tab4 layout_EncodeSuper.bits4 (fun HT_ HW_=>?_)
     generalize w7.drew=w12 at BK458 HB hHeld ⊢
     refine pure_ (i:=0) (N:=some 14) (v:=?_) (a':=?_) #[true,false,false,false,false,false,false,false,false,false,false,false,false,false,false,false,false,false,false,false,false] rfl rfl (any_of HT_.out (by kernel_rfl)) (fun _ _ _ h=>h) (Or.inl ⟨by rfl,?_⟩) ?_ ?_
     rotate_left
     ·intro w'
      go_simp
      with_reducible rfl
     rotate_left
     ·simp only [Act.put,List.setIfInBounds_toArray,List.set_cons_zero,List.set_cons_succ,i64_w,i32_w]
      rfl
     refine take_ (i:=1) (N:=some 15) (v:=?_) (a':=?_) #[true,true,false,false,false,false,false,false,false,false,false,false,false,false,false,false,false,false,false,false,false] rfl rfl (take_ofW HT_.out HW_.out (by kernel_rfl)) (fun _ _ _ h=>h) (Or.inl ⟨by rfl,?_⟩) hHeld ?_ ?_
     rotate_left
     ·rintro w' ⟨s0,s1,s2,s3,s4⟩
      go_simp
      with_reducible rfl
     rotate_left
     ·simp only [Act.put,List.setIfInBounds_toArray,List.set_cons_zero,List.set_cons_succ,i64_w,i32_w]
      rfl
     refine pure_ (i:=2) (N:=some 16) (v:=?_) (a':=?_) #[true,true,true,false,false,false,false,false,false,false,false,false,false,false,false,false,false,false,false,false,false] rfl rfl (any_of HT_.out (by kernel_rfl)) (fun _ _ _ h=>h) (Or.inl ⟨by rfl,?_⟩) ?_ ?_
     rotate_left
     ·intro w'
      go_simp
      with_reducible rfl
     rotate_left
     ·simp only [Act.put,List.setIfInBounds_toArray,List.set_cons_zero,List.set_cons_succ,i64_w,i32_w]
      rfl
     refine pure_ (i:=3) (N:=some 17) (v:=?_) (a':=?_) #[true,true,true,true,false,false,false,false,false,false,false,false,false,false,false,false,false,false,false,false,false] rfl rfl (any_of HT_.out (by kernel_rfl)) (fun _ _ _ h=>h) (Or.inl ⟨by rfl,?_⟩) ?_ ?_
     rotate_left
     ·intro w'
      go_simp
      with_reducible rfl
     rotate_left
     ·simp only [Act.put,List.setIfInBounds_toArray,List.set_cons_zero,List.set_cons_succ,i64_w,i32_w]
      rfl
     refine pure_ (i:=4) (N:=some 18) (v:=?_) (a':=?_) #[true,true,true,true,true,false,false,false,false,false,false,false,false,false,false,false,false,false,false,false,false] rfl rfl (any_of HT_.out (by kernel_rfl)) (fun _ _ _ h=>h) (Or.inl ⟨by rfl,?_⟩) ?_ ?_
     rotate_left
     ·intro w'
      go_simp
      with_reducible rfl
     rotate_left
     ·simp only [Act.put,List.setIfInBounds_toArray,List.set_cons_zero,List.set_cons_succ,i64_w,i32_w]
      rfl
     refine pure_ (i:=6) (N:=some 20) (v:=?_) (a':=?_) #[true,true,true,true,true,false,true,false,false,false,false,false,false,false,false,false,false,false,false,false,false] rfl rfl (any_of HT_.out (by kernel_rfl)) (fun _ _ _ h=>h) (Or.inl ⟨by rfl,?_⟩) ?_ ?_
     rotate_left
     ·intro w'
      go_simp
      with_reducible rfl
     rotate_left
     ·simp only [Act.put,List.setIfInBounds_toArray,List.set_cons_zero,List.set_cons_succ,i64_w,i32_w]
      rfl
     refine take_ (i:=5) (N:=some 19) (v:=?_) (a':=?_) #[true,true,true,true,true,true,true,false,false,false,false,false,false,false,false,false,false,false,false,false,false] rfl rfl (take_ofW HT_.out HW_.out (by kernel_rfl)) (fun _ _ _ h=>h) (Or.inl ⟨by rfl,?_⟩) hHeld ?_ ?_
     rotate_left
     ·rintro w' ⟨s0,s1,s2,s3,s4⟩
      go_simp
      with_reducible rfl
     rotate_left
     ·simp only [Act.put,List.setIfInBounds_toArray,List.set_cons_zero,List.set_cons_succ,i64_w,i32_w]
      rfl
     refine take_ (i:=7) (N:=some 21) (v:=?_) (a':=?_) #[true,true,true,true,true,true,true,true,false,false,false,false,false,false,false,false,false,false,false,false,false] rfl rfl (take_ofW HT_.out HW_.out (by kernel_rfl)) (fun _ _ _ h=>h) (Or.inl ⟨by rfl,?_⟩) hHeld ?_ ?_
     rotate_left
     ·rintro w' ⟨s0,s1,s2,s3,s4⟩
      go_simp
      with_reducible rfl
     rotate_left
     ·simp only [Act.put,List.setIfInBounds_toArray,List.set_cons_zero,List.set_cons_succ,i64_w,i32_w]
      rfl
     refine one_ (i:=8) (N:=some 22) #[true,true,true,true,true,true,true,true,true,false,false,false,false,false,false,false,false,false,false,false,false] rfl rfl (one_of HT_.out (by kernel_rfl)) (by decide) (fun K hK=>?_)
     refine goes_ Try.func23 (by kernel_rfl) rfl #[.agg #[.int .i64 a0_0,.int .i64 a0_1]] (by rfl) rfl rfl (by (try simp only [List.map_toArray,List.map_cons,List.map_nil]);first|done|rfl|(simp only [List.length_drop,List.length_take];rfl)) ?_
     with_reducible refine (layout_Inodes.calls k a0_0 a0_1 t460 _ A10.out).mono ?_
     rintro e w13 ⟨rfl,hb⟩
     refine ⟨_,rfl,?_⟩
     have n0_:=Aside0.mk (blk_below (g:=gb458) (o:=.cells #[.int .i64 a0_0,.int .i64 a0_1,.int .i64 a0_2,.bool a0_3,.int .i64 a0_4] 63 (0,0)) (by (with_reducible repeat (first|refine blk_drewN ?_ _|refine blk_drew ?_|refine blk_alloc ?_ _));exact BK458.out) hb)
     have n1_:=Aside0.mk (below_step (by repeat (first|(with_reducible first|exact HB.out|apply below_alloc|apply pw_below_drewN|apply below_drew1|refine below_set ?_ GE458.out)|exact HB.out)) hb)
     clear BK458 HB
     have BK458:=n0_
     have HB:=n1_
     clear n0_ n1_
     (try clear hb)
     (try clear hb2)
     (try clear hk)
     (try clear hi)
     refine hK.out _ _ ⟨(blk_cell BK458.out 0).trans rfl,(blk_cell BK458.out 1).trans rfl,(blk_cell BK458.out 2).trans rfl,(blk_cell BK458.out 3).trans rfl,(blk_cell BK458.out 4).trans rfl⟩ (fun hHeld=>?_)
     clear hK K
     refine norm_ (a':=?_) ?_ ?_
     rotate_left
     ·show Act.put _ (some 22) _=_
      simp only [Act.put,List.setIfInBounds_toArray,List.set_cons_zero,List.set_cons_succ,i64_w,i32_w]
      rfl
     refine pure_ (i:=9) (N:=some 23) (v:=?_) (a':=?_) #[true,true,true,true,true,true,true,true,true,true,false,false,false,false,false,false,false,false,false,false,false] rfl rfl (any_of HT_.out (by kernel_rfl)) (fun _ _ _ h=>h) (Or.inl ⟨by rfl,?_⟩) ?_ ?_
     rotate_left
     ·intro w'
      go_simp
      with_reducible rfl
     rotate_left
     ·simp only [Act.put,List.setIfInBounds_toArray,List.set_cons_zero,List.set_cons_succ,i64_w,i32_w]
      rfl
     refine pure_ (i:=10) (N:=some 24) (v:=?_) (a':=?_) #[true,true,true,true,true,true,true,true,true,true,true,false,false,false,false,false,false,false,false,false,false] rfl rfl (any_of HT_.out (by kernel_rfl)) (fun _ _ _ h=>h) (Or.inl ⟨by rfl,?_⟩) ?_ ?_
     rotate_left
     ·intro w'
      go_simp
      with_reducible rfl
     rotate_left
     ·simp only [Act.put,List.setIfInBounds_toArray,List.set_cons_zero,List.set_cons_succ,i64_w,i32_w]
      rfl
     refine pure_ (i:=11) (N:=some 25) (v:=?_) (a':=?_) #[true,true,true,true,true,true,true,true,true,true,true,true,false,false,false,false,false,false,false,false,false] rfl rfl (any_of HT_.out (by kernel_rfl)) (fun _ _ _ h=>h) (Or.inl ⟨by rfl,?_⟩) ?_ ?_
     rotate_left
     ·intro w'
      go_simp
      with_reducible rfl
     rotate_left
     ·simp only [Act.put,List.setIfInBounds_toArray,List.set_cons_zero,List.set_cons_succ,i64_w,i32_w]
      rfl
     refine pure_ (i:=12) (N:=some 26) (v:=undef) (a':=?_) #[true,true,true,true,true,true,true,true,true,true,true,true,true,false,false,false,false,false,false,false,false] rfl rfl (any_of HT_.out (by kernel_rfl)) (fun _ _ _ h=>h) (Or.inr ⟨by rfl,rfl⟩) ?_ ?_
     rotate_left
     ·simp only [Act.put,List.setIfInBounds_toArray,List.set_cons_zero,List.set_cons_succ,i64_w,i32_w]
      rfl
     refine pure_ (i:=13) (N:=some 27) (v:=undef) (a':=?_) #[true,true,true,true,true,true,true,true,true,true,true,true,true,true,false,false,false,false,false,false,false] rfl rfl (any_of HT_.out (by kernel_rfl)) (fun _ _ _ h=>h) (Or.inr ⟨by rfl,rfl⟩) ?_ ?_
     rotate_left
     ·simp only [Act.put,List.setIfInBounds_toArray,List.set_cons_zero,List.set_cons_succ,i64_w,i32_w]
      rfl
     refine pure_ (i:=14) (N:=some 28) (v:=undef) (a':=?_) #[true,true,true,true,true,true,true,true,true,true,true,true,true,true,true,false,false,false,false,false,false] rfl rfl (any_of HT_.out (by kernel_rfl)) (fun _ _ _ h=>h) (Or.inr ⟨by rfl,rfl⟩) ?_ ?_
     rotate_left
     ·simp only [Act.put,List.setIfInBounds_toArray,List.set_cons_zero,List.set_cons_succ,i64_w,i32_w]
      rfl
     refine pure_ (i:=15) (N:=some 29) (v:=?_) (a':=?_) #[true,true,true,true,true,true,true,true,true,true,true,true,true,true,true,true,false,false,false,false,false] rfl rfl (any_of HT_.out (by kernel_rfl)) (fun _ _ _ h=>h) (Or.inl ⟨by rfl,?_⟩) ?_ ?_
     rotate_left
     ·intro w'
      go_simp
      with_reducible rfl
     rotate_left
     ·simp only [Act.put,List.setIfInBounds_toArray,List.set_cons_zero,List.set_cons_succ,i64_w,i32_w]
      rfl
     refine pure_ (i:=16) (N:=some 30) (v:=?_) (a':=?_) #[true,true,true,true,true,true,true,true,true,true,true,true,true,true,true,true,true,false,false,false,false] rfl rfl (any_of HT_.out (by kernel_rfl)) (fun _ _ _ h=>h) (Or.inl ⟨by rfl,?_⟩) ?_ ?_
     rotate_left
     ·intro w'
      go_simp
      with_reducible rfl
     rotate_left
     ·simp only [Act.put,List.setIfInBounds_toArray,List.set_cons_zero,List.set_cons_succ,i64_w,i32_w]
      rfl
     refine pure_ (i:=17) (N:=some 31) (v:=undef) (a':=?_) #[true,true,true,true,true,true,true,true,true,true,true,true,true,true,true,true,true,true,false,false,false] rfl rfl (any_of HT_.out (by kernel_rfl)) (fun _ _ _ h=>h) (Or.inr ⟨by rfl,rfl⟩) ?_ ?_
     rotate_left
     ·simp only [Act.put,List.setIfInBounds_toArray,List.set_cons_zero,List.set_cons_succ,i64_w,i32_w]
      rfl
     refine pure_ (i:=18) (N:=some 32) (v:=undef) (a':=?_) #[true,true,true,true,true,true,true,true,true,true,true,true,true,true,true,true,true,true,true,false,false] rfl rfl (any_of HT_.out (by kernel_rfl)) (fun _ _ _ h=>h) (Or.inr ⟨by rfl,rfl⟩) ?_ ?_
     rotate_left
     ·simp only [Act.put,List.setIfInBounds_toArray,List.set_cons_zero,List.set_cons_succ,i64_w,i32_w]
      rfl
     refine pure_ (i:=19) (N:=some 33) (v:=undef) (a':=?_) #[true,true,true,true,true,true,true,true,true,true,true,true,true,true,true,true,true,true,true,true,false] rfl rfl (any_of HT_.out (by kernel_rfl)) (fun _ _ _ h=>h) (Or.inr ⟨by rfl,rfl⟩) ?_ ?_
     rotate_left
     ·simp only [Act.put,List.setIfInBounds_toArray,List.set_cons_zero,List.set_cons_succ,i64_w,i32_w]
      rfl
     refine pure_ (i:=20) (N:=some 34) (v:=?_) (a':=?_) #[true,true,true,true,true,true,true,true,true,true,true,true,true,true,true,true,true,true,true,true,true] rfl rfl (any_of HT_.out (by kernel_rfl)) (fun _ _ _ h=>h) (Or.inl ⟨by rfl,?_⟩) ?_ ?_
     rotate_left
     ·intro w'
      go_simp
      with_reducible rfl
     rotate_left
     ·simp only [Act.put,List.setIfInBounds_toArray,List.set_cons_zero,List.set_cons_succ,i64_w,i32_w]
      rfl
     refine done_ (done_of HT_.out (by kernel_rfl)) ?_
     try go_wp2
     go_meet
     case rel=>exact ⟨_,(true),(by first|rfl|(simp;done)|(simp [*];done)),H',⟨by first|omega|exact Nat.le_refl _⟩,⟨by (with_reducible repeat (first|refine blk_drewN ?_ _|refine blk_drew ?_|refine blk_alloc ?_ _));exact BK458.out⟩,⟨by repeat (first|(with_reducible first|exact HB.out|apply below_alloc|apply pw_below_drewN|apply below_drew1|refine below_set ?_ GE458.out)|exact HB.out)⟩⟩
    ·rw [if_neg c11] at H
     have c11b0:decide (t460 < a0_2)=false:=decide_eq_false c11
     clear c11
     by_cases c14:a0_4 < 0
     ·rw [if_pos c14] at H
      have c14b0:decide (a0_4 < 0)=true:=decide_eq_true c14
      clear c14
      have H':=Aside0.mk H
      clear H
      try go_wp2
      have n0_:=Aside0.mk (blk_drew BK458.out)
      have n1_:=Aside0.mk (below_drew1 HB.out)
      clear BK458 HB
      have BK458:=n0_
      have HB:=n1_
      clear n0_ n1_
      refine start_ (n:=21) (S:=fun w'=>w'.cell? ⟨gb458,0,none⟩=some (.int .i64 a0_0)∧w'.cell? ⟨gb458,1,none⟩=some (.int .i64 a0_1)∧w'.cell? ⟨gb458,2,none⟩=some (.int .i64 a0_2)∧w'.cell? ⟨gb458,3,none⟩=some (.bool a0_3)∧w'.cell? ⟨gb458,4,none⟩=some (.int .i64 a0_4)) (ds:=[]) #[false,false,false,false,false,false,false,false,false,false,false,false,false,false,false,false,false,false,false,false,false] (by kernel_rfl) rfl rfl ⟨(blk_cell BK458.out 0).trans rfl,(blk_cell BK458.out 1).trans rfl,(blk_cell BK458.out 2).trans rfl,(blk_cell BK458.out 3).trans rfl,(blk_cell BK458.out 4).trans rfl⟩ (fun hHeld=>?_);refine with_tabW layout_EncodeSuper.tab4 layout_EncodeSuper.bits4 (fun HT_ HW_=>?_)
      generalize w7.drew=w15 at BK458 HB hHeld ⊢
      refine pure_ (i:=0) (N:=some 14) (v:=?_) (a':=?_) #[true,false,false,false,false,false,false,false,false,false,false,false,false,false,false,false,false,false,false,false,false] rfl rfl (any_of HT_.out (by kernel_rfl)) (fun _ _ _ h=>h) (Or.inl ⟨by rfl,?_⟩) ?_ ?_
      rotate_left
      ·intro w'
       go_simp
       with_reducible rfl
      rotate_left
      ·simp only [Act.put,List.setIfInBounds_toArray,List.set_cons_zero,List.set_cons_succ,i64_w,i32_w]
       rfl
      refine take_ (i:=1) (N:=some 15) (v:=?_) (a':=?_) #[true,true,false,false,false,false,false,false,false,false,false,false,false,false,false,false,false,false,false,false,false] rfl rfl (take_ofW HT_.out HW_.out (by kernel_rfl)) (fun _ _ _ h=>h) (Or.inl ⟨by rfl,?_⟩) hHeld ?_ ?_
      rotate_left
      ·rintro w' ⟨s0,s1,s2,s3,s4⟩
       go_simp
       with_reducible rfl
      rotate_left
      ·simp only [Act.put,List.setIfInBounds_toArray,List.set_cons_zero,List.set_cons_succ,i64_w,i32_w]
       rfl
      refine pure_ (i:=2) (N:=some 16) (v:=?_) (a':=?_) #[true,true,true,false,false,false,false,false,false,false,false,false,false,false,false,false,false,false,false,false,false] rfl rfl (any_of HT_.out (by kernel_rfl)) (fun _ _ _ h=>h) (Or.inl ⟨by rfl,?_⟩) ?_ ?_
      rotate_left
      ·intro w'
       go_simp
       with_reducible rfl
      rotate_left
      ·simp only [Act.put,List.setIfInBounds_toArray,List.set_cons_zero,List.set_cons_succ,i64_w,i32_w]
       rfl
      refine pure_ (i:=3) (N:=some 17) (v:=?_) (a':=?_) #[true,true,true,true,false,false,false,false,false,false,false,false,false,false,false,false,false,false,false,false,false] rfl rfl (any_of HT_.out (by kernel_rfl)) (fun _ _ _ h=>h) (Or.inl ⟨by rfl,?_⟩) ?_ ?_
      rotate_left
      ·intro w'
       go_simp
       with_reducible rfl
      rotate_left
      ·simp only [Act.put,List.setIfInBounds_toArray,List.set_cons_zero,List.set_cons_succ,i64_w,i32_w]
       rfl
      refine pure_ (i:=4) (N:=some 18) (v:=?_) (a':=?_) #[true,true,true,true,true,false,false,false,false,false,false,false,false,false,false,false,false,false,false,false,false] rfl rfl (any_of HT_.out (by kernel_rfl)) (fun _ _ _ h=>h) (Or.inl ⟨by rfl,?_⟩) ?_ ?_
      rotate_left
      ·intro w'
       go_simp
       with_reducible rfl
      rotate_left
      ·simp only [Act.put,List.setIfInBounds_toArray,List.set_cons_zero,List.set_cons_succ,i64_w,i32_w]
       rfl
      refine pure_ (i:=6) (N:=some 20) (v:=?_) (a':=?_) #[true,true,true,true,true,false,true,false,false,false,false,false,false,false,false,false,false,false,false,false,false] rfl rfl (any_of HT_.out (by kernel_rfl)) (fun _ _ _ h=>h) (Or.inl ⟨by rfl,?_⟩) ?_ ?_
      rotate_left
      ·intro w'
       go_simp
       with_reducible rfl
      rotate_left
      ·simp only [Act.put,List.setIfInBounds_toArray,List.set_cons_zero,List.set_cons_succ,i64_w,i32_w]
       rfl
      refine take_ (i:=5) (N:=some 19) (v:=?_) (a':=?_) #[true,true,true,true,true,true,true,false,false,false,false,false,false,false,false,false,false,false,false,false,false] rfl rfl (take_ofW HT_.out HW_.out (by kernel_rfl)) (fun _ _ _ h=>h) (Or.inl ⟨by rfl,?_⟩) hHeld ?_ ?_
      rotate_left
      ·rintro w' ⟨s0,s1,s2,s3,s4⟩
       go_simp
       with_reducible rfl
      rotate_left
      ·simp only [Act.put,List.setIfInBounds_toArray,List.set_cons_zero,List.set_cons_succ,i64_w,i32_w]
       rfl
      refine take_ (i:=7) (N:=some 21) (v:=?_) (a':=?_) #[true,true,true,true,true,true,true,true,false,false,false,false,false,false,false,false,false,false,false,false,false] rfl rfl (take_ofW HT_.out HW_.out (by kernel_rfl)) (fun _ _ _ h=>h) (Or.inl ⟨by rfl,?_⟩) hHeld ?_ ?_
      rotate_left
      ·rintro w' ⟨s0,s1,s2,s3,s4⟩
       go_simp
       with_reducible rfl
      rotate_left
      ·simp only [Act.put,List.setIfInBounds_toArray,List.set_cons_zero,List.set_cons_succ,i64_w,i32_w]
       rfl
      refine one_ (i:=8) (N:=some 22) #[true,true,true,true,true,true,true,true,true,false,false,false,false,false,false,false,false,false,false,false,false] rfl rfl (one_of HT_.out (by kernel_rfl)) (by decide) (fun K hK=>?_)
      refine goes_ Try.func23 (by kernel_rfl) rfl #[.agg #[.int .i64 a0_0,.int .i64 a0_1]] (by rfl) rfl rfl (by (try simp only [List.map_toArray,List.map_cons,List.map_nil]);first|done|rfl|(simp only [List.length_drop,List.length_take];rfl)) ?_
      with_reducible refine (layout_Inodes.calls k a0_0 a0_1 t460 _ A10.out).mono ?_
      rintro e w16 ⟨rfl,hb⟩
      refine ⟨_,rfl,?_⟩
      have n0_:=Aside0.mk (blk_below (g:=gb458) (o:=.cells #[.int .i64 a0_0,.int .i64 a0_1,.int .i64 a0_2,.bool a0_3,.int .i64 a0_4] 63 (0,0)) (by (with_reducible repeat (first|refine blk_drewN ?_ _|refine blk_drew ?_|refine blk_alloc ?_ _));exact BK458.out) hb)
      have n1_:=Aside0.mk (below_step (by repeat (first|(with_reducible first|exact HB.out|apply below_alloc|apply pw_below_drewN|apply below_drew1|refine below_set ?_ GE458.out)|exact HB.out)) hb)
      clear BK458 HB
      have BK458:=n0_
      have HB:=n1_
      clear n0_ n1_
      (try clear hb)
      (try clear hb2)
      (try clear hk)
      (try clear hi)
      refine hK.out _ _ ⟨(blk_cell BK458.out 0).trans rfl,(blk_cell BK458.out 1).trans rfl,(blk_cell BK458.out 2).trans rfl,(blk_cell BK458.out 3).trans rfl,(blk_cell BK458.out 4).trans rfl⟩ (fun hHeld=>?_)
      clear hK K
      refine norm_ (a':=?_) ?_ ?_
      rotate_left
      ·show Act.put _ (some 22) _=_
       simp only [Act.put,List.setIfInBounds_toArray,List.set_cons_zero,List.set_cons_succ,i64_w,i32_w]
       rfl
      refine pure_ (i:=9) (N:=some 23) (v:=?_) (a':=?_) #[true,true,true,true,true,true,true,true,true,true,false,false,false,false,false,false,false,false,false,false,false] rfl rfl (any_of HT_.out (by kernel_rfl)) (fun _ _ _ h=>h) (Or.inl ⟨by rfl,?_⟩) ?_ ?_
      rotate_left
      ·intro w'
       go_simp
       with_reducible rfl
      rotate_left
      ·simp only [Act.put,List.setIfInBounds_toArray,List.set_cons_zero,List.set_cons_succ,i64_w,i32_w]
       rfl
      refine pure_ (i:=10) (N:=some 24) (v:=?_) (a':=?_) #[true,true,true,true,true,true,true,true,true,true,true,false,false,false,false,false,false,false,false,false,false] rfl rfl (any_of HT_.out (by kernel_rfl)) (fun _ _ _ h=>h) (Or.inl ⟨by rfl,?_⟩) ?_ ?_
      rotate_left
      ·intro w'
       go_simp
       with_reducible rfl
      rotate_left
      ·simp only [Act.put,List.setIfInBounds_toArray,List.set_cons_zero,List.set_cons_succ,i64_w,i32_w]
       rfl
      refine pure_ (i:=11) (N:=some 25) (v:=?_) (a':=?_) #[true,true,true,true,true,true,true,true,true,true,true,true,false,false,false,false,false,false,false,false,false] rfl rfl (any_of HT_.out (by kernel_rfl)) (fun _ _ _ h=>h) (Or.inl ⟨by rfl,?_⟩) ?_ ?_
      rotate_left
      ·intro w'
       go_simp
       with_reducible rfl
      rotate_left
      ·simp only [Act.put,List.setIfInBounds_toArray,List.set_cons_zero,List.set_cons_succ,i64_w,i32_w]
       rfl
      refine pure_ (i:=12) (N:=some 26) (v:=?_) (a':=?_) #[true,true,true,true,true,true,true,true,true,true,true,true,true,false,false,false,false,false,false,false,false] rfl rfl (any_of HT_.out (by kernel_rfl)) (fun _ _ _ h=>h) (Or.inl ⟨by rfl,?_⟩) ?_ ?_
      rotate_left
      ·intro w'
       go_simp
       with_reducible rfl
      rotate_left
      ·simp only [Act.put,List.setIfInBounds_toArray,List.set_cons_zero,List.set_cons_succ,i64_w,i32_w]
       rfl
      refine take_ (i:=13) (N:=some 27) (v:=?_) (a':=?_) #[true,true,true,true,true,true,true,true,true,true,true,true,true,true,false,false,false,false,false,false,false] rfl rfl (take_ofW HT_.out HW_.out (by kernel_rfl)) (fun _ _ _ h=>h) (Or.inl ⟨by rfl,?_⟩) hHeld ?_ ?_
      rotate_left
      ·rintro w' ⟨s0,s1,s2,s3,s4⟩
       go_simp
       with_reducible rfl
      rotate_left
      ·simp only [Act.put,List.setIfInBounds_toArray,List.set_cons_zero,List.set_cons_succ,i64_w,i32_w]
       rfl
      refine pure_ (i:=14) (N:=some 28) (v:=?_) (a':=?_) #[true,true,true,true,true,true,true,true,true,true,true,true,true,true,true,false,false,false,false,false,false] rfl rfl (any_of HT_.out (by kernel_rfl)) (fun _ _ _ h=>h) (Or.inl ⟨by rfl,?_⟩) ?_ ?_
      rotate_left
      ·intro w'
       go_simp
       with_reducible rfl
      rotate_left
      ·simp only [Act.put,List.setIfInBounds_toArray,List.set_cons_zero,List.set_cons_succ,i64_w,i32_w]
       rfl
      refine pure_ (i:=15) (N:=some 29) (v:=?_) (a':=?_) #[true,true,true,true,true,true,true,true,true,true,true,true,true,true,true,true,false,false,false,false,false] rfl rfl (any_of HT_.out (by kernel_rfl)) (fun _ _ _ h=>h) (Or.inl ⟨by rfl,?_⟩) ?_ ?_
      rotate_left
      ·intro w'
       go_simp
       with_reducible rfl
      rotate_left
      ·simp only [Act.put,List.setIfInBounds_toArray,List.set_cons_zero,List.set_cons_succ,i64_w,i32_w]
       rfl
      refine pure_ (i:=16) (N:=some 30) (v:=?_) (a':=?_) #[true,true,true,true,true,true,true,true,true,true,true,true,true,true,true,true,true,false,false,false,false] rfl rfl (any_of HT_.out (by kernel_rfl)) (fun _ _ _ h=>h) (Or.inl ⟨by rfl,?_⟩) ?_ ?_
      rotate_left
      ·intro w'
       go_simp
       with_reducible rfl
      rotate_left
      ·simp only [Act.put,List.setIfInBounds_toArray,List.set_cons_zero,List.set_cons_succ,i64_w,i32_w]
       rfl
      refine pure_ (i:=17) (N:=some 31) (v:=undef) (a':=?_) #[true,true,true,true,true,true,true,true,true,true,true,true,true,true,true,true,true,true,false,false,false] rfl rfl (any_of HT_.out (by kernel_rfl)) (fun _ _ _ h=>h) (Or.inr ⟨by rfl,rfl⟩) ?_ ?_
      rotate_left
      ·simp only [Act.put,List.setIfInBounds_toArray,List.set_cons_zero,List.set_cons_succ,i64_w,i32_w]
       rfl
      refine pure_ (i:=18) (N:=some 32) (v:=undef) (a':=?_) #[true,true,true,true,true,true,true,true,true,true,true,true,true,true,true,true,true,true,true,false,false] rfl rfl (any_of HT_.out (by kernel_rfl)) (fun _ _ _ h=>h) (Or.inr ⟨by rfl,rfl⟩) ?_ ?_
      rotate_left
      ·simp only [Act.put,List.setIfInBounds_toArray,List.set_cons_zero,List.set_cons_succ,i64_w,i32_w]
       rfl
      refine pure_ (i:=19) (N:=some 33) (v:=undef) (a':=?_) #[true,true,true,true,true,true,true,true,true,true,true,true,true,true,true,true,true,true,true,true,false] rfl rfl (any_of HT_.out (by kernel_rfl)) (fun _ _ _ h=>h) (Or.inr ⟨by rfl,rfl⟩) ?_ ?_
      rotate_left
      ·simp only [Act.put,List.setIfInBounds_toArray,List.set_cons_zero,List.set_cons_succ,i64_w,i32_w]
       rfl
      refine pure_ (i:=20) (N:=some 34) (v:=?_) (a':=?_) #[true,true,true,true,true,true,true,true,true,true,true,true,true,true,true,true,true,true,true,true,true] rfl rfl (any_of HT_.out (by kernel_rfl)) (fun _ _ _ h=>h) (Or.inl ⟨by rfl,?_⟩) ?_ ?_
      rotate_left
      ·intro w'
       go_simp
       with_reducible rfl
      rotate_left
      ·simp only [Act.put,List.setIfInBounds_toArray,List.set_cons_zero,List.set_cons_succ,i64_w,i32_w]
       rfl
      refine done_ (done_of HT_.out (by kernel_rfl)) ?_
      try go_wp2
      go_meet
      case rel=>exact ⟨_,(true),(by first|rfl|(simp;done)|(simp [*];done)),H',⟨by first|omega|exact Nat.le_refl _⟩,⟨by (with_reducible repeat (first|refine blk_drewN ?_ _|refine blk_drew ?_|refine blk_alloc ?_ _));exact BK458.out⟩,⟨by repeat (first|(with_reducible first|exact HB.out|apply below_alloc|apply pw_below_drewN|apply below_drew1|refine below_set ?_ GE458.out)|exact HB.out)⟩⟩
     ·rw [if_neg c14] at H
      have c14b0:decide (a0_4 < 0)=false:=decide_eq_false c14
      clear c14
      have H':=Aside0.mk H
      clear H
      try go_wp2
      have n0_:=Aside0.mk (blk_drew BK458.out)
      have n1_:=Aside0.mk (below_drew1 HB.out)
      clear BK458 HB
      have BK458:=n0_
      have HB:=n1_
      clear n0_ n1_
      refine start_ (n:=21) (S:=fun w'=>w'.cell? ⟨gb458,0,none⟩=some (.int .i64 a0_0)∧w'.cell? ⟨gb458,1,none⟩=some (.int .i64 a0_1)∧w'.cell? ⟨gb458,2,none⟩=some (.int .i64 a0_2)∧w'.cell? ⟨gb458,3,none⟩=some (.bool a0_3)∧w'.cell? ⟨gb458,4,none⟩=some (.int .i64 a0_4)) (ds:=[]) #[false,false,false,false,false,false,false,false,false,false,false,false,false,false,false,false,false,false,false,false,false] (by kernel_rfl) rfl rfl ⟨(blk_cell BK458.out 0).trans rfl,(blk_cell BK458.out 1).trans rfl,(blk_cell BK458.out 2).trans rfl,(blk_cell BK458.out 3).trans rfl,(blk_cell BK458.out 4).trans rfl⟩ (fun hHeld=>?_);refine with_tabW layout_EncodeSuper.tab4 layout_EncodeSuper.bits4 (fun HT_ HW_=>?_)
      generalize w7.drew=w17 at BK458 HB hHeld ⊢
      refine pure_ (i:=0) (N:=some 14) (v:=?_) (a':=?_) #[true,false,false,false,false,false,false,false,false,false,false,false,false,false,false,false,false,false,false,false,false] rfl rfl (any_of HT_.out (by kernel_rfl)) (fun _ _ _ h=>h) (Or.inl ⟨by rfl,?_⟩) ?_ ?_
      rotate_left
      ·intro w'
       go_simp
       with_reducible rfl
      rotate_left
      ·simp only [Act.put,List.setIfInBounds_toArray,List.set_cons_zero,List.set_cons_succ,i64_w,i32_w]
       rfl
      refine take_ (i:=1) (N:=some 15) (v:=?_) (a':=?_) #[true,true,false,false,false,false,false,false,false,false,false,false,false,false,false,false,false,false,false,false,false] rfl rfl (take_ofW HT_.out HW_.out (by kernel_rfl)) (fun _ _ _ h=>h) (Or.inl ⟨by rfl,?_⟩) hHeld ?_ ?_
      rotate_left
      ·rintro w' ⟨s0,s1,s2,s3,s4⟩
       go_simp
       with_reducible rfl
      rotate_left
      ·simp only [Act.put,List.setIfInBounds_toArray,List.set_cons_zero,List.set_cons_succ,i64_w,i32_w]
       rfl
      refine pure_ (i:=2) (N:=some 16) (v:=?_) (a':=?_) #[true,true,true,false,false,false,false,false,false,false,false,false,false,false,false,false,false,false,false,false,false] rfl rfl (any_of HT_.out (by kernel_rfl)) (fun _ _ _ h=>h) (Or.inl ⟨by rfl,?_⟩) ?_ ?_
      rotate_left
      ·intro w'
       go_simp
       with_reducible rfl
      rotate_left
      ·simp only [Act.put,List.setIfInBounds_toArray,List.set_cons_zero,List.set_cons_succ,i64_w,i32_w]
       rfl
      refine pure_ (i:=3) (N:=some 17) (v:=?_) (a':=?_) #[true,true,true,true,false,false,false,false,false,false,false,false,false,false,false,false,false,false,false,false,false] rfl rfl (any_of HT_.out (by kernel_rfl)) (fun _ _ _ h=>h) (Or.inl ⟨by rfl,?_⟩) ?_ ?_
      rotate_left
      ·intro w'
       go_simp
       with_reducible rfl
      rotate_left
      ·simp only [Act.put,List.setIfInBounds_toArray,List.set_cons_zero,List.set_cons_succ,i64_w,i32_w]
       rfl
      refine pure_ (i:=4) (N:=some 18) (v:=?_) (a':=?_) #[true,true,true,true,true,false,false,false,false,false,false,false,false,false,false,false,false,false,false,false,false] rfl rfl (any_of HT_.out (by kernel_rfl)) (fun _ _ _ h=>h) (Or.inl ⟨by rfl,?_⟩) ?_ ?_
      rotate_left
      ·intro w'
       go_simp
       with_reducible rfl
      rotate_left
      ·simp only [Act.put,List.setIfInBounds_toArray,List.set_cons_zero,List.set_cons_succ,i64_w,i32_w]
       rfl
      refine pure_ (i:=6) (N:=some 20) (v:=?_) (a':=?_) #[true,true,true,true,true,false,true,false,false,false,false,false,false,false,false,false,false,false,false,false,false] rfl rfl (any_of HT_.out (by kernel_rfl)) (fun _ _ _ h=>h) (Or.inl ⟨by rfl,?_⟩) ?_ ?_
      rotate_left
      ·intro w'
       go_simp
       with_reducible rfl
      rotate_left
      ·simp only [Act.put,List.setIfInBounds_toArray,List.set_cons_zero,List.set_cons_succ,i64_w,i32_w]
       rfl
      refine take_ (i:=5) (N:=some 19) (v:=?_) (a':=?_) #[true,true,true,true,true,true,true,false,false,false,false,false,false,false,false,false,false,false,false,false,false] rfl rfl (take_ofW HT_.out HW_.out (by kernel_rfl)) (fun _ _ _ h=>h) (Or.inl ⟨by rfl,?_⟩) hHeld ?_ ?_
      rotate_left
      ·rintro w' ⟨s0,s1,s2,s3,s4⟩
       go_simp
       with_reducible rfl
      rotate_left
      ·simp only [Act.put,List.setIfInBounds_toArray,List.set_cons_zero,List.set_cons_succ,i64_w,i32_w]
       rfl
      refine take_ (i:=7) (N:=some 21) (v:=?_) (a':=?_) #[true,true,true,true,true,true,true,true,false,false,false,false,false,false,false,false,false,false,false,false,false] rfl rfl (take_ofW HT_.out HW_.out (by kernel_rfl)) (fun _ _ _ h=>h) (Or.inl ⟨by rfl,?_⟩) hHeld ?_ ?_
      rotate_left
      ·rintro w' ⟨s0,s1,s2,s3,s4⟩
       go_simp
       with_reducible rfl
      rotate_left
      ·simp only [Act.put,List.setIfInBounds_toArray,List.set_cons_zero,List.set_cons_succ,i64_w,i32_w]
       rfl
      refine one_ (i:=8) (N:=some 22) #[true,true,true,true,true,true,true,true,true,false,false,false,false,false,false,false,false,false,false,false,false] rfl rfl (one_of HT_.out (by kernel_rfl)) (by decide) (fun K hK=>?_)
      refine goes_ Try.func23 (by kernel_rfl) rfl #[.agg #[.int .i64 a0_0,.int .i64 a0_1]] (by rfl) rfl rfl (by (try simp only [List.map_toArray,List.map_cons,List.map_nil]);first|done|rfl|(simp only [List.length_drop,List.length_take];rfl)) ?_
      with_reducible refine (layout_Inodes.calls k a0_0 a0_1 t460 _ A10.out).mono ?_
      rintro e w18 ⟨rfl,hb⟩
      refine ⟨_,rfl,?_⟩
      have n0_:=Aside0.mk (blk_below (g:=gb458) (o:=.cells #[.int .i64 a0_0,.int .i64 a0_1,.int .i64 a0_2,.bool a0_3,.int .i64 a0_4] 63 (0,0)) (by (with_reducible repeat (first|refine blk_drewN ?_ _|refine blk_drew ?_|refine blk_alloc ?_ _));exact BK458.out) hb)
      have n1_:=Aside0.mk (below_step (by repeat (first|(with_reducible first|exact HB.out|apply below_alloc|apply pw_below_drewN|apply below_drew1|refine below_set ?_ GE458.out)|exact HB.out)) hb)
      clear BK458 HB
      have BK458:=n0_
      have HB:=n1_
      clear n0_ n1_
      (try clear hb)
      (try clear hb2)
      (try clear hk)
      (try clear hi)
      refine hK.out _ _ ⟨(blk_cell BK458.out 0).trans rfl,(blk_cell BK458.out 1).trans rfl,(blk_cell BK458.out 2).trans rfl,(blk_cell BK458.out 3).trans rfl,(blk_cell BK458.out 4).trans rfl⟩ (fun hHeld=>?_)
      clear hK K
      refine norm_ (a':=?_) ?_ ?_
      rotate_left
      ·show Act.put _ (some 22) _=_
       simp only [Act.put,List.setIfInBounds_toArray,List.set_cons_zero,List.set_cons_succ,i64_w,i32_w]
       rfl
      refine pure_ (i:=9) (N:=some 23) (v:=?_) (a':=?_) #[true,true,true,true,true,true,true,true,true,true,false,false,false,false,false,false,false,false,false,false,false] rfl rfl (any_of HT_.out (by kernel_rfl)) (fun _ _ _ h=>h) (Or.inl ⟨by rfl,?_⟩) ?_ ?_
      rotate_left
      ·intro w'
       go_simp
       with_reducible rfl
      rotate_left
      ·simp only [Act.put,List.setIfInBounds_toArray,List.set_cons_zero,List.set_cons_succ,i64_w,i32_w]
       rfl
      refine pure_ (i:=10) (N:=some 24) (v:=?_) (a':=?_) #[true,true,true,true,true,true,true,true,true,true,true,false,false,false,false,false,false,false,false,false,false] rfl rfl (any_of HT_.out (by kernel_rfl)) (fun _ _ _ h=>h) (Or.inl ⟨by rfl,?_⟩) ?_ ?_
      rotate_left
      ·intro w'
       go_simp
       with_reducible rfl
      rotate_left
      ·simp only [Act.put,List.setIfInBounds_toArray,List.set_cons_zero,List.set_cons_succ,i64_w,i32_w]
       rfl
      refine pure_ (i:=11) (N:=some 25) (v:=?_) (a':=?_) #[true,true,true,true,true,true,true,true,true,true,true,true,false,false,false,false,false,false,false,false,false] rfl rfl (any_of HT_.out (by kernel_rfl)) (fun _ _ _ h=>h) (Or.inl ⟨by rfl,?_⟩) ?_ ?_
      rotate_left
      ·intro w'
       go_simp
       with_reducible rfl
      rotate_left
      ·simp only [Act.put,List.setIfInBounds_toArray,List.set_cons_zero,List.set_cons_succ,i64_w,i32_w]
       rfl
      refine pure_ (i:=12) (N:=some 26) (v:=?_) (a':=?_) #[true,true,true,true,true,true,true,true,true,true,true,true,true,false,false,false,false,false,false,false,false] rfl rfl (any_of HT_.out (by kernel_rfl)) (fun _ _ _ h=>h) (Or.inl ⟨by rfl,?_⟩) ?_ ?_
      rotate_left
      ·intro w'
       go_simp
       with_reducible rfl
      rotate_left
      ·simp only [Act.put,List.setIfInBounds_toArray,List.set_cons_zero,List.set_cons_succ,i64_w,i32_w]
       rfl
      refine take_ (i:=13) (N:=some 27) (v:=?_) (a':=?_) #[true,true,true,true,true,true,true,true,true,true,true,true,true,true,false,false,false,false,false,false,false] rfl rfl (take_ofW HT_.out HW_.out (by kernel_rfl)) (fun _ _ _ h=>h) (Or.inl ⟨by rfl,?_⟩) hHeld ?_ ?_
      rotate_left
      ·rintro w' ⟨s0,s1,s2,s3,s4⟩
       go_simp
       with_reducible rfl
      rotate_left
      ·simp only [Act.put,List.setIfInBounds_toArray,List.set_cons_zero,List.set_cons_succ,i64_w,i32_w]
       rfl
      refine pure_ (i:=14) (N:=some 28) (v:=?_) (a':=?_) #[true,true,true,true,true,true,true,true,true,true,true,true,true,true,true,false,false,false,false,false,false] rfl rfl (any_of HT_.out (by kernel_rfl)) (fun _ _ _ h=>h) (Or.inl ⟨by rfl,?_⟩) ?_ ?_
      rotate_left
      ·intro w'
       go_simp
       with_reducible rfl
      rotate_left
      ·simp only [Act.put,List.setIfInBounds_toArray,List.set_cons_zero,List.set_cons_succ,i64_w,i32_w]
       rfl
      refine pure_ (i:=15) (N:=some 29) (v:=?_) (a':=?_) #[true,true,true,true,true,true,true,true,true,true,true,true,true,true,true,true,false,false,false,false,false] rfl rfl (any_of HT_.out (by kernel_rfl)) (fun _ _ _ h=>h) (Or.inl ⟨by rfl,?_⟩) ?_ ?_
      rotate_left
      ·intro w'
       go_simp
       with_reducible rfl
      rotate_left
      ·simp only [Act.put,List.setIfInBounds_toArray,List.set_cons_zero,List.set_cons_succ,i64_w,i32_w]
       rfl
      refine pure_ (i:=16) (N:=some 30) (v:=?_) (a':=?_) #[true,true,true,true,true,true,true,true,true,true,true,true,true,true,true,true,true,false,false,false,false] rfl rfl (any_of HT_.out (by kernel_rfl)) (fun _ _ _ h=>h) (Or.inl ⟨by rfl,?_⟩) ?_ ?_
      rotate_left
      ·intro w'
       go_simp
       with_reducible rfl
      rotate_left
      ·simp only [Act.put,List.setIfInBounds_toArray,List.set_cons_zero,List.set_cons_succ,i64_w,i32_w]
       rfl
      refine pure_ (i:=17) (N:=some 31) (v:=?_) (a':=?_) #[true,true,true,true,true,true,true,true,true,true,true,true,true,true,true,true,true,true,false,false,false] rfl rfl (any_of HT_.out (by kernel_rfl)) (fun _ _ _ h=>h) (Or.inl ⟨by rfl,?_⟩) ?_ ?_
      rotate_left
      ·intro w'
       go_simp
       with_reducible rfl
      rotate_left
      ·simp only [Act.put,List.setIfInBounds_toArray,List.set_cons_zero,List.set_cons_succ,i64_w,i32_w]
       rfl
      refine take_ (i:=18) (N:=some 32) (v:=?_) (a':=?_) #[true,true,true,true,true,true,true,true,true,true,true,true,true,true,true,true,true,true,true,false,false] rfl rfl (take_ofW HT_.out HW_.out (by kernel_rfl)) (fun _ _ _ h=>h) (Or.inl ⟨by rfl,?_⟩) hHeld ?_ ?_
      rotate_left
      ·rintro w' ⟨s0,s1,s2,s3,s4⟩
       go_simp
       with_reducible rfl
      rotate_left
      ·simp only [Act.put,List.setIfInBounds_toArray,List.set_cons_zero,List.set_cons_succ,i64_w,i32_w]
       rfl
      refine pure_ (i:=19) (N:=some 33) (v:=?_) (a':=?_) #[true,true,true,true,true,true,true,true,true,true,true,true,true,true,true,true,true,true,true,true,false] rfl rfl (any_of HT_.out (by kernel_rfl)) (fun _ _ _ h=>h) (Or.inl ⟨by rfl,?_⟩) ?_ ?_
      rotate_left
      ·intro w'
       go_simp
       with_reducible rfl
      rotate_left
      ·simp only [Act.put,List.setIfInBounds_toArray,List.set_cons_zero,List.set_cons_succ,i64_w,i32_w]
       rfl
      refine pure_ (i:=20) (N:=some 34) (v:=?_) (a':=?_) #[true,true,true,true,true,true,true,true,true,true,true,true,true,true,true,true,true,true,true,true,true] rfl rfl (any_of HT_.out (by kernel_rfl)) (fun _ _ _ h=>h) (Or.inl ⟨by rfl,?_⟩) ?_ ?_
      rotate_left
      ·intro w'
       go_simp
       with_reducible rfl
      rotate_left
      ·simp only [Act.put,List.setIfInBounds_toArray,List.set_cons_zero,List.set_cons_succ,i64_w,i32_w]
       rfl
      refine done_ (done_of HT_.out (by kernel_rfl)) ?_
      try go_wp2
      go_meet
      case rel=>exact ⟨_,(decide (a0_4 > 1152921504606846976)),(by first|rfl|(simp;done)|(simp [*];done)),H',⟨by first|omega|exact Nat.le_refl _⟩,⟨by (with_reducible repeat (first|refine blk_drewN ?_ _|refine blk_drew ?_|refine blk_alloc ?_ _));exact BK458.out⟩,⟨by repeat (first|(with_reducible first|exact HB.out|apply below_alloc|apply pw_below_drewN|apply below_drew1|refine below_set ?_ GE458.out)|exact HB.out)⟩⟩
  case rest =>
   clear HC4
   try clear c1
   try clear c2
   try clear p2
   try clear c8
   try clear c8b0
   try clear c11
   try clear c11b0
   try clear c14
   try clear c14b0
   obtain ⟨kq,x34_3,rfl,HA,HJ3,BK458,HB⟩:=hcut
   cases kq with
   | zero=>exact absurd HA.out (by simp [layout_EncodeSuper.j0])
   | succ kj3 =>
    have H:=HA.out
    clear HA
    simp only [layout_EncodeSuper.j0] at H
    by_cases c19:x34_3=true
    ·subst c19
     have H1:(some (([]:List Int),1))=some (r1,r2):=by rw [if_pos rfl] at H;exact H
     clear H
     have H:=H1
     clear H1
     simp only [Option.some.injEq,Prod.mk.injEq] at H
     obtain ⟨rfl,rfl⟩:=H
     go_wp2
     go_ret2
     exact ⟨_,by first|rfl|(simp [errW_none,errW_some] <;> rfl)|(simp [*,errW_none,errW_some] <;> rfl),by first|exact Kd.R_nil _ _ _ _ _|exact Kd.N_nil _ _ _ _ _|exact Kd.V_nil _ _ _ _ _|exact Kd.Q_nil _ _ _ _ _|exact Kd.S_nil _ _ _ _ _,by repeat (first|(with_reducible first|exact HB.out|apply below_alloc|apply pw_below_drewN|apply below_drew1|refine below_set ?_ GE458.out)|exact HB.out)⟩
    ·replace c19:=Bool.eq_false_iff.mpr c19
     subst c19
     have H1:(if a0_3=true then (layout_EncodeSuper.j1 kj3 1 a0_0 a0_1 a0_2 a0_3 a0_4) else (layout_EncodeSuper.j1 kj3 0 a0_0 a0_1 a0_2 a0_3 a0_4))=some (r1,r2):=by rw [if_neg (show ¬ (false=true) by decide)] at H;exact H
     clear H
     have H:=H1
     clear H1
     have HC20:=Aside0.mk H
     clear H
     have hcz21_0:wc.cell? ⟨gb458,0,none⟩=some (.int .i64 a0_0):=(blk_cell BK458.out 0).trans rfl
     have hcz21_1:wc.cell? ⟨gb458,1,none⟩=some (.int .i64 a0_1):=(blk_cell BK458.out 1).trans rfl
     have hcz21_2:wc.cell? ⟨gb458,2,none⟩=some (.int .i64 a0_2):=(blk_cell BK458.out 2).trans rfl
     have hcz21_3:wc.cell? ⟨gb458,3,none⟩=some (.bool a0_3):=(blk_cell BK458.out 3).trans rfl
     have hcz21_4:wc.cell? ⟨gb458,4,none⟩=some (.int .i64 a0_4):=(blk_cell BK458.out 4).trans rfl
     have hfz21_0:=blk_frozen BK458.out 0
     have hfz21_1:=blk_frozen BK458.out 1
     have hfz21_2:=blk_frozen BK458.out 2
     have hfz21_3:=blk_frozen BK458.out 3
     have hfz21_4:=blk_frozen BK458.out 4
     go_upto_if 36 with (fail)
     go_cut [5] (fun v5 wc=>∃ (kq:Nat) (x5_19:Int),v5=.int .u64 x5_19∧Aside0 (layout_EncodeSuper.j1 kq x5_19 a0_0 a0_1 a0_2 a0_3 a0_4=some (r1,r2))∧Aside0 (kq≤kj3)∧Aside0 (wc.heap[gb458]?=some (.cells #[.int .i64 a0_0,.int .i64 a0_1,.int .i64 a0_2,.bool a0_3,.int .i64 a0_4] 63 (0,0)))∧Aside0 (Below w.heap.size w wc))
     case first =>
      have H:=HC20.out
      clear HC20
      by_cases c22:a0_3=true
      ·subst c22
       have H1:(layout_EncodeSuper.j1 kj3 1 a0_0 a0_1 a0_2 true a0_4)=some (r1,r2):=by rw [if_pos rfl] at H;exact H
       clear H
       have H:=H1
       clear H1
       have H':=Aside0.mk H
       clear H
       go_wp2
       go_meet
       case rel=>exact ⟨_,(1),(by first|rfl|(simp;done)|(simp [*];done)),H',⟨by have:=HJ3.out;first|omega|exact Nat.le_refl _⟩,⟨by (with_reducible repeat (first|refine blk_drewN ?_ _|refine blk_drew ?_|refine blk_alloc ?_ _));exact BK458.out⟩,⟨by repeat (first|(with_reducible first|exact HB.out|apply below_alloc|apply pw_below_drewN|apply below_drew1|refine below_set ?_ GE458.out)|exact HB.out)⟩⟩
      ·replace c22:=Bool.eq_false_iff.mpr c22
       subst c22
       have H1:(layout_EncodeSuper.j1 kj3 0 a0_0 a0_1 a0_2 false a0_4)=some (r1,r2):=by rw [if_neg (show ¬ (false=true) by decide)] at H;exact H
       clear H
       have H:=H1
       clear H1
       have H':=Aside0.mk H
       clear H
       go_wp2
       go_meet
       case rel=>exact ⟨_,(0),(by first|rfl|(simp;done)|(simp [*];done)),H',⟨by have:=HJ3.out;first|omega|exact Nat.le_refl _⟩,⟨by (with_reducible repeat (first|refine blk_drewN ?_ _|refine blk_drew ?_|refine blk_alloc ?_ _));exact BK458.out⟩,⟨by repeat (first|(with_reducible first|exact HB.out|apply below_alloc|apply pw_below_drewN|apply below_drew1|refine below_set ?_ GE458.out)|exact HB.out)⟩⟩
     case rest =>
      clear HC20
      try clear c1
      try clear c2
      try clear p2
      try clear c8
      try clear c8b0
      try clear c11
      try clear c11b0
      try clear c14
      try clear c14b0
      try clear c19
      try clear c22
      try clear hcz21_0
      try clear hcz21_1
      try clear hcz21_2
      try clear hcz21_3
      try clear hcz21_4
      try clear hfz21_0
      try clear hfz21_1
      try clear hfz21_2
      try clear hfz21_3
      try clear hfz21_4
      try clear p2
      obtain ⟨kq,x5_19,rfl,HA,HJ19,BK458,HB⟩:=hcut
      cases kq with
      | zero=>exact absurd HA.out (by simp [layout_EncodeSuper.j1])
      | succ kj19 =>
       have H:=HA.out
       clear HA
       simp only [layout_EncodeSuper.j1] at H
       replace H:=Option.bind_eq_some_iff.mp H
       obtain ⟨t461,A230,H⟩:=H
       replace H:((seal_Pack.f kj19 t461 (([1397508432,IntKind.u64.wrap (a0_0),IntKind.u64.wrap (a0_1),x5_19,IntKind.u64.wrap (a0_2),IntKind.u64.wrap (a0_4)]:List Int))).bind fun bt467=>(if bt467.2=0 then (if 0≤(wrap64 (252 - (bt467.1.length:Int))) then (if bt467.1.length + (wrap64 (252 - (bt467.1.length:Int)):Int).toNat < 140737488355328 then ((seal_Seal.f kj19 (bt467.1 ++ List.replicate (wrap64 (252 - (bt467.1.length:Int)):Int).toNat 0)).bind fun bt474=>(some (bt474.1,bt474.2))) else (none)) else (none)) else (some (([]:List Int),bt467.2))))=some (r1,r2):=H
       have A23:=Aside0.mk A230
       clear A230
       obtain ⟨y464,hy464⟩:∃ y_:List Int,y_=(([1397508432,IntKind.u64.wrap (a0_0),IntKind.u64.wrap (a0_1),x5_19,IntKind.u64.wrap (a0_2),IntKind.u64.wrap (a0_4)]:List Int)):=⟨_,rfl⟩
       replace H:((seal_Pack.f kj19 t461 y464).bind fun bt467=>(if bt467.2=0 then (if 0≤(wrap64 (252 - (bt467.1.length:Int))) then (if bt467.1.length + (wrap64 (252 - (bt467.1.length:Int)):Int).toNat < 140737488355328 then ((seal_Seal.f kj19 (bt467.1 ++ List.replicate (wrap64 (252 - (bt467.1.length:Int)):Int).toNat 0)).bind fun bt474=>(some (bt474.1,bt474.2))) else (none)) else (none)) else (some (([]:List Int),bt467.2))))=some (r1,r2):=by first|(rw [hy464];with_reducible exact H)|(have H2_:=(Option.bind_some _ _).symm.trans H;rw [hy464];with_reducible exact H2_)|(have H2_:=(Option.bind_some _ _).symm.trans H;with_reducible exact H2_)|with_reducible exact H|(rw [hy464];exact H)|exact H
       have Ny464:=Aside0.mk hy464
       clear hy464
       replace H:=Option.bind_eq_some_iff.mp H
       obtain ⟨⟨t467,t468⟩,A240,H⟩:=H
       replace H:(if t468=0 then (if 0≤(wrap64 (252 - (t467.length:Int))) then (if t467.length + (wrap64 (252 - (t467.length:Int)):Int).toNat < 140737488355328 then ((seal_Seal.f kj19 (t467 ++ List.replicate (wrap64 (252 - (t467.length:Int)):Int).toNat 0)).bind fun bt474=>(some (bt474.1,bt474.2))) else (none)) else (none)) else (some (([]:List Int),t468)))=some (r1,r2):=H
       have A24:=Aside0.mk A240
       clear A240
       by_cases c25:t468=0
       ·rw [if_pos c25] at H
        have c25b0:(t468 == 0)=true:=beq_iff_eq.mpr c25
        have c25b1:(t468 != 0)=false:=bne_eq_false_iff_eq.mpr c25
        clear c25
        obtain ⟨ji26,hji26⟩:∃ j_:Int,(wrap64 (252 - (t467.length:Int)))=j_:=⟨_,rfl⟩
        replace H:(if 0≤(ji26) then (if t467.length + (ji26:Int).toNat < 140737488355328 then ((seal_Seal.f kj19 (t467 ++ List.replicate (ji26:Int).toNat 0)).bind fun bt474=>(some (bt474.1,bt474.2))) else (none)) else (none))=some (r1,r2):=by first|(rw [hji26] at H;exact H)|(simp only [hji26] at H ⊢;exact H)
        (try rw [hji26] at A23)
        (try rw [hji26] at A24)
        have hji26w:(IntKind.i64.wrap (252 - (t467.length:Int)))=ji26:=(i64_w _).trans hji26
        by_cases c27:0≤(ji26)
        ·rw [if_pos c27] at H
         have c27b0:=eq_true c27
         have c27b1:decide (0≤(ji26))=true:=decide_eq_true c27
         clear c27
         by_cases c28:t467.length + (ji26:Int).toNat < 140737488355328
         ·rw [if_pos c28] at H
          have LMc28:=Aside0.mk c28
          clear c28
          obtain ⟨y471,hy471⟩:∃ y_:List Int,y_=(t467 ++ List.replicate (ji26:Int).toNat 0):=⟨_,rfl⟩
          replace H:((seal_Seal.f kj19 y471).bind fun bt474=>(some (bt474.1,bt474.2)))=some (r1,r2):=by first|(rw [hy471];with_reducible exact H)|(have H2_:=(Option.bind_some _ _).symm.trans H;rw [hy471];with_reducible exact H2_)|(have H2_:=(Option.bind_some _ _).symm.trans H;with_reducible exact H2_)|with_reducible exact H|(rw [hy471];exact H)|exact H
          have Ny471:=Aside0.mk hy471
          clear hy471
          replace H:=Option.bind_eq_some_iff.mp H
          obtain ⟨⟨t474,t477⟩,A290,H⟩:=H
          replace H:(some (t474,t477))=some (r1,r2):=H
          have A29:=Aside0.mk A290
          clear A290
          simp only [Option.some.injEq,Prod.mk.injEq] at H
          obtain ⟨rfl,rfl⟩:=H
          try go_wp2
          have n0_:=Aside0.mk (blk_drew BK458.out)
          have n1_:=Aside0.mk (below_drew1 HB.out)
          clear BK458 HB
          have BK458:=n0_
          have HB:=n1_
          clear n0_ n1_
          refine start_ (n:=23) (S:=fun w'=>True) (ds:=[]) #[false,false,false,false,false,false,false,false,false,false,false,false,false,false,false,false,false,false,false,false,false,false,false] (by kernel_rfl) rfl rfl trivial (fun hHeld=>?_);refine with_tabW layout_EncodeSuper.tab9 layout_EncodeSuper.bits9 (fun HT_ HW_=>?_)
          generalize wc.drew=w30 at BK458 HB hHeld ⊢
          refine pure_ (i:=1) (N:=some 39) (v:=?_) (a':=?_) #[false,true,false,false,false,false,false,false,false,false,false,false,false,false,false,false,false,false,false,false,false,false,false] rfl rfl (any_of HT_.out (by kernel_rfl)) (fun _ _ _ h=>h) (Or.inl ⟨by rfl,?_⟩) ?_ ?_
          rotate_left
          ·intro w'
           go_simp
           with_reducible rfl
          rotate_left
          ·simp only [Act.put,List.setIfInBounds_toArray,List.set_cons_zero,List.set_cons_succ,i64_w,i32_w]
           rfl
          refine pure_ (i:=2) (N:=some 40) (v:=?_) (a':=?_) #[false,true,true,false,false,false,false,false,false,false,false,false,false,false,false,false,false,false,false,false,false,false,false] rfl rfl (any_of HT_.out (by kernel_rfl)) (fun _ _ _ h=>h) (Or.inl ⟨by rfl,?_⟩) ?_ ?_
          rotate_left
          ·intro w'
           go_simp
           with_reducible rfl
          rotate_left
          ·simp only [Act.put,List.setIfInBounds_toArray,List.set_cons_zero,List.set_cons_succ,i64_w,i32_w]
           rfl
          refine pure_ (i:=5) (N:=some 43) (v:=?_) (a':=?_) #[false,true,true,false,false,true,false,false,false,false,false,false,false,false,false,false,false,false,false,false,false,false,false] rfl rfl (any_of HT_.out (by kernel_rfl)) (fun _ _ _ h=>h) (Or.inl ⟨by rfl,?_⟩) ?_ ?_
          rotate_left
          ·intro w'
           go_simp
           with_reducible rfl
          rotate_left
          ·simp only [Act.put,List.setIfInBounds_toArray,List.set_cons_zero,List.set_cons_succ,i64_w,i32_w]
           rfl
          refine pure_ (i:=6) (N:=some 44) (v:=?_) (a':=?_) #[false,true,true,false,false,true,true,false,false,false,false,false,false,false,false,false,false,false,false,false,false,false,false] rfl rfl (any_of HT_.out (by kernel_rfl)) (fun _ _ _ h=>h) (Or.inl ⟨by rfl,?_⟩) ?_ ?_
          rotate_left
          ·intro w'
           go_simp
           with_reducible rfl
          rotate_left
          ·simp only [Act.put,List.setIfInBounds_toArray,List.set_cons_zero,List.set_cons_succ,i64_w,i32_w]
           rfl
          refine pure_ (i:=9) (N:=some 47) (v:=?_) (a':=?_) #[false,true,true,false,false,true,true,false,false,true,false,false,false,false,false,false,false,false,false,false,false,false,false] rfl rfl (any_of HT_.out (by kernel_rfl)) (fun _ _ _ h=>h) (Or.inl ⟨by rfl,?_⟩) ?_ ?_
          rotate_left
          ·intro w'
           go_simp
           with_reducible rfl
          rotate_left
          ·simp only [Act.put,List.setIfInBounds_toArray,List.set_cons_zero,List.set_cons_succ,i64_w,i32_w]
           rfl
          refine pure_ (i:=10) (N:=some 48) (v:=?_) (a':=?_) #[false,true,true,false,false,true,true,false,false,true,true,false,false,false,false,false,false,false,false,false,false,false,false] rfl rfl (any_of HT_.out (by kernel_rfl)) (fun _ _ _ h=>h) (Or.inl ⟨by rfl,?_⟩) ?_ ?_
          rotate_left
          ·intro w'
           go_simp
           with_reducible rfl
          rotate_left
          ·simp only [Act.put,List.setIfInBounds_toArray,List.set_cons_zero,List.set_cons_succ,i64_w,i32_w]
           rfl
          refine pure_ (i:=13) (N:=some 51) (v:=?_) (a':=?_) #[false,true,true,false,false,true,true,false,false,true,true,false,false,true,false,false,false,false,false,false,false,false,false] rfl rfl (any_of HT_.out (by kernel_rfl)) (fun _ _ _ h=>h) (Or.inl ⟨by rfl,?_⟩) ?_ ?_
          rotate_left
          ·intro w'
           go_simp
           with_reducible rfl
          rotate_left
          ·simp only [Act.put,List.setIfInBounds_toArray,List.set_cons_zero,List.set_cons_succ,i64_w,i32_w]
           rfl
          refine inv_at [0,3,4,7,8,11,12,14,15,16,17,18,19,20,21,22] (fun a0_ b a w'=>∃ (v462:Value) (v465:Value) (v469:Value) (m17_:Value) (m18_:Value) (m19_:Value) (m21_:Value),a=putSel a0_ b [(0,38,v462),(3,41,.int .i64 a0_0),(4,42,.int .u64 (IntKind.u64.wrap (a0_0))),(7,45,.int .i64 a0_1),(8,46,.int .u64 (IntKind.u64.wrap (a0_1))),(11,49,.int .i64 a0_2),(12,50,.int .u64 (IntKind.u64.wrap (a0_2))),(14,52,.int .i64 a0_4),(15,53,.int .u64 (IntKind.u64.wrap (a0_4))),(16,54,v465),(17,55,m17_),(18,37,m18_),(19,56,m19_),(20,57,.int .i64 t468),(21,6,m21_),(22,7,.int .i64 t468)]∧(w'.heap[gb458]?=some (.cells #[.int .i64 a0_0,.int .i64 a0_1,.int .i64 a0_2,.bool a0_3,.int .i64 a0_4] 63 (0,0)))∧(Below w.heap.size w w')∧(b 0=true → Kd.R (Kd.int .i64) 3 w' w.heap.size (fun _=>True) v462 t461)∧(b 16=true → Kd.R (Kd.int .u64) 76 w' w.heap.size (fun _=>True) v465 y464)∧(b 17=true → Kd.R (Kd.int .u8) 5 w' w.heap.size (fun _=>True) v469 t467)∧(b 17=true → (m17_:Value)=.tuple #[v469,.int .i64 t468])∧(b 18=true → (m18_:Value)=.tuple #[v469,.int .i64 t468])∧(b 19=true → (m19_:Value)=v469)∧(b 21=true → (m21_:Value)=v469)) HT_.out HW_.out (by kernel_rfl) (by kernel_rfl) ?_ ?_ ?_
          ·exact ⟨.bool false,.bool false,.bool false,.bool false,.bool false,.bool false,.bool false,by simp only [putSel,Bool.false_eq_true,if_false],BK458.out,HB.out,fun h_=>absurd h_ (by decide),fun h_=>absurd h_ (by decide),fun h_=>absurd h_ (by decide),fun h_=>absurd h_ (by decide),fun h_=>absurd h_ (by decide),fun h_=>absurd h_ (by decide),fun h_=>absurd h_ (by decide)⟩
          ·skip
           clear BK458 HB
           refine steps_cons ?_ ?_
           ·rintro b a w' ⟨v462,v465,v469,m17_,m18_,m19_,m21_,ha,Q_BK458,Q_HB,Q_HO463,Q_HO466,Q_HO470,Q_X17_,Q_X18_,Q_X19_,Q_X21_⟩ hb_ hon hoff
            refine ⟨_,rfl,fun K hK=>?_⟩
            replace ha:=Aside0.mk ha
            have BK458:=Aside0.mk Q_BK458
            have HB:=Aside0.mk Q_HB
            refine goes_ Try.func54 (by kernel_rfl) rfl #[] (by rfl) rfl rfl (by first|(simp only [List.map_toArray,List.map_cons,List.map_nil,Act.eval,Array.getD_eq_getD_getElem?,Option.getD_some];done)|(simp only [List.map_toArray,List.map_cons,List.map_nil,Act.eval,Array.getD_eq_getD_getElem?,Option.getD_some];rfl)) ?_
            with_reducible refine (layout_superWidths.calls  t461 _ A23.out).mono ?_
            rintro e w31 ⟨v462,rfl,ho0,hb⟩
            refine ⟨_,rfl,?_⟩
            have n0_:=Aside0.mk (Kd.R_lower ho0 (below_size (by repeat (first|(with_reducible first|exact HB.out|apply below_alloc|apply pw_below_drewN|apply below_drew1|refine below_set ?_ GE458.out)|exact HB.out))))
            have n1_:=Aside0.mk (blk_below (g:=gb458) (o:=.cells #[.int .i64 a0_0,.int .i64 a0_1,.int .i64 a0_2,.bool a0_3,.int .i64 a0_4] 63 (0,0)) (by (with_reducible repeat (first|refine blk_drewN ?_ _|refine blk_drew ?_|refine blk_alloc ?_ _));exact BK458.out) hb)
            have n2_:=Aside0.mk (below_step (by repeat (first|(with_reducible first|exact HB.out|apply below_alloc|apply pw_below_drewN|apply below_drew1|refine below_set ?_ GE458.out)|exact HB.out)) hb)
            have z_HO466:=fun (h0_:b 16=true)=>(show Kd.R (Kd.int .u64) 76 w31 w.heap.size (fun _=>True) v465 y464 from by first|exact (Kd.R_below (by (with_reducible repeat (first|apply Kd.R_alloc|apply Kd.R_drewN|apply Kd.R_drew));exact (Q_HO466 h0_)) hb)|exact Kd.R_mono (Kd.R_below (by (with_reducible repeat (first|apply Kd.R_alloc|apply Kd.R_drewN|apply Kd.R_drew));exact (Q_HO466 h0_)) hb) (fun _ h_=>by first|trivial|exact h_|exact h_.1))
            clear BK458 HB
            have HO463:=n0_
            have BK458:=n1_
            have HB:=n2_
            clear n0_ n1_ n2_
            (try clear hb)
            (try clear hb2)
            (try clear hk)
            (try clear hi)
            (try clear ho0)
            refine hK.out _ _ ⟨v462,v465,v469,m17_,m18_,m19_,m21_,(by rw [ha.out];exact putSel_upk 0 hb_ rfl rfl rfl),(by (with_reducible repeat (first|refine blk_drewN ?_ _|refine blk_drew ?_|refine blk_alloc ?_ _));exact BK458.out),(by repeat (first|(with_reducible first|exact HB.out|apply below_alloc|apply pw_below_drewN|apply below_drew1|refine below_set ?_ GE458.out)|exact HB.out)),fun _=>(by (with_reducible repeat (first|apply Kd.R_alloc|apply Kd.R_drewN|apply Kd.R_drew));exact HO463.out),z_HO466,fun h0_=>absurd ((hoff 17 (by kernel_rfl)).symm.trans h0_) (by decide),fun h0_=>absurd ((hoff 17 (by kernel_rfl)).symm.trans h0_) (by decide),fun h0_=>absurd ((hoff 18 (by kernel_rfl)).symm.trans h0_) (by decide),fun h0_=>absurd ((hoff 19 (by kernel_rfl)).symm.trans h0_) (by decide),fun h0_=>absurd ((hoff 21 (by kernel_rfl)).symm.trans h0_) (by decide)⟩
           refine steps_cons ?_ ?_
           ·rintro b a w' ⟨v462,v465,v469,m17_,m18_,m19_,m21_,ha,Q_BK458,Q_HB,Q_HO463,Q_HO466,Q_HO470,Q_X17_,Q_X18_,Q_X19_,Q_X21_⟩ hb_ hon hoff
            refine ⟨_,rfl,fun K hK=>?_⟩
            have e40:a.tmps[40]?=some (.pointer (some ⟨gb458,0,none⟩)):=by rw [ha];exact (putSel_off rfl).trans rfl
            replace ha:=Aside0.mk ha
            have BK458:=Aside0.mk Q_BK458
            have HB:=Aside0.mk Q_HB
            have hc0_:w'.cell? ⟨gb458,0,none⟩=some (.int .i64 a0_0):=(blk_cell BK458.out 0).trans rfl
            have hc1_:w'.cell? ⟨gb458,1,none⟩=some (.int .i64 a0_1):=(blk_cell BK458.out 1).trans rfl
            have hc2_:w'.cell? ⟨gb458,2,none⟩=some (.int .i64 a0_2):=(blk_cell BK458.out 2).trans rfl
            have hc3_:w'.cell? ⟨gb458,3,none⟩=some (.bool a0_3):=(blk_cell BK458.out 3).trans rfl
            have hc4_:w'.cell? ⟨gb458,4,none⟩=some (.int .i64 a0_4):=(blk_cell BK458.out 4).trans rfl
            refine value_ (w1:=w') (v:=.int .i64 a0_0) (by rfl) rfl ?_ ?_
            ·go_simp
             (try simp only [i64_w])
             try rfl
            refine hK.out _ _ ⟨v462,v465,v469,m17_,m18_,m19_,m21_,(by rw [ha.out];exact putSel_upk 1 hb_ rfl rfl rfl),Q_BK458,Q_HB,Q_HO463,fun h0_=>absurd ((hoff 16 (by kernel_rfl)).symm.trans h0_) (by decide),fun h0_=>absurd ((hoff 17 (by kernel_rfl)).symm.trans h0_) (by decide),fun h0_=>absurd ((hoff 17 (by kernel_rfl)).symm.trans h0_) (by decide),fun h0_=>absurd ((hoff 18 (by kernel_rfl)).symm.trans h0_) (by decide),fun h0_=>absurd ((hoff 19 (by kernel_rfl)).symm.trans h0_) (by decide),fun h0_=>absurd ((hoff 21 (by kernel_rfl)).symm.trans h0_) (by decide)⟩
           refine steps_cons ?_ ?_
           ·rintro b a w' ⟨v462,v465,v469,m17_,m18_,m19_,m21_,ha,Q_BK458,Q_HB,Q_HO463,Q_HO466,Q_HO470,Q_X17_,Q_X18_,Q_X19_,Q_X21_⟩ hb_ hon hoff
            refine ⟨_,rfl,fun K hK=>?_⟩
            have e41:a.tmps[41]?=some (.int .i64 a0_0):=by rw [ha];exact putSel_on (e:=(3,41,.int .i64 a0_0)) 1 rfl rfl (hon 3 (by kernel_rfl)) rfl
            replace ha:=Aside0.mk ha
            have BK458:=Aside0.mk Q_BK458
            have HB:=Aside0.mk Q_HB
            refine value_ (w1:=w') (v:=.int .u64 (IntKind.u64.wrap (a0_0))) (by rfl) rfl ?_ ?_
            ·go_simp
             (try simp only [i64_w])
             try rfl
            refine hK.out _ _ ⟨v462,v465,v469,m17_,m18_,m19_,m21_,(by rw [ha.out];exact putSel_upk 2 hb_ rfl rfl rfl),Q_BK458,Q_HB,Q_HO463,fun h0_=>absurd ((hoff 16 (by kernel_rfl)).symm.trans h0_) (by decide),fun h0_=>absurd ((hoff 17 (by kernel_rfl)).symm.trans h0_) (by decide),fun h0_=>absurd ((hoff 17 (by kernel_rfl)).symm.trans h0_) (by decide),fun h0_=>absurd ((hoff 18 (by kernel_rfl)).symm.trans h0_) (by decide),fun h0_=>absurd ((hoff 19 (by kernel_rfl)).symm.trans h0_) (by decide),fun h0_=>absurd ((hoff 21 (by kernel_rfl)).symm.trans h0_) (by decide)⟩
           refine steps_cons ?_ ?_
           ·rintro b a w' ⟨v462,v465,v469,m17_,m18_,m19_,m21_,ha,Q_BK458,Q_HB,Q_HO463,Q_HO466,Q_HO470,Q_X17_,Q_X18_,Q_X19_,Q_X21_⟩ hb_ hon hoff
            refine ⟨_,rfl,fun K hK=>?_⟩
            have e44:a.tmps[44]?=some (.pointer (some ⟨gb458,1,none⟩)):=by rw [ha];exact (putSel_off rfl).trans rfl
            replace ha:=Aside0.mk ha
            have BK458:=Aside0.mk Q_BK458
            have HB:=Aside0.mk Q_HB
            have hc0_:w'.cell? ⟨gb458,0,none⟩=some (.int .i64 a0_0):=(blk_cell BK458.out 0).trans rfl
            have hc1_:w'.cell? ⟨gb458,1,none⟩=some (.int .i64 a0_1):=(blk_cell BK458.out 1).trans rfl
            have hc2_:w'.cell? ⟨gb458,2,none⟩=some (.int .i64 a0_2):=(blk_cell BK458.out 2).trans rfl
            have hc3_:w'.cell? ⟨gb458,3,none⟩=some (.bool a0_3):=(blk_cell BK458.out 3).trans rfl
            have hc4_:w'.cell? ⟨gb458,4,none⟩=some (.int .i64 a0_4):=(blk_cell BK458.out 4).trans rfl
            refine value_ (w1:=w') (v:=.int .i64 a0_1) (by rfl) rfl ?_ ?_
            ·go_simp
             (try simp only [i64_w])
             try rfl
            refine hK.out _ _ ⟨v462,v465,v469,m17_,m18_,m19_,m21_,(by rw [ha.out];exact putSel_upk 3 hb_ rfl rfl rfl),Q_BK458,Q_HB,Q_HO463,fun h0_=>absurd ((hoff 16 (by kernel_rfl)).symm.trans h0_) (by decide),fun h0_=>absurd ((hoff 17 (by kernel_rfl)).symm.trans h0_) (by decide),fun h0_=>absurd ((hoff 17 (by kernel_rfl)).symm.trans h0_) (by decide),fun h0_=>absurd ((hoff 18 (by kernel_rfl)).symm.trans h0_) (by decide),fun h0_=>absurd ((hoff 19 (by kernel_rfl)).symm.trans h0_) (by decide),fun h0_=>absurd ((hoff 21 (by kernel_rfl)).symm.trans h0_) (by decide)⟩
           refine steps_cons ?_ ?_
           ·rintro b a w' ⟨v462,v465,v469,m17_,m18_,m19_,m21_,ha,Q_BK458,Q_HB,Q_HO463,Q_HO466,Q_HO470,Q_X17_,Q_X18_,Q_X19_,Q_X21_⟩ hb_ hon hoff
            refine ⟨_,rfl,fun K hK=>?_⟩
            have e45:a.tmps[45]?=some (.int .i64 a0_1):=by rw [ha];exact putSel_on (e:=(7,45,.int .i64 a0_1)) 3 rfl rfl (hon 7 (by kernel_rfl)) rfl
            replace ha:=Aside0.mk ha
            have BK458:=Aside0.mk Q_BK458
            have HB:=Aside0.mk Q_HB
            refine value_ (w1:=w') (v:=.int .u64 (IntKind.u64.wrap (a0_1))) (by rfl) rfl ?_ ?_
            ·go_simp
             (try simp only [i64_w])
             try rfl
            refine hK.out _ _ ⟨v462,v465,v469,m17_,m18_,m19_,m21_,(by rw [ha.out];exact putSel_upk 4 hb_ rfl rfl rfl),Q_BK458,Q_HB,Q_HO463,fun h0_=>absurd ((hoff 16 (by kernel_rfl)).symm.trans h0_) (by decide),fun h0_=>absurd ((hoff 17 (by kernel_rfl)).symm.trans h0_) (by decide),fun h0_=>absurd ((hoff 17 (by kernel_rfl)).symm.trans h0_) (by decide),fun h0_=>absurd ((hoff 18 (by kernel_rfl)).symm.trans h0_) (by decide),fun h0_=>absurd ((hoff 19 (by kernel_rfl)).symm.trans h0_) (by decide),fun h0_=>absurd ((hoff 21 (by kernel_rfl)).symm.trans h0_) (by decide)⟩
           refine steps_cons ?_ ?_
           ·rintro b a w' ⟨v462,v465,v469,m17_,m18_,m19_,m21_,ha,Q_BK458,Q_HB,Q_HO463,Q_HO466,Q_HO470,Q_X17_,Q_X18_,Q_X19_,Q_X21_⟩ hb_ hon hoff
            refine ⟨_,rfl,fun K hK=>?_⟩
            have e48:a.tmps[48]?=some (.pointer (some ⟨gb458,2,none⟩)):=by rw [ha];exact (putSel_off rfl).trans rfl
            replace ha:=Aside0.mk ha
            have BK458:=Aside0.mk Q_BK458
            have HB:=Aside0.mk Q_HB
            have hc0_:w'.cell? ⟨gb458,0,none⟩=some (.int .i64 a0_0):=(blk_cell BK458.out 0).trans rfl
            have hc1_:w'.cell? ⟨gb458,1,none⟩=some (.int .i64 a0_1):=(blk_cell BK458.out 1).trans rfl
            have hc2_:w'.cell? ⟨gb458,2,none⟩=some (.int .i64 a0_2):=(blk_cell BK458.out 2).trans rfl
            have hc3_:w'.cell? ⟨gb458,3,none⟩=some (.bool a0_3):=(blk_cell BK458.out 3).trans rfl
            have hc4_:w'.cell? ⟨gb458,4,none⟩=some (.int .i64 a0_4):=(blk_cell BK458.out 4).trans rfl
            refine value_ (w1:=w') (v:=.int .i64 a0_2) (by rfl) rfl ?_ ?_
            ·go_simp
             (try simp only [i64_w])
             try rfl
            refine hK.out _ _ ⟨v462,v465,v469,m17_,m18_,m19_,m21_,(by rw [ha.out];exact putSel_upk 5 hb_ rfl rfl rfl),Q_BK458,Q_HB,Q_HO463,fun h0_=>absurd ((hoff 16 (by kernel_rfl)).symm.trans h0_) (by decide),fun h0_=>absurd ((hoff 17 (by kernel_rfl)).symm.trans h0_) (by decide),fun h0_=>absurd ((hoff 17 (by kernel_rfl)).symm.trans h0_) (by decide),fun h0_=>absurd ((hoff 18 (by kernel_rfl)).symm.trans h0_) (by decide),fun h0_=>absurd ((hoff 19 (by kernel_rfl)).symm.trans h0_) (by decide),fun h0_=>absurd ((hoff 21 (by kernel_rfl)).symm.trans h0_) (by decide)⟩
           refine steps_cons ?_ ?_
           ·rintro b a w' ⟨v462,v465,v469,m17_,m18_,m19_,m21_,ha,Q_BK458,Q_HB,Q_HO463,Q_HO466,Q_HO470,Q_X17_,Q_X18_,Q_X19_,Q_X21_⟩ hb_ hon hoff
            refine ⟨_,rfl,fun K hK=>?_⟩
            have e49:a.tmps[49]?=some (.int .i64 a0_2):=by rw [ha];exact putSel_on (e:=(11,49,.int .i64 a0_2)) 5 rfl rfl (hon 11 (by kernel_rfl)) rfl
            replace ha:=Aside0.mk ha
            have BK458:=Aside0.mk Q_BK458
            have HB:=Aside0.mk Q_HB
            refine value_ (w1:=w') (v:=.int .u64 (IntKind.u64.wrap (a0_2))) (by rfl) rfl ?_ ?_
            ·go_simp
             (try simp only [i64_w])
             try rfl
            refine hK.out _ _ ⟨v462,v465,v469,m17_,m18_,m19_,m21_,(by rw [ha.out];exact putSel_upk 6 hb_ rfl rfl rfl),Q_BK458,Q_HB,Q_HO463,fun h0_=>absurd ((hoff 16 (by kernel_rfl)).symm.trans h0_) (by decide),fun h0_=>absurd ((hoff 17 (by kernel_rfl)).symm.trans h0_) (by decide),fun h0_=>absurd ((hoff 17 (by kernel_rfl)).symm.trans h0_) (by decide),fun h0_=>absurd ((hoff 18 (by kernel_rfl)).symm.trans h0_) (by decide),fun h0_=>absurd ((hoff 19 (by kernel_rfl)).symm.trans h0_) (by decide),fun h0_=>absurd ((hoff 21 (by kernel_rfl)).symm.trans h0_) (by decide)⟩
           refine steps_cons ?_ ?_
           ·rintro b a w' ⟨v462,v465,v469,m17_,m18_,m19_,m21_,ha,Q_BK458,Q_HB,Q_HO463,Q_HO466,Q_HO470,Q_X17_,Q_X18_,Q_X19_,Q_X21_⟩ hb_ hon hoff
            refine ⟨_,rfl,fun K hK=>?_⟩
            have e51:a.tmps[51]?=some (.pointer (some ⟨gb458,4,none⟩)):=by rw [ha];exact (putSel_off rfl).trans rfl
            replace ha:=Aside0.mk ha
            have BK458:=Aside0.mk Q_BK458
            have HB:=Aside0.mk Q_HB
            have hc0_:w'.cell? ⟨gb458,0,none⟩=some (.int .i64 a0_0):=(blk_cell BK458.out 0).trans rfl
            have hc1_:w'.cell? ⟨gb458,1,none⟩=some (.int .i64 a0_1):=(blk_cell BK458.out 1).trans rfl
            have hc2_:w'.cell? ⟨gb458,2,none⟩=some (.int .i64 a0_2):=(blk_cell BK458.out 2).trans rfl
            have hc3_:w'.cell? ⟨gb458,3,none⟩=some (.bool a0_3):=(blk_cell BK458.out 3).trans rfl
            have hc4_:w'.cell? ⟨gb458,4,none⟩=some (.int .i64 a0_4):=(blk_cell BK458.out 4).trans rfl
            refine value_ (w1:=w') (v:=.int .i64 a0_4) (by rfl) rfl ?_ ?_
            ·go_simp
             (try simp only [i64_w])
             try rfl
            refine hK.out _ _ ⟨v462,v465,v469,m17_,m18_,m19_,m21_,(by rw [ha.out];exact putSel_upk 7 hb_ rfl rfl rfl),Q_BK458,Q_HB,Q_HO463,fun h0_=>absurd ((hoff 16 (by kernel_rfl)).symm.trans h0_) (by decide),fun h0_=>absurd ((hoff 17 (by kernel_rfl)).symm.trans h0_) (by decide),fun h0_=>absurd ((hoff 17 (by kernel_rfl)).symm.trans h0_) (by decide),fun h0_=>absurd ((hoff 18 (by kernel_rfl)).symm.trans h0_) (by decide),fun h0_=>absurd ((hoff 19 (by kernel_rfl)).symm.trans h0_) (by decide),fun h0_=>absurd ((hoff 21 (by kernel_rfl)).symm.trans h0_) (by decide)⟩
           refine steps_cons ?_ ?_
           ·rintro b a w' ⟨v462,v465,v469,m17_,m18_,m19_,m21_,ha,Q_BK458,Q_HB,Q_HO463,Q_HO466,Q_HO470,Q_X17_,Q_X18_,Q_X19_,Q_X21_⟩ hb_ hon hoff
            refine ⟨_,rfl,fun K hK=>?_⟩
            have e52:a.tmps[52]?=some (.int .i64 a0_4):=by rw [ha];exact putSel_on (e:=(14,52,.int .i64 a0_4)) 7 rfl rfl (hon 14 (by kernel_rfl)) rfl
            replace ha:=Aside0.mk ha
            have BK458:=Aside0.mk Q_BK458
            have HB:=Aside0.mk Q_HB
            refine value_ (w1:=w') (v:=.int .u64 (IntKind.u64.wrap (a0_4))) (by rfl) rfl ?_ ?_
            ·go_simp
             (try simp only [i64_w])
             try rfl
            refine hK.out _ _ ⟨v462,v465,v469,m17_,m18_,m19_,m21_,(by rw [ha.out];exact putSel_upk 8 hb_ rfl rfl rfl),Q_BK458,Q_HB,Q_HO463,fun h0_=>absurd ((hoff 16 (by kernel_rfl)).symm.trans h0_) (by decide),fun h0_=>absurd ((hoff 17 (by kernel_rfl)).symm.trans h0_) (by decide),fun h0_=>absurd ((hoff 17 (by kernel_rfl)).symm.trans h0_) (by decide),fun h0_=>absurd ((hoff 18 (by kernel_rfl)).symm.trans h0_) (by decide),fun h0_=>absurd ((hoff 19 (by kernel_rfl)).symm.trans h0_) (by decide),fun h0_=>absurd ((hoff 21 (by kernel_rfl)).symm.trans h0_) (by decide)⟩
           refine steps_cons ?_ ?_
           ·rintro b a w' ⟨v462,v465,v469,m17_,m18_,m19_,m21_,ha,Q_BK458,Q_HB,Q_HO463,Q_HO466,Q_HO470,Q_X17_,Q_X18_,Q_X19_,Q_X21_⟩ hb_ hon hoff
            refine ⟨_,rfl,fun K hK=>?_⟩
            have e42:a.tmps[42]?=some (.int .u64 (IntKind.u64.wrap (a0_0))):=by rw [ha];exact putSel_on (e:=(4,42,.int .u64 (IntKind.u64.wrap (a0_0)))) 2 rfl rfl (hon 4 (by kernel_rfl)) rfl
            have e46:a.tmps[46]?=some (.int .u64 (IntKind.u64.wrap (a0_1))):=by rw [ha];exact putSel_on (e:=(8,46,.int .u64 (IntKind.u64.wrap (a0_1)))) 4 rfl rfl (hon 8 (by kernel_rfl)) rfl
            have e47:a.tmps[47]?=some (.int .u64 x5_19):=by rw [ha];exact (putSel_off rfl).trans rfl
            have e50:a.tmps[50]?=some (.int .u64 (IntKind.u64.wrap (a0_2))):=by rw [ha];exact putSel_on (e:=(12,50,.int .u64 (IntKind.u64.wrap (a0_2)))) 6 rfl rfl (hon 12 (by kernel_rfl)) rfl
            have e53:a.tmps[53]?=some (.int .u64 (IntKind.u64.wrap (a0_4))):=by rw [ha];exact putSel_on (e:=(15,53,.int .u64 (IntKind.u64.wrap (a0_4)))) 8 rfl rfl (hon 15 (by kernel_rfl)) rfl
            replace ha:=Aside0.mk ha
            have BK458:=Aside0.mk Q_BK458
            have HB:=Aside0.mk Q_HB
            refine Kd.R_lit_step (Kd.int .u64) _ 76 ?hg (N:=54) ?hd (xs:=([1397508432,IntKind.u64.wrap (a0_0),IntKind.u64.wrap (a0_1),x5_19,IntKind.u64.wrap (a0_2),IntKind.u64.wrap (a0_4)]:List Int)) (inner:=[.int .u64 1397508432,.int .u64 (IntKind.u64.wrap (a0_0)),.int .u64 (IntKind.u64.wrap (a0_1)),.int .u64 x5_19,.int .u64 (IntKind.u64.wrap (a0_2)),.int .u64 (IntKind.u64.wrap (a0_4))]) (ok:=fun _=>True) (okp:=fun _=>True) ?hr ?hp (fun _ hk=>hk) trivial (Below.refl _ _) (Nat.le_refl _) (by simp) ?_;(case hd=>rfl);(case hg=>rfl);(case hr=>first|(go_simp;done)|(go_simp;rfl));(case hp=>exact (Reps.one (show Kd.M (Kd.int .u64) _ _ _ 1397508432 [.int .u64 1397508432] from rfl) (Reps.one (show Kd.M (Kd.int .u64) _ _ _ (IntKind.u64.wrap (a0_0)) [.int .u64 (IntKind.u64.wrap (a0_0))] from rfl) (Reps.one (show Kd.M (Kd.int .u64) _ _ _ (IntKind.u64.wrap (a0_1)) [.int .u64 (IntKind.u64.wrap (a0_1))] from rfl) (Reps.one (show Kd.M (Kd.int .u64) _ _ _ x5_19 [.int .u64 x5_19] from rfl) (Reps.one (show Kd.M (Kd.int .u64) _ _ _ (IntKind.u64.wrap (a0_2)) [.int .u64 (IntKind.u64.wrap (a0_2))] from rfl) (Reps.one (show Kd.M (Kd.int .u64) _ _ _ (IntKind.u64.wrap (a0_4)) [.int .u64 (IntKind.u64.wrap (a0_4))] from rfl) (Reps.none _ _))))))))
            intro v465 w31 ho32 hb hg_ hnew_
            clear hg_ hnew_
            (first|rw [← Ny464.out] at ho32|(simp only [Int.reduceToNat] at ho32;rw [← Ny464.out] at ho32))
            have n0_:=Aside0.mk (Kd.R_lower ho32 (below_size (by repeat (first|(with_reducible first|exact HB.out|apply below_alloc|apply pw_below_drewN|apply below_drew1|refine below_set ?_ GE458.out)|exact HB.out))))
            have n1_:=Aside0.mk (blk_below (g:=gb458) (o:=.cells #[.int .i64 a0_0,.int .i64 a0_1,.int .i64 a0_2,.bool a0_3,.int .i64 a0_4] 63 (0,0)) (by (with_reducible repeat (first|refine blk_drewN ?_ _|refine blk_drew ?_|refine blk_alloc ?_ _));exact BK458.out) hb)
            have n2_:=Aside0.mk (below_step (by repeat (first|(with_reducible first|exact HB.out|apply below_alloc|apply pw_below_drewN|apply below_drew1|refine below_set ?_ GE458.out)|exact HB.out)) hb)
            have z_HO463:=fun (h0_:b 0=true)=>(show Kd.R (Kd.int .i64) 3 w31 w.heap.size (fun _=>True) v462 t461 from by first|exact (Kd.R_below (by (with_reducible repeat (first|apply Kd.R_alloc|apply Kd.R_drewN|apply Kd.R_drew));exact (Q_HO463 h0_)) hb)|exact Kd.R_mono (Kd.R_below (by (with_reducible repeat (first|apply Kd.R_alloc|apply Kd.R_drewN|apply Kd.R_drew));exact (Q_HO463 h0_)) hb) (fun _ h_=>by first|trivial|exact h_|exact h_.1))
            clear BK458 HB
            have HO466:=n0_
            have BK458:=n1_
            have HB:=n2_
            clear n0_ n1_ n2_ hb ho32
            refine hK.out _ _ ⟨v462,v465,v469,m17_,m18_,m19_,m21_,(by rw [ha.out];exact putSel_upk 9 hb_ rfl rfl rfl),(by (with_reducible repeat (first|refine blk_drewN ?_ _|refine blk_drew ?_|refine blk_alloc ?_ _));exact BK458.out),(by repeat (first|(with_reducible first|exact HB.out|apply below_alloc|apply pw_below_drewN|apply below_drew1|refine below_set ?_ GE458.out)|exact HB.out)),z_HO463,fun _=>(by (with_reducible repeat (first|apply Kd.R_alloc|apply Kd.R_drewN|apply Kd.R_drew));exact HO466.out),fun h0_=>absurd ((hoff 17 (by kernel_rfl)).symm.trans h0_) (by decide),fun h0_=>absurd ((hoff 17 (by kernel_rfl)).symm.trans h0_) (by decide),fun h0_=>absurd ((hoff 18 (by kernel_rfl)).symm.trans h0_) (by decide),fun h0_=>absurd ((hoff 19 (by kernel_rfl)).symm.trans h0_) (by decide),fun h0_=>absurd ((hoff 21 (by kernel_rfl)).symm.trans h0_) (by decide)⟩
           refine steps_cons ?_ ?_
           ·rintro b a w' ⟨v462,v465,v469,m17_,m18_,m19_,m21_,ha,Q_BK458,Q_HB,Q_HO463,Q_HO466,Q_HO470,Q_X17_,Q_X18_,Q_X19_,Q_X21_⟩ hb_ hon hoff
            refine ⟨_,rfl,fun K hK=>?_⟩
            have e38:a.tmps[38]?=some (v462):=by rw [ha];exact putSel_on (e:=(0,38,v462)) 0 rfl rfl (hon 0 (by kernel_rfl)) rfl
            have e54:a.tmps[54]?=some (v465):=by rw [ha];exact putSel_on (e:=(16,54,v465)) 9 rfl rfl (hon 16 (by kernel_rfl)) rfl
            replace ha:=Aside0.mk ha
            have BK458:=Aside0.mk Q_BK458
            have HB:=Aside0.mk Q_HB
            have HO463:=Aside0.mk (Q_HO463 (hon 0 (by kernel_rfl)))
            have HO466:=Aside0.mk (Q_HO466 (hon 16 (by kernel_rfl)))
            obtain ⟨Ao35,co35,eo35⟩:=Kd.R_slice HO463.out
            (first|subst eo35|(injection eo35 with f1_ f2_ f3_;have f4_:=f1_.symm;have f5_:=f3_.symm;clear f1_ f2_ f3_;subst f4_;subst f5_))
            obtain ⟨Ao36,co36,eo36⟩:=Kd.R_slice HO466.out
            (first|subst eo36|(injection eo36 with f1_ f2_ f3_;have f4_:=f1_.symm;have f5_:=f3_.symm;clear f1_ f2_ f3_;subst f4_;subst f5_))
            refine goes_ Try.func53 (by kernel_rfl) rfl #[.slice Ao35 t461.length co35,.slice Ao36 y464.length co36] (by rfl) rfl rfl (by first|(simp only [List.map_toArray,List.map_cons,List.map_nil,Act.eval,Array.getD_eq_getD_getElem?,Option.getD_some,e38,e54];done)|(simp only [List.map_toArray,List.map_cons,List.map_nil,Act.eval,Array.getD_eq_getD_getElem?,Option.getD_some,e38,e54];rfl)) ?_
            with_reducible refine (seal_Pack.calls kj19 _ _ t461 _ _ y464 t467 t468 _ ?side1 ?side2 ?side3 ?side4 A24.out).mono ?_
            (case side1=>repeat (first|exact (Kd.R_reads' HO463.out).2.2|(with_reducible refine Kd.C_alloc ?_ _)|(with_reducible refine Kd.C_drewN ?_ _)|(with_reducible refine Kd.C_drew ?_)))
            (case side2=>exact (Kd.R_reads' HO463.out).2.1)
            (case side3=>repeat (first|exact (Kd.R_reads' HO466.out).2.2|(with_reducible refine Kd.C_alloc ?_ _)|(with_reducible refine Kd.C_drewN ?_ _)|(with_reducible refine Kd.C_drew ?_)))
            (case side4=>exact (Kd.R_reads' HO466.out).2.1)
            rintro e w37 ⟨v469,rfl,ho0,hb⟩
            refine ⟨_,rfl,?_⟩
            have n0_:=Aside0.mk (Kd.R_below (by (with_reducible repeat (first|apply Kd.R_alloc|apply Kd.R_drewN|apply Kd.R_drew));exact HO463.out) hb)
            have n1_:=Aside0.mk (Kd.R_below (by (with_reducible repeat (first|apply Kd.R_alloc|apply Kd.R_drewN|apply Kd.R_drew));exact HO466.out) hb)
            have n2_:=Aside0.mk (Kd.R_lower ho0 (below_size (by repeat (first|(with_reducible first|exact HB.out|apply below_alloc|apply pw_below_drewN|apply below_drew1|refine below_set ?_ GE458.out)|exact HB.out))))
            have n3_:=Aside0.mk (blk_below (g:=gb458) (o:=.cells #[.int .i64 a0_0,.int .i64 a0_1,.int .i64 a0_2,.bool a0_3,.int .i64 a0_4] 63 (0,0)) (by (with_reducible repeat (first|refine blk_drewN ?_ _|refine blk_drew ?_|refine blk_alloc ?_ _));exact BK458.out) hb)
            have n4_:=Aside0.mk (below_step (by repeat (first|(with_reducible first|exact HB.out|apply below_alloc|apply pw_below_drewN|apply below_drew1|refine below_set ?_ GE458.out)|exact HB.out)) hb)
            clear HO463 HO466 BK458 HB
            have HO463:=n0_
            have HO466:=n1_
            have HO470:=n2_
            have BK458:=n3_
            have HB:=n4_
            clear n0_ n1_ n2_ n3_ n4_
            (try clear hb)
            (try clear hb2)
            (try clear hk)
            (try clear hi)
            (try clear ho0)
            refine hK.out _ _ ⟨.slice Ao35 t461.length co35,.slice Ao36 y464.length co36,v469,(.tuple #[v469,.int .i64 t468]),m18_,m19_,m21_,(by rw [ha.out];exact putSel_upk 10 hb_ rfl rfl rfl),(by (with_reducible repeat (first|refine blk_drewN ?_ _|refine blk_drew ?_|refine blk_alloc ?_ _));exact BK458.out),(by repeat (first|(with_reducible first|exact HB.out|apply below_alloc|apply pw_below_drewN|apply below_drew1|refine below_set ?_ GE458.out)|exact HB.out)),fun _=>(by (with_reducible repeat (first|apply Kd.R_alloc|apply Kd.R_drewN|apply Kd.R_drew));exact HO463.out),fun _=>(by (with_reducible repeat (first|apply Kd.R_alloc|apply Kd.R_drewN|apply Kd.R_drew));exact HO466.out),fun _=>(by (with_reducible repeat (first|apply Kd.R_alloc|apply Kd.R_drewN|apply Kd.R_drew));exact HO470.out),fun _=>rfl,fun h0_=>absurd ((hoff 18 (by kernel_rfl)).symm.trans h0_) (by decide),fun h0_=>absurd ((hoff 19 (by kernel_rfl)).symm.trans h0_) (by decide),fun h0_=>absurd ((hoff 21 (by kernel_rfl)).symm.trans h0_) (by decide)⟩
           refine steps_cons ?_ ?_
           ·rintro b a w' ⟨v462,v465,v469,m17_,m18_,m19_,m21_,ha,Q_BK458,Q_HB,Q_HO463,Q_HO466,Q_HO470,Q_X17_,Q_X18_,Q_X19_,Q_X21_⟩ hb_ hon hoff
            refine ⟨_,rfl,fun K hK=>?_⟩
            have e55:a.tmps[55]?=some (m17_):=by rw [ha];exact putSel_on (e:=(17,55,m17_)) 10 rfl rfl (hon 17 (by kernel_rfl)) rfl
            rw [Q_X17_ (hon 17 (by kernel_rfl))] at e55
            replace ha:=Aside0.mk ha
            have BK458:=Aside0.mk Q_BK458
            have HB:=Aside0.mk Q_HB
            have HO463:=Aside0.mk (Q_HO463 (hon 0 (by kernel_rfl)))
            have HO466:=Aside0.mk (Q_HO466 (hon 16 (by kernel_rfl)))
            have HO470:=Aside0.mk (Q_HO470 (hon 17 (by kernel_rfl)))
            refine value_ (w1:=w') (v:=.tuple #[v469,.int .i64 t468]) (by rfl) rfl ?_ ?_
            ·go_simp
             (try simp only [i64_w])
             try rfl
            refine hK.out _ _ ⟨v462,v465,v469,m17_,(.tuple #[v469,.int .i64 t468]),m19_,m21_,(by rw [ha.out];exact putSel_upk 11 hb_ rfl rfl rfl),Q_BK458,Q_HB,Q_HO463,Q_HO466,Q_HO470,Q_X17_,fun _=>rfl,fun h0_=>absurd ((hoff 19 (by kernel_rfl)).symm.trans h0_) (by decide),fun h0_=>absurd ((hoff 21 (by kernel_rfl)).symm.trans h0_) (by decide)⟩
           refine steps_cons ?_ ?_
           ·rintro b a w' ⟨v462,v465,v469,m17_,m18_,m19_,m21_,ha,Q_BK458,Q_HB,Q_HO463,Q_HO466,Q_HO470,Q_X17_,Q_X18_,Q_X19_,Q_X21_⟩ hb_ hon hoff
            refine ⟨_,rfl,fun K hK=>?_⟩
            have e37:a.tmps[37]?=some (m18_):=by rw [ha];exact putSel_on (e:=(18,37,m18_)) 11 rfl rfl (hon 18 (by kernel_rfl)) rfl
            rw [Q_X18_ (hon 18 (by kernel_rfl))] at e37
            replace ha:=Aside0.mk ha
            have BK458:=Aside0.mk Q_BK458
            have HB:=Aside0.mk Q_HB
            have HO463:=Aside0.mk (Q_HO463 (hon 0 (by kernel_rfl)))
            have HO466:=Aside0.mk (Q_HO466 (hon 16 (by kernel_rfl)))
            have HO470:=Aside0.mk (Q_HO470 (hon 17 (by kernel_rfl)))
            obtain ⟨Ao19_0,co19_0,eo_⟩:=Kd.R_slice HO470.out
            subst eo_
            refine value_ (w1:=w') (v:=.slice Ao19_0 t467.length co19_0) (by rfl) rfl ?_ ?_
            ·go_simp
             (try simp only [i64_w])
             try rfl
            refine hK.out _ _ ⟨v462,v465,.slice Ao19_0 t467.length co19_0,m17_,m18_,(.slice Ao19_0 t467.length co19_0),m21_,(by rw [ha.out];exact putSel_upk 12 hb_ rfl rfl rfl),Q_BK458,Q_HB,Q_HO463,Q_HO466,Q_HO470,Q_X17_,Q_X18_,fun _=>rfl,fun h0_=>absurd ((hoff 21 (by kernel_rfl)).symm.trans h0_) (by decide)⟩
           refine steps_cons ?_ ?_
           ·rintro b a w' ⟨v462,v465,v469,m17_,m18_,m19_,m21_,ha,Q_BK458,Q_HB,Q_HO463,Q_HO466,Q_HO470,Q_X17_,Q_X18_,Q_X19_,Q_X21_⟩ hb_ hon hoff
            refine ⟨_,rfl,fun K hK=>?_⟩
            have e37:a.tmps[37]?=some (m18_):=by rw [ha];exact putSel_on (e:=(18,37,m18_)) 11 rfl rfl (hon 18 (by kernel_rfl)) rfl
            rw [Q_X18_ (hon 18 (by kernel_rfl))] at e37
            replace ha:=Aside0.mk ha
            have BK458:=Aside0.mk Q_BK458
            have HB:=Aside0.mk Q_HB
            have HO463:=Aside0.mk (Q_HO463 (hon 0 (by kernel_rfl)))
            have HO466:=Aside0.mk (Q_HO466 (hon 16 (by kernel_rfl)))
            have HO470:=Aside0.mk (Q_HO470 (hon 17 (by kernel_rfl)))
            obtain ⟨Ao20_0,co20_0,eo_⟩:=Kd.R_slice HO470.out
            subst eo_
            refine value_ (w1:=w') (v:=.int .i64 t468) (by rfl) rfl ?_ ?_
            ·go_simp
             (try simp only [i64_w])
             try rfl
            refine hK.out _ _ ⟨v462,v465,.slice Ao20_0 t467.length co20_0,m17_,m18_,m19_,m21_,(by rw [ha.out];exact putSel_upk 13 hb_ rfl rfl rfl),Q_BK458,Q_HB,Q_HO463,Q_HO466,Q_HO470,Q_X17_,Q_X18_,Q_X19_,Q_X21_⟩
           refine steps_cons ?_ ?_
           ·rintro b a w' ⟨v462,v465,v469,m17_,m18_,m19_,m21_,ha,Q_BK458,Q_HB,Q_HO463,Q_HO466,Q_HO470,Q_X17_,Q_X18_,Q_X19_,Q_X21_⟩ hb_ hon hoff
            refine ⟨_,rfl,fun K hK=>?_⟩
            have e56:a.tmps[56]?=some (m19_):=by rw [ha];exact putSel_on (e:=(19,56,m19_)) 12 rfl rfl (hon 19 (by kernel_rfl)) rfl
            rw [Q_X19_ (hon 19 (by kernel_rfl))] at e56
            replace ha:=Aside0.mk ha
            have BK458:=Aside0.mk Q_BK458
            have HB:=Aside0.mk Q_HB
            have HO463:=Aside0.mk (Q_HO463 (hon 0 (by kernel_rfl)))
            have HO466:=Aside0.mk (Q_HO466 (hon 16 (by kernel_rfl)))
            have HO470:=Aside0.mk (Q_HO470 (hon 17 (by kernel_rfl)))
            refine value_ (w1:=w') (v:=v469) (by rfl) rfl ?_ ?_
            ·go_simp
             (try simp only [i64_w])
             try rfl
            refine hK.out _ _ ⟨v462,v465,v469,m17_,m18_,m19_,(v469),(by rw [ha.out];exact putSel_upk 14 hb_ rfl rfl rfl),Q_BK458,Q_HB,Q_HO463,Q_HO466,Q_HO470,Q_X17_,Q_X18_,Q_X19_,fun _=>rfl⟩
           refine steps_cons ?_ ?_
           ·rintro b a w' ⟨v462,v465,v469,m17_,m18_,m19_,m21_,ha,Q_BK458,Q_HB,Q_HO463,Q_HO466,Q_HO470,Q_X17_,Q_X18_,Q_X19_,Q_X21_⟩ hb_ hon hoff
            refine ⟨_,rfl,fun K hK=>?_⟩
            have e57:a.tmps[57]?=some (.int .i64 t468):=by rw [ha];exact putSel_on (e:=(20,57,.int .i64 t468)) 13 rfl rfl (hon 20 (by kernel_rfl)) rfl
            replace ha:=Aside0.mk ha
            have BK458:=Aside0.mk Q_BK458
            have HB:=Aside0.mk Q_HB
            have HO463:=Aside0.mk (Q_HO463 (hon 0 (by kernel_rfl)))
            have HO466:=Aside0.mk (Q_HO466 (hon 16 (by kernel_rfl)))
            have HO470:=Aside0.mk (Q_HO470 (hon 17 (by kernel_rfl)))
            refine value_ (w1:=w') (v:=.int .i64 t468) (by rfl) rfl ?_ ?_
            ·go_simp
             (try simp only [i64_w])
             try rfl
            refine hK.out _ _ ⟨v462,v465,v469,m17_,m18_,m19_,m21_,(by rw [ha.out];exact putSel_upk 15 hb_ rfl rfl rfl),Q_BK458,Q_HB,Q_HO463,Q_HO466,Q_HO470,Q_X17_,Q_X18_,Q_X19_,Q_X21_⟩
           exact steps_nil
          rintro b a w37 hall ⟨v462,v465,v469,m17_,m18_,m19_,m21_,ha,Q_BK458,Q_HB,Q_HO463,Q_HO466,Q_HO470,Q_X17_,Q_X18_,Q_X19_,Q_X21_⟩
          clear BK458 HB
          have hb0_:=hall 0 (by kernel_rfl)
          have hb3_:=hall 3 (by kernel_rfl)
          have hb4_:=hall 4 (by kernel_rfl)
          have hb7_:=hall 7 (by kernel_rfl)
          have hb8_:=hall 8 (by kernel_rfl)
          have hb11_:=hall 11 (by kernel_rfl)
          have hb12_:=hall 12 (by kernel_rfl)
          have hb14_:=hall 14 (by kernel_rfl)
          have hb15_:=hall 15 (by kernel_rfl)
          have hb16_:=hall 16 (by kernel_rfl)
          have hb17_:=hall 17 (by kernel_rfl)
          have hb18_:=hall 18 (by kernel_rfl)
          have hb19_:=hall 19 (by kernel_rfl)
          have hb20_:=hall 20 (by kernel_rfl)
          have hb21_:=hall 21 (by kernel_rfl)
          have hb22_:=hall 22 (by kernel_rfl)
          subst ha
          obtain rfl:=Q_X17_ hb17_
          obtain rfl:=Q_X18_ hb18_
          obtain rfl:=Q_X19_ hb19_
          obtain rfl:=Q_X21_ hb21_
          simp only [putSel,hb0_,hb3_,hb4_,hb7_,hb8_,hb11_,hb12_,hb14_,hb15_,hb16_,hb17_,hb18_,hb19_,hb20_,hb21_,hb22_,if_true,Act.put,List.setIfInBounds_toArray,List.set_cons_zero,List.set_cons_succ]
          have BK458:=Aside0.mk Q_BK458
          clear Q_BK458
          have HB:=Aside0.mk Q_HB
          clear Q_HB
          have HO463:=Aside0.mk (Q_HO463 hb0_)
          clear Q_HO463
          have HO466:=Aside0.mk (Q_HO466 hb16_)
          clear Q_HO466
          have HO470:=Aside0.mk (Q_HO470 hb17_)
          clear Q_HO470 hall hb0_ hb3_ hb4_ hb7_ hb8_ hb11_ hb12_ hb14_ hb15_ hb16_ hb17_ hb18_ hb19_ hb20_ hb21_ hb22_
          obtain ⟨Ao38,co38,eo38⟩:=Kd.R_slice HO470.out
          subst eo38
          try go_wp2_with (first|(at_builtin;refine Kd.R_append_zeros (Kd.int .u8) (w0:=w) w.heap.size rfl (.tmp 61) (.tmp 64) 48 3 5 (.int .u8 0) 1 rfl Try.underlying48 Try.underlying3 info5 rfl (by decide) (by omega) (.slice Ao38 t467.length co38) t467 0 (ji26:Int) (fun _=>True) rfl rfl rfl ?aF ?aO (of_decide_eq_true (by first|(with_reducible assumption)|assumption)) ?aB ?aS ?aL ?_;(case aB=>exact (by repeat (first|(with_reducible first|exact HB.out|apply below_alloc|apply pw_below_drewN|apply below_drew1|refine below_set ?_ GE458.out)|exact HB.out)));(case aF=>exact (fun _ _=>trivial));(case aO=>exact (by (with_reducible repeat (first|apply Kd.R_alloc|apply Kd.R_drewN|apply Kd.R_drew));exact HO470.out));(case aS=>exact (below_size (by repeat (first|(with_reducible first|exact HB.out|apply below_alloc|apply pw_below_drewN|apply below_drew1|refine below_set ?_ GE458.out)|exact HB.out))));(case aL=>have:=LMc28.out;omega);intro v472 w39 ho hb hg hat;rw [← Ny471.out] at ho;have n0_:=Aside0.mk (blk_grown (g:=gb458) (o:=.cells #[.int .i64 a0_0,.int .i64 a0_1,.int .i64 a0_2,.bool a0_3,.int .i64 a0_4] 63 (0,0)) (by (with_reducible repeat (first|refine blk_drewN ?_ _|refine blk_drew ?_|refine blk_alloc ?_ _));exact BK458.out) hg (Kd.R_ne HO470.out BK458.out (by decide)));have n1_:=Aside0.mk (Kd.R_over' (by (with_reducible repeat (first|apply Kd.R_alloc|apply Kd.R_drewN|apply Kd.R_drew));exact HO463.out) (Kd.R_typed (by (with_reducible repeat (first|apply Kd.R_alloc|apply Kd.R_drewN|apply Kd.R_drew));exact HO470.out)) (by decide) hg);have n2_:=Aside0.mk (Kd.R_over' (by (with_reducible repeat (first|apply Kd.R_alloc|apply Kd.R_drewN|apply Kd.R_drew));exact HO466.out) (Kd.R_typed (by (with_reducible repeat (first|apply Kd.R_alloc|apply Kd.R_drewN|apply Kd.R_drew));exact HO470.out)) (by decide) hg);have n3_:=Aside0.mk (hb);have n4_:=Aside0.mk (ho);clear BK458 HO463 HO466 HB HO470;have BK458:=n0_;have HO463:=n1_;have HO466:=n2_;have HB:=n3_;have HO473:=n4_;clear n0_ n1_ n2_ n3_ n4_;clear ho hb hg hat;obtain ⟨Ao40,co40,eo40⟩:=Kd.R_slice HO473.out;subst eo40)|((with_reducible refine gate_callee (f:=55) rfl ?_);refine goesL_ (some 66) rfl rfl Try.func55 (by kernel_rfl) rfl #[.slice Ao40 y471.length co40] rfl (by (try simp only [List.map_toArray,List.map_cons,List.map_nil]);first|done|rfl|(simp only [List.length_drop,List.length_take];rfl)) ?_;(with_reducible refine (seal_Seal.calls kj19 (fun k_=>some k_=(.slice Ao40 y471.length co40:Value).ownBlock) _ _ y471 t474 t477 _ ?side1 A29.out).mono ?_);(case side1=>exact Kd.R_V (Kd.R_tight rfl (Kd.R_types (Kd.R_apart' (Kd.R_apart' (HO473.out) (Kd.R_typed HO463.out) (by decide)) (Kd.R_typed HO466.out) (by decide)) BK458.out (by decide))));rintro e w41 ⟨v475,rfl,ho0,hb⟩;refine ⟨_,rfl,?_⟩;have n0_:=Aside0.mk (Kd.R_below (by (with_reducible repeat (first|apply Kd.R_alloc|apply Kd.R_drewN|apply Kd.R_drew));exact HO463.out) hb);have n1_:=Aside0.mk (Kd.R_below (by (with_reducible repeat (first|apply Kd.R_alloc|apply Kd.R_drewN|apply Kd.R_drew));exact HO466.out) hb);have n2_:=Aside0.mk (Kd.R_elder' (by (with_reducible repeat (first|apply Kd.R_alloc|apply Kd.R_drewN|apply Kd.R_drew));exact HO473.out) (Kd.R_base ho0) hb);have n3_:=Aside0.mk (Kd.R_lower (Kd.R_new' (Kd.R_mono (ok':=fun k_=>True) ho0 (fun _ hk_=>trivial)) (Kd.R_lt (by (with_reducible repeat (first|apply Kd.R_alloc|apply Kd.R_drewN|apply Kd.R_drew));exact HO473.out))) (below_size (by repeat (first|(with_reducible first|exact HB.out|apply below_alloc|apply pw_below_drewN|apply below_drew1|refine below_set ?_ GE458.out)|exact HB.out))));have n4_:=Aside0.mk (blk_below (g:=gb458) (o:=.cells #[.int .i64 a0_0,.int .i64 a0_1,.int .i64 a0_2,.bool a0_3,.int .i64 a0_4] 63 (0,0)) (by (with_reducible repeat (first|refine blk_drewN ?_ _|refine blk_drew ?_|refine blk_alloc ?_ _));exact BK458.out) hb);have n5_:=Aside0.mk (below_step (by repeat (first|(with_reducible first|exact HB.out|apply below_alloc|apply pw_below_drewN|apply below_drew1|refine below_set ?_ GE458.out)|exact HB.out)) hb);clear HO463 HO466 HO473 BK458 HB;have HO463:=n0_;have HO466:=n1_;have HO473:=n2_;have HO476:=n3_;have BK458:=n4_;have HB:=n5_;clear n0_ n1_ n2_ n3_ n4_ n5_;(try clear hb);(try clear hb2);(try clear hk);(try clear hi);(try clear ho0)))
          go_ret2
          exact ⟨_,by first|rfl|(simp [errW_none,errW_some] <;> rfl)|(simp only [← hji26];first|rfl|(simp [errW_none,errW_some] <;> rfl))|(simp [*,errW_none,errW_some] <;> rfl),by (with_reducible repeat (first|apply Kd.R_alloc|apply Kd.R_drewN|apply Kd.R_drew));exact Kd.R_mono HO476.out (fun _ hk=>trivial),by repeat (first|(with_reducible first|exact HB.out|apply below_alloc|apply pw_below_drewN|apply below_drew1|refine below_set ?_ GE458.out)|exact HB.out)⟩
         ·rw [if_neg c28] at H
          exact absurd H (by simp)
        ·rw [if_neg c27] at H
         exact absurd H (by simp)
       ·rw [if_neg c25] at H
        have c25b0:(t468 == 0)=false:=beq_eq_false_iff_ne.mpr c25
        have c25b1:(t468 != 0)=true:=bne_iff_ne.mpr c25
        simp only [Option.some.injEq,Prod.mk.injEq] at H
        obtain ⟨rfl,rfl⟩:=H
        try go_wp2
        have n0_:=Aside0.mk (blk_drew BK458.out)
        have n1_:=Aside0.mk (below_drew1 HB.out)
        clear BK458 HB
        have BK458:=n0_
        have HB:=n1_
        clear n0_ n1_
        refine start_ (n:=23) (S:=fun w'=>True) (ds:=[]) #[false,false,false,false,false,false,false,false,false,false,false,false,false,false,false,false,false,false,false,false,false,false,false] (by kernel_rfl) rfl rfl trivial (fun hHeld=>?_);refine with_tabW layout_EncodeSuper.tab9 layout_EncodeSuper.bits9 (fun HT_ HW_=>?_)
        generalize wc.drew=w42 at BK458 HB hHeld ⊢
        refine pure_ (i:=1) (N:=some 39) (v:=?_) (a':=?_) #[false,true,false,false,false,false,false,false,false,false,false,false,false,false,false,false,false,false,false,false,false,false,false] rfl rfl (any_of HT_.out (by kernel_rfl)) (fun _ _ _ h=>h) (Or.inl ⟨by rfl,?_⟩) ?_ ?_
        rotate_left
        ·intro w'
         go_simp
         with_reducible rfl
        rotate_left
        ·simp only [Act.put,List.setIfInBounds_toArray,List.set_cons_zero,List.set_cons_succ,i64_w,i32_w]
         rfl
        refine pure_ (i:=2) (N:=some 40) (v:=?_) (a':=?_) #[false,true,true,false,false,false,false,false,false,false,false,false,false,false,false,false,false,false,false,false,false,false,false] rfl rfl (any_of HT_.out (by kernel_rfl)) (fun _ _ _ h=>h) (Or.inl ⟨by rfl,?_⟩) ?_ ?_
        rotate_left
        ·intro w'
         go_simp
         with_reducible rfl
        rotate_left
        ·simp only [Act.put,List.setIfInBounds_toArray,List.set_cons_zero,List.set_cons_succ,i64_w,i32_w]
         rfl
        refine pure_ (i:=5) (N:=some 43) (v:=?_) (a':=?_) #[false,true,true,false,false,true,false,false,false,false,false,false,false,false,false,false,false,false,false,false,false,false,false] rfl rfl (any_of HT_.out (by kernel_rfl)) (fun _ _ _ h=>h) (Or.inl ⟨by rfl,?_⟩) ?_ ?_
        rotate_left
        ·intro w'
         go_simp
         with_reducible rfl
        rotate_left
        ·simp only [Act.put,List.setIfInBounds_toArray,List.set_cons_zero,List.set_cons_succ,i64_w,i32_w]
         rfl
        refine pure_ (i:=6) (N:=some 44) (v:=?_) (a':=?_) #[false,true,true,false,false,true,true,false,false,false,false,false,false,false,false,false,false,false,false,false,false,false,false] rfl rfl (any_of HT_.out (by kernel_rfl)) (fun _ _ _ h=>h) (Or.inl ⟨by rfl,?_⟩) ?_ ?_
        rotate_left
        ·intro w'
         go_simp
         with_reducible rfl
        rotate_left
        ·simp only [Act.put,List.setIfInBounds_toArray,List.set_cons_zero,List.set_cons_succ,i64_w,i32_w]
         rfl
        refine pure_ (i:=9) (N:=some 47) (v:=?_) (a':=?_) #[false,true,true,false,false,true,true,false,false,true,false,false,false,false,false,false,false,false,false,false,false,false,false] rfl rfl (any_of HT_.out (by kernel_rfl)) (fun _ _ _ h=>h) (Or.inl ⟨by rfl,?_⟩) ?_ ?_
        rotate_left
        ·intro w'
         go_simp
         with_reducible rfl
        rotate_left
        ·simp only [Act.put,List.setIfInBounds_toArray,List.set_cons_zero,List.set_cons_succ,i64_w,i32_w]
         rfl
        refine pure_ (i:=10) (N:=some 48) (v:=?_) (a':=?_) #[false,true,true,false,false,true,true,false,false,true,true,false,false,false,false,false,false,false,false,false,false,false,false] rfl rfl (any_of HT_.out (by kernel_rfl)) (fun _ _ _ h=>h) (Or.inl ⟨by rfl,?_⟩) ?_ ?_
        rotate_left
        ·intro w'
         go_simp
         with_reducible rfl
        rotate_left
        ·simp only [Act.put,List.setIfInBounds_toArray,List.set_cons_zero,List.set_cons_succ,i64_w,i32_w]
         rfl
        refine pure_ (i:=13) (N:=some 51) (v:=?_) (a':=?_) #[false,true,true,false,false,true,true,false,false,true,true,false,false,true,false,false,false,false,false,false,false,false,false] rfl rfl (any_of HT_.out (by kernel_rfl)) (fun _ _ _ h=>h) (Or.inl ⟨by rfl,?_⟩) ?_ ?_
        rotate_left
        ·intro w'
         go_simp
         with_reducible rfl
        rotate_left
        ·simp only [Act.put,List.setIfInBounds_toArray,List.set_cons_zero,List.set_cons_succ,i64_w,i32_w]
         rfl
        refine inv_at [0,3,4,7,8,11,12,14,15,16,17,18,19,20,21,22] (fun a0_ b a w'=>∃ (v462:Value) (v465:Value) (v469:Value) (m17_:Value) (m18_:Value) (m19_:Value) (m21_:Value),a=putSel a0_ b [(0,38,v462),(3,41,.int .i64 a0_0),(4,42,.int .u64 (IntKind.u64.wrap (a0_0))),(7,45,.int .i64 a0_1),(8,46,.int .u64 (IntKind.u64.wrap (a0_1))),(11,49,.int .i64 a0_2),(12,50,.int .u64 (IntKind.u64.wrap (a0_2))),(14,52,.int .i64 a0_4),(15,53,.int .u64 (IntKind.u64.wrap (a0_4))),(16,54,v465),(17,55,m17_),(18,37,m18_),(19,56,m19_),(20,57,.int .i64 t468),(21,6,m21_),(22,7,.int .i64 t468)]∧(w'.heap[gb458]?=some (.cells #[.int .i64 a0_0,.int .i64 a0_1,.int .i64 a0_2,.bool a0_3,.int .i64 a0_4] 63 (0,0)))∧(Below w.heap.size w w')∧(b 0=true → Kd.R (Kd.int .i64) 3 w' w.heap.size (fun _=>True) v462 t461)∧(b 16=true → Kd.R (Kd.int .u64) 76 w' w.heap.size (fun _=>True) v465 y464)∧(b 17=true → Kd.R (Kd.int .u8) 5 w' w.heap.size (fun _=>True) v469 t467)∧(b 17=true → (m17_:Value)=.tuple #[v469,.int .i64 t468])∧(b 18=true → (m18_:Value)=.tuple #[v469,.int .i64 t468])∧(b 19=true → (m19_:Value)=v469)∧(b 21=true → (m21_:Value)=v469)) HT_.out HW_.out (by kernel_rfl) (by kernel_rfl) ?_ ?_ ?_
        ·exact ⟨.bool false,.bool false,.bool false,.bool false,.bool false,.bool false,.bool false,by simp only [putSel,Bool.false_eq_true,if_false],BK458.out,HB.out,fun h_=>absurd h_ (by decide),fun h_=>absurd h_ (by decide),fun h_=>absurd h_ (by decide),fun h_=>absurd h_ (by decide),fun h_=>absurd h_ (by decide),fun h_=>absurd h_ (by decide),fun h_=>absurd h_ (by decide)⟩
        ·skip
         clear BK458 HB
         refine steps_cons ?_ ?_
         ·rintro b a w' ⟨v462,v465,v469,m17_,m18_,m19_,m21_,ha,Q_BK458,Q_HB,Q_HO463,Q_HO466,Q_HO470,Q_X17_,Q_X18_,Q_X19_,Q_X21_⟩ hb_ hon hoff
          refine ⟨_,rfl,fun K hK=>?_⟩
          replace ha:=Aside0.mk ha
          have BK458:=Aside0.mk Q_BK458
          have HB:=Aside0.mk Q_HB
          refine goes_ Try.func54 (by kernel_rfl) rfl #[] (by rfl) rfl rfl (by first|(simp only [List.map_toArray,List.map_cons,List.map_nil,Act.eval,Array.getD_eq_getD_getElem?,Option.getD_some];done)|(simp only [List.map_toArray,List.map_cons,List.map_nil,Act.eval,Array.getD_eq_getD_getElem?,Option.getD_some];rfl)) ?_
          with_reducible refine (layout_superWidths.calls  t461 _ A23.out).mono ?_
          rintro e w43 ⟨v462,rfl,ho0,hb⟩
          refine ⟨_,rfl,?_⟩
          have n0_:=Aside0.mk (Kd.R_lower ho0 (below_size (by repeat (first|(with_reducible first|exact HB.out|apply below_alloc|apply pw_below_drewN|apply below_drew1|refine below_set ?_ GE458.out)|exact HB.out))))
          have n1_:=Aside0.mk (blk_below (g:=gb458) (o:=.cells #[.int .i64 a0_0,.int .i64 a0_1,.int .i64 a0_2,.bool a0_3,.int .i64 a0_4] 63 (0,0)) (by (with_reducible repeat (first|refine blk_drewN ?_ _|refine blk_drew ?_|refine blk_alloc ?_ _));exact BK458.out) hb)
          have n2_:=Aside0.mk (below_step (by repeat (first|(with_reducible first|exact HB.out|apply below_alloc|apply pw_below_drewN|apply below_drew1|refine below_set ?_ GE458.out)|exact HB.out)) hb)
          have z_HO466:=fun (h0_:b 16=true)=>(show Kd.R (Kd.int .u64) 76 w43 w.heap.size (fun _=>True) v465 y464 from by first|exact (Kd.R_below (by (with_reducible repeat (first|apply Kd.R_alloc|apply Kd.R_drewN|apply Kd.R_drew));exact (Q_HO466 h0_)) hb)|exact Kd.R_mono (Kd.R_below (by (with_reducible repeat (first|apply Kd.R_alloc|apply Kd.R_drewN|apply Kd.R_drew));exact (Q_HO466 h0_)) hb) (fun _ h_=>by first|trivial|exact h_|exact h_.1))
          clear BK458 HB
          have HO463:=n0_
          have BK458:=n1_
          have HB:=n2_
          clear n0_ n1_ n2_
          (try clear hb)
          (try clear hb2)
          (try clear hk)
          (try clear hi)
          (try clear ho0)
          refine hK.out _ _ ⟨v462,v465,v469,m17_,m18_,m19_,m21_,(by rw [ha.out];exact putSel_upk 0 hb_ rfl rfl rfl),(by (with_reducible repeat (first|refine blk_drewN ?_ _|refine blk_drew ?_|refine blk_alloc ?_ _));exact BK458.out),(by repeat (first|(with_reducible first|exact HB.out|apply below_alloc|apply pw_below_drewN|apply below_drew1|refine below_set ?_ GE458.out)|exact HB.out)),fun _=>(by (with_reducible repeat (first|apply Kd.R_alloc|apply Kd.R_drewN|apply Kd.R_drew));exact HO463.out),z_HO466,fun h0_=>absurd ((hoff 17 (by kernel_rfl)).symm.trans h0_) (by decide),fun h0_=>absurd ((hoff 17 (by kernel_rfl)).symm.trans h0_) (by decide),fun h0_=>absurd ((hoff 18 (by kernel_rfl)).symm.trans h0_) (by decide),fun h0_=>absurd ((hoff 19 (by kernel_rfl)).symm.trans h0_) (by decide),fun h0_=>absurd ((hoff 21 (by kernel_rfl)).symm.trans h0_) (by decide)⟩
         refine steps_cons ?_ ?_
         ·rintro b a w' ⟨v462,v465,v469,m17_,m18_,m19_,m21_,ha,Q_BK458,Q_HB,Q_HO463,Q_HO466,Q_HO470,Q_X17_,Q_X18_,Q_X19_,Q_X21_⟩ hb_ hon hoff
          refine ⟨_,rfl,fun K hK=>?_⟩
          have e40:a.tmps[40]?=some (.pointer (some ⟨gb458,0,none⟩)):=by rw [ha];exact (putSel_off rfl).trans rfl
          replace ha:=Aside0.mk ha
          have BK458:=Aside0.mk Q_BK458
          have HB:=Aside0.mk Q_HB
          have hc0_:w'.cell? ⟨gb458,0,none⟩=some (.int .i64 a0_0):=(blk_cell BK458.out 0).trans rfl
          have hc1_:w'.cell? ⟨gb458,1,none⟩=some (.int .i64 a0_1):=(blk_cell BK458.out 1).trans rfl
          have hc2_:w'.cell? ⟨gb458,2,none⟩=some (.int .i64 a0_2):=(blk_cell BK458.out 2).trans rfl
          have hc3_:w'.cell? ⟨gb458,3,none⟩=some (.bool a0_3):=(blk_cell BK458.out 3).trans rfl
          have hc4_:w'.cell? ⟨gb458,4,none⟩=some (.int .i64 a0_4):=(blk_cell BK458.out 4).trans rfl
          refine value_ (w1:=w') (v:=.int .i64 a0_0) (by rfl) rfl ?_ ?_
          ·go_simp
           (try simp only [i64_w])
           try rfl
          refine hK.out _ _ ⟨v462,v465,v469,m17_,m18_,m19_,m21_,(by rw [ha.out];exact putSel_upk 1 hb_ rfl rfl rfl),Q_BK458,Q_HB,Q_HO463,fun h0_=>absurd ((hoff 16 (by kernel_rfl)).symm.trans h0_) (by decide),fun h0_=>absurd ((hoff 17 (by kernel_rfl)).symm.trans h0_) (by decide),fun h0_=>absurd ((hoff 17 (by kernel_rfl)).symm.trans h0_) (by decide),fun h0_=>absurd ((hoff 18 (by kernel_rfl)).symm.trans h0_) (by decide),fun h0_=>absurd ((hoff 19 (by kernel_rfl)).symm.trans h0_) (by decide),fun h0_=>absurd ((hoff 21 (by kernel_rfl)).symm.trans h0_) (by decide)⟩
         refine steps_cons ?_ ?_
         ·rintro b a w' ⟨v462,v465,v469,m17_,m18_,m19_,m21_,ha,Q_BK458,Q_HB,Q_HO463,Q_HO466,Q_HO470,Q_X17_,Q_X18_,Q_X19_,Q_X21_⟩ hb_ hon hoff
          refine ⟨_,rfl,fun K hK=>?_⟩
          have e41:a.tmps[41]?=some (.int .i64 a0_0):=by rw [ha];exact putSel_on (e:=(3,41,.int .i64 a0_0)) 1 rfl rfl (hon 3 (by kernel_rfl)) rfl
          replace ha:=Aside0.mk ha
          have BK458:=Aside0.mk Q_BK458
          have HB:=Aside0.mk Q_HB
          refine value_ (w1:=w') (v:=.int .u64 (IntKind.u64.wrap (a0_0))) (by rfl) rfl ?_ ?_
          ·go_simp
           (try simp only [i64_w])
           try rfl
          refine hK.out _ _ ⟨v462,v465,v469,m17_,m18_,m19_,m21_,(by rw [ha.out];exact putSel_upk 2 hb_ rfl rfl rfl),Q_BK458,Q_HB,Q_HO463,fun h0_=>absurd ((hoff 16 (by kernel_rfl)).symm.trans h0_) (by decide),fun h0_=>absurd ((hoff 17 (by kernel_rfl)).symm.trans h0_) (by decide),fun h0_=>absurd ((hoff 17 (by kernel_rfl)).symm.trans h0_) (by decide),fun h0_=>absurd ((hoff 18 (by kernel_rfl)).symm.trans h0_) (by decide),fun h0_=>absurd ((hoff 19 (by kernel_rfl)).symm.trans h0_) (by decide),fun h0_=>absurd ((hoff 21 (by kernel_rfl)).symm.trans h0_) (by decide)⟩
         refine steps_cons ?_ ?_
         ·rintro b a w' ⟨v462,v465,v469,m17_,m18_,m19_,m21_,ha,Q_BK458,Q_HB,Q_HO463,Q_HO466,Q_HO470,Q_X17_,Q_X18_,Q_X19_,Q_X21_⟩ hb_ hon hoff
          refine ⟨_,rfl,fun K hK=>?_⟩
          have e44:a.tmps[44]?=some (.pointer (some ⟨gb458,1,none⟩)):=by rw [ha];exact (putSel_off rfl).trans rfl
          replace ha:=Aside0.mk ha
          have BK458:=Aside0.mk Q_BK458
          have HB:=Aside0.mk Q_HB
          have hc0_:w'.cell? ⟨gb458,0,none⟩=some (.int .i64 a0_0):=(blk_cell BK458.out 0).trans rfl
          have hc1_:w'.cell? ⟨gb458,1,none⟩=some (.int .i64 a0_1):=(blk_cell BK458.out 1).trans rfl
          have hc2_:w'.cell? ⟨gb458,2,none⟩=some (.int .i64 a0_2):=(blk_cell BK458.out 2).trans rfl
          have hc3_:w'.cell? ⟨gb458,3,none⟩=some (.bool a0_3):=(blk_cell BK458.out 3).trans rfl
          have hc4_:w'.cell? ⟨gb458,4,none⟩=some (.int .i64 a0_4):=(blk_cell BK458.out 4).trans rfl
          refine value_ (w1:=w') (v:=.int .i64 a0_1) (by rfl) rfl ?_ ?_
          ·go_simp
           (try simp only [i64_w])
           try rfl
          refine hK.out _ _ ⟨v462,v465,v469,m17_,m18_,m19_,m21_,(by rw [ha.out];exact putSel_upk 3 hb_ rfl rfl rfl),Q_BK458,Q_HB,Q_HO463,fun h0_=>absurd ((hoff 16 (by kernel_rfl)).symm.trans h0_) (by decide),fun h0_=>absurd ((hoff 17 (by kernel_rfl)).symm.trans h0_) (by decide),fun h0_=>absurd ((hoff 17 (by kernel_rfl)).symm.trans h0_) (by decide),fun h0_=>absurd ((hoff 18 (by kernel_rfl)).symm.trans h0_) (by decide),fun h0_=>absurd ((hoff 19 (by kernel_rfl)).symm.trans h0_) (by decide),fun h0_=>absurd ((hoff 21 (by kernel_rfl)).symm.trans h0_) (by decide)⟩
         refine steps_cons ?_ ?_
         ·rintro b a w' ⟨v462,v465,v469,m17_,m18_,m19_,m21_,ha,Q_BK458,Q_HB,Q_HO463,Q_HO466,Q_HO470,Q_X17_,Q_X18_,Q_X19_,Q_X21_⟩ hb_ hon hoff
          refine ⟨_,rfl,fun K hK=>?_⟩
          have e45:a.tmps[45]?=some (.int .i64 a0_1):=by rw [ha];exact putSel_on (e:=(7,45,.int .i64 a0_1)) 3 rfl rfl (hon 7 (by kernel_rfl)) rfl
          replace ha:=Aside0.mk ha
          have BK458:=Aside0.mk Q_BK458
          have HB:=Aside0.mk Q_HB
          refine value_ (w1:=w') (v:=.int .u64 (IntKind.u64.wrap (a0_1))) (by rfl) rfl ?_ ?_
          ·go_simp
           (try simp only [i64_w])
           try rfl
          refine hK.out _ _ ⟨v462,v465,v469,m17_,m18_,m19_,m21_,(by rw [ha.out];exact putSel_upk 4 hb_ rfl rfl rfl),Q_BK458,Q_HB,Q_HO463,fun h0_=>absurd ((hoff 16 (by kernel_rfl)).symm.trans h0_) (by decide),fun h0_=>absurd ((hoff 17 (by kernel_rfl)).symm.trans h0_) (by decide),fun h0_=>absurd ((hoff 17 (by kernel_rfl)).symm.trans h0_) (by decide),fun h0_=>absurd ((hoff 18 (by kernel_rfl)).symm.trans h0_) (by decide),fun h0_=>absurd ((hoff 19 (by kernel_rfl)).symm.trans h0_) (by decide),fun h0_=>absurd ((hoff 21 (by kernel_rfl)).symm.trans h0_) (by decide)⟩
         refine steps_cons ?_ ?_
         ·rintro b a w' ⟨v462,v465,v469,m17_,m18_,m19_,m21_,ha,Q_BK458,Q_HB,Q_HO463,Q_HO466,Q_HO470,Q_X17_,Q_X18_,Q_X19_,Q_X21_⟩ hb_ hon hoff
          refine ⟨_,rfl,fun K hK=>?_⟩
          have e48:a.tmps[48]?=some (.pointer (some ⟨gb458,2,none⟩)):=by rw [ha];exact (putSel_off rfl).trans rfl
          replace ha:=Aside0.mk ha
          have BK458:=Aside0.mk Q_BK458
          have HB:=Aside0.mk Q_HB
          have hc0_:w'.cell? ⟨gb458,0,none⟩=some (.int .i64 a0_0):=(blk_cell BK458.out 0).trans rfl
          have hc1_:w'.cell? ⟨gb458,1,none⟩=some (.int .i64 a0_1):=(blk_cell BK458.out 1).trans rfl
          have hc2_:w'.cell? ⟨gb458,2,none⟩=some (.int .i64 a0_2):=(blk_cell BK458.out 2).trans rfl
          have hc3_:w'.cell? ⟨gb458,3,none⟩=some (.bool a0_3):=(blk_cell BK458.out 3).trans rfl
          have hc4_:w'.cell? ⟨gb458,4,none⟩=some (.int .i64 a0_4):=(blk_cell BK458.out 4).trans rfl
          refine value_ (w1:=w') (v:=.int .i64 a0_2) (by rfl) rfl ?_ ?_
          ·go_simp
           (try simp only [i64_w])
           try rfl
          refine hK.out _ _ ⟨v462,v465,v469,m17_,m18_,m19_,m21_,(by rw [ha.out];exact putSel_upk 5 hb_ rfl rfl rfl),Q_BK458,Q_HB,Q_HO463,fun h0_=>absurd ((hoff 16 (by kernel_rfl)).symm.trans h0_) (by decide),fun h0_=>absurd ((hoff 17 (by kernel_rfl)).symm.trans h0_) (by decide),fun h0_=>absurd ((hoff 17 (by kernel_rfl)).symm.trans h0_) (by decide),fun h0_=>absurd ((hoff 18 (by kernel_rfl)).symm.trans h0_) (by decide),fun h0_=>absurd ((hoff 19 (by kernel_rfl)).symm.trans h0_) (by decide),fun h0_=>absurd ((hoff 21 (by kernel_rfl)).symm.trans h0_) (by decide)⟩
         refine steps_cons ?_ ?_
         ·rintro b a w' ⟨v462,v465,v469,m17_,m18_,m19_,m21_,ha,Q_BK458,Q_HB,Q_HO463,Q_HO466,Q_HO470,Q_X17_,Q_X18_,Q_X19_,Q_X21_⟩ hb_ hon hoff
          refine ⟨_,rfl,fun K hK=>?_⟩
          have e49:a.tmps[49]?=some (.int .i64 a0_2):=by rw [ha];exact putSel_on (e:=(11,49,.int .i64 a0_2)) 5 rfl rfl (hon 11 (by kernel_rfl)) rfl
          replace ha:=Aside0.mk ha
          have BK458:=Aside0.mk Q_BK458
          have HB:=Aside0.mk Q_HB
          refine value_ (w1:=w') (v:=.int .u64 (IntKind.u64.wrap (a0_2))) (by rfl) rfl ?_ ?_
          ·go_simp
           (try simp only [i64_w])
           try rfl
          refine hK.out _ _ ⟨v462,v465,v469,m17_,m18_,m19_,m21_,(by rw [ha.out];exact putSel_upk 6 hb_ rfl rfl rfl),Q_BK458,Q_HB,Q_HO463,fun h0_=>absurd ((hoff 16 (by kernel_rfl)).symm.trans h0_) (by decide),fun h0_=>absurd ((hoff 17 (by kernel_rfl)).symm.trans h0_) (by decide),fun h0_=>absurd ((hoff 17 (by kernel_rfl)).symm.trans h0_) (by decide),fun h0_=>absurd ((hoff 18 (by kernel_rfl)).symm.trans h0_) (by decide),fun h0_=>absurd ((hoff 19 (by kernel_rfl)).symm.trans h0_) (by decide),fun h0_=>absurd ((hoff 21 (by kernel_rfl)).symm.trans h0_) (by decide)⟩
         refine steps_cons ?_ ?_
         ·rintro b a w' ⟨v462,v465,v469,m17_,m18_,m19_,m21_,ha,Q_BK458,Q_HB,Q_HO463,Q_HO466,Q_HO470,Q_X17_,Q_X18_,Q_X19_,Q_X21_⟩ hb_ hon hoff
          refine ⟨_,rfl,fun K hK=>?_⟩
          have e51:a.tmps[51]?=some (.pointer (some ⟨gb458,4,none⟩)):=by rw [ha];exact (putSel_off rfl).trans rfl
          replace ha:=Aside0.mk ha
          have BK458:=Aside0.mk Q_BK458
          have HB:=Aside0.mk Q_HB
          have hc0_:w'.cell? ⟨gb458,0,none⟩=some (.int .i64 a0_0):=(blk_cell BK458.out 0).trans rfl
          have hc1_:w'.cell? ⟨gb458,1,none⟩=some (.int .i64 a0_1):=(blk_cell BK458.out 1).trans rfl
          have hc2_:w'.cell? ⟨gb458,2,none⟩=some (.int .i64 a0_2):=(blk_cell BK458.out 2).trans rfl
          have hc3_:w'.cell? ⟨gb458,3,none⟩=some (.bool a0_3):=(blk_cell BK458.out 3).trans rfl
          have hc4_:w'.cell? ⟨gb458,4,none⟩=some (.int .i64 a0_4):=(blk_cell BK458.out 4).trans rfl
          refine value_ (w1:=w') (v:=.int .i64 a0_4) (by rfl) rfl ?_ ?_
          ·go_simp
           (try simp only [i64_w])
           try rfl
          refine hK.out _ _ ⟨v462,v465,v469,m17_,m18_,m19_,m21_,(by rw [ha.out];exact putSel_upk 7 hb_ rfl rfl rfl),Q_BK458,Q_HB,Q_HO463,fun h0_=>absurd ((hoff 16 (by kernel_rfl)).symm.trans h0_) (by decide),fun h0_=>absurd ((hoff 17 (by kernel_rfl)).symm.trans h0_) (by decide),fun h0_=>absurd ((hoff 17 (by kernel_rfl)).symm.trans h0_) (by decide),fun h0_=>absurd ((hoff 18 (by kernel_rfl)).symm.trans h0_) (by decide),fun h0_=>absurd ((hoff 19 (by kernel_rfl)).symm.trans h0_) (by decide),fun h0_=>absurd ((hoff 21 (by kernel_rfl)).symm.trans h0_) (by decide)⟩
         refine steps_cons ?_ ?_
         ·rintro b a w' ⟨v462,v465,v469,m17_,m18_,m19_,m21_,ha,Q_BK458,Q_HB,Q_HO463,Q_HO466,Q_HO470,Q_X17_,Q_X18_,Q_X19_,Q_X21_⟩ hb_ hon hoff
          refine ⟨_,rfl,fun K hK=>?_⟩
          have e52:a.tmps[52]?=some (.int .i64 a0_4):=by rw [ha];exact putSel_on (e:=(14,52,.int .i64 a0_4)) 7 rfl rfl (hon 14 (by kernel_rfl)) rfl
          replace ha:=Aside0.mk ha
          have BK458:=Aside0.mk Q_BK458
          have HB:=Aside0.mk Q_HB
          refine value_ (w1:=w') (v:=.int .u64 (IntKind.u64.wrap (a0_4))) (by rfl) rfl ?_ ?_
          ·go_simp
           (try simp only [i64_w])
           try rfl
          refine hK.out _ _ ⟨v462,v465,v469,m17_,m18_,m19_,m21_,(by rw [ha.out];exact putSel_upk 8 hb_ rfl rfl rfl),Q_BK458,Q_HB,Q_HO463,fun h0_=>absurd ((hoff 16 (by kernel_rfl)).symm.trans h0_) (by decide),fun h0_=>absurd ((hoff 17 (by kernel_rfl)).symm.trans h0_) (by decide),fun h0_=>absurd ((hoff 17 (by kernel_rfl)).symm.trans h0_) (by decide),fun h0_=>absurd ((hoff 18 (by kernel_rfl)).symm.trans h0_) (by decide),fun h0_=>absurd ((hoff 19 (by kernel_rfl)).symm.trans h0_) (by decide),fun h0_=>absurd ((hoff 21 (by kernel_rfl)).symm.trans h0_) (by decide)⟩
         refine steps_cons ?_ ?_
         ·rintro b a w' ⟨v462,v465,v469,m17_,m18_,m19_,m21_,ha,Q_BK458,Q_HB,Q_HO463,Q_HO466,Q_HO470,Q_X17_,Q_X18_,Q_X19_,Q_X21_⟩ hb_ hon hoff
          refine ⟨_,rfl,fun K hK=>?_⟩
          have e42:a.tmps[42]?=some (.int .u64 (IntKind.u64.wrap (a0_0))):=by rw [ha];exact putSel_on (e:=(4,42,.int .u64 (IntKind.u64.wrap (a0_0)))) 2 rfl rfl (hon 4 (by kernel_rfl)) rfl
          have e46:a.tmps[46]?=some (.int .u64 (IntKind.u64.wrap (a0_1))):=by rw [ha];exact putSel_on (e:=(8,46,.int .u64 (IntKind.u64.wrap (a0_1)))) 4 rfl rfl (hon 8 (by kernel_rfl)) rfl
          have e47:a.tmps[47]?=some (.int .u64 x5_19):=by rw [ha];exact (putSel_off rfl).trans rfl
          have e50:a.tmps[50]?=some (.int .u64 (IntKind.u64.wrap (a0_2))):=by rw [ha];exact putSel_on (e:=(12,50,.int .u64 (IntKind.u64.wrap (a0_2)))) 6 rfl rfl (hon 12 (by kernel_rfl)) rfl
          have e53:a.tmps[53]?=some (.int .u64 (IntKind.u64.wrap (a0_4))):=by rw [ha];exact putSel_on (e:=(15,53,.int .u64 (IntKind.u64.wrap (a0_4)))) 8 rfl rfl (hon 15 (by kernel_rfl)) rfl
          replace ha:=Aside0.mk ha
          have BK458:=Aside0.mk Q_BK458
          have HB:=Aside0.mk Q_HB
          refine Kd.R_lit_step (Kd.int .u64) _ 76 ?hg (N:=54) ?hd (xs:=([1397508432,IntKind.u64.wrap (a0_0),IntKind.u64.wrap (a0_1),x5_19,IntKind.u64.wrap (a0_2),IntKind.u64.wrap (a0_4)]:List Int)) (inner:=[.int .u64 1397508432,.int .u64 (IntKind.u64.wrap (a0_0)),.int .u64 (IntKind.u64.wrap (a0_1)),.int .u64 x5_19,.int .u64 (IntKind.u64.wrap (a0_2)),.int .u64 (IntKind.u64.wrap (a0_4))]) (ok:=fun _=>True) (okp:=fun _=>True) ?hr ?hp (fun _ hk=>hk) trivial (Below.refl _ _) (Nat.le_refl _) (by simp) ?_;(case hd=>rfl);(case hg=>rfl);(case hr=>first|(go_simp;done)|(go_simp;rfl));(case hp=>exact (Reps.one (show Kd.M (Kd.int .u64) _ _ _ 1397508432 [.int .u64 1397508432] from rfl) (Reps.one (show Kd.M (Kd.int .u64) _ _ _ (IntKind.u64.wrap (a0_0)) [.int .u64 (IntKind.u64.wrap (a0_0))] from rfl) (Reps.one (show Kd.M (Kd.int .u64) _ _ _ (IntKind.u64.wrap (a0_1)) [.int .u64 (IntKind.u64.wrap (a0_1))] from rfl) (Reps.one (show Kd.M (Kd.int .u64) _ _ _ x5_19 [.int .u64 x5_19] from rfl) (Reps.one (show Kd.M (Kd.int .u64) _ _ _ (IntKind.u64.wrap (a0_2)) [.int .u64 (IntKind.u64.wrap (a0_2))] from rfl) (Reps.one (show Kd.M (Kd.int .u64) _ _ _ (IntKind.u64.wrap (a0_4)) [.int .u64 (IntKind.u64.wrap (a0_4))] from rfl) (Reps.none _ _))))))))
          intro v465 w43 ho44 hb hg_ hnew_
          clear hg_ hnew_
          (first|rw [← Ny464.out] at ho44|(simp only [Int.reduceToNat] at ho44;rw [← Ny464.out] at ho44))
          have n0_:=Aside0.mk (Kd.R_lower ho44 (below_size (by repeat (first|(with_reducible first|exact HB.out|apply below_alloc|apply pw_below_drewN|apply below_drew1|refine below_set ?_ GE458.out)|exact HB.out))))
          have n1_:=Aside0.mk (blk_below (g:=gb458) (o:=.cells #[.int .i64 a0_0,.int .i64 a0_1,.int .i64 a0_2,.bool a0_3,.int .i64 a0_4] 63 (0,0)) (by (with_reducible repeat (first|refine blk_drewN ?_ _|refine blk_drew ?_|refine blk_alloc ?_ _));exact BK458.out) hb)
          have n2_:=Aside0.mk (below_step (by repeat (first|(with_reducible first|exact HB.out|apply below_alloc|apply pw_below_drewN|apply below_drew1|refine below_set ?_ GE458.out)|exact HB.out)) hb)
          have z_HO463:=fun (h0_:b 0=true)=>(show Kd.R (Kd.int .i64) 3 w43 w.heap.size (fun _=>True) v462 t461 from by first|exact (Kd.R_below (by (with_reducible repeat (first|apply Kd.R_alloc|apply Kd.R_drewN|apply Kd.R_drew));exact (Q_HO463 h0_)) hb)|exact Kd.R_mono (Kd.R_below (by (with_reducible repeat (first|apply Kd.R_alloc|apply Kd.R_drewN|apply Kd.R_drew));exact (Q_HO463 h0_)) hb) (fun _ h_=>by first|trivial|exact h_|exact h_.1))
          clear BK458 HB
          have HO466:=n0_
          have BK458:=n1_
          have HB:=n2_
          clear n0_ n1_ n2_ hb ho44
          refine hK.out _ _ ⟨v462,v465,v469,m17_,m18_,m19_,m21_,(by rw [ha.out];exact putSel_upk 9 hb_ rfl rfl rfl),(by (with_reducible repeat (first|refine blk_drewN ?_ _|refine blk_drew ?_|refine blk_alloc ?_ _));exact BK458.out),(by repeat (first|(with_reducible first|exact HB.out|apply below_alloc|apply pw_below_drewN|apply below_drew1|refine below_set ?_ GE458.out)|exact HB.out)),z_HO463,fun _=>(by (with_reducible repeat (first|apply Kd.R_alloc|apply Kd.R_drewN|apply Kd.R_drew));exact HO466.out),fun h0_=>absurd ((hoff 17 (by kernel_rfl)).symm.trans h0_) (by decide),fun h0_=>absurd ((hoff 17 (by kernel_rfl)).symm.trans h0_) (by decide),fun h0_=>absurd ((hoff 18 (by kernel_rfl)).symm.trans h0_) (by decide),fun h0_=>absurd ((hoff 19 (by kernel_rfl)).symm.trans h0_) (by decide),fun h0_=>absurd ((hoff 21 (by kernel_rfl)).symm.trans h0_) (by decide)⟩
         refine steps_cons ?_ ?_
         ·rintro b a w' ⟨v462,v465,v469,m17_,m18_,m19_,m21_,ha,Q_BK458,Q_HB,Q_HO463,Q_HO466,Q_HO470,Q_X17_,Q_X18_,Q_X19_,Q_X21_⟩ hb_ hon hoff
          refine ⟨_,rfl,fun K hK=>?_⟩
          have e38:a.tmps[38]?=some (v462):=by rw [ha];exact putSel_on (e:=(0,38,v462)) 0 rfl rfl (hon 0 (by kernel_rfl)) rfl
          have e54:a.tmps[54]?=some (v465):=by rw [ha];exact putSel_on (e:=(16,54,v465)) 9 rfl rfl (hon 16 (by kernel_rfl)) rfl
          replace ha:=Aside0.mk ha
          have BK458:=Aside0.mk Q_BK458
          have HB:=Aside0.mk Q_HB
          have HO463:=Aside0.mk (Q_HO463 (hon 0 (by kernel_rfl)))
          have HO466:=Aside0.mk (Q_HO466 (hon 16 (by kernel_rfl)))
          obtain ⟨Ao47,co47,eo47⟩:=Kd.R_slice HO463.out
          (first|subst eo47|(injection eo47 with f1_ f2_ f3_;have f4_:=f1_.symm;have f5_:=f3_.symm;clear f1_ f2_ f3_;subst f4_;subst f5_))
          obtain ⟨Ao48,co48,eo48⟩:=Kd.R_slice HO466.out
          (first|subst eo48|(injection eo48 with f1_ f2_ f3_;have f4_:=f1_.symm;have f5_:=f3_.symm;clear f1_ f2_ f3_;subst f4_;subst f5_))
          refine goes_ Try.func53 (by kernel_rfl) rfl #[.slice Ao47 t461.length co47,.slice Ao48 y464.length co48] (by rfl) rfl rfl (by first|(simp only [List.map_toArray,List.map_cons,List.map_nil,Act.eval,Array.getD_eq_getD_getElem?,Option.getD_some,e38,e54];done)|(simp only [List.map_toArray,List.map_cons,List.map_nil,Act.eval,Array.getD_eq_getD_getElem?,Option.getD_some,e38,e54];rfl)) ?_
          with_reducible refine (seal_Pack.calls kj19 _ _ t461 _ _ y464 t467 t468 _ ?side1 ?side2 ?side3 ?side4 A24.out).mono ?_
          (case side1=>repeat (first|exact (Kd.R_reads' HO463.out).2.2|(with_reducible refine Kd.C_alloc ?_ _)|(with_reducible refine Kd.C_drewN ?_ _)|(with_reducible refine Kd.C_drew ?_)))
          (case side2=>exact (Kd.R_reads' HO463.out).2.1)
          (case side3=>repeat (first|exact (Kd.R_reads' HO466.out).2.2|(with_reducible refine Kd.C_alloc ?_ _)|(with_reducible refine Kd.C_drewN ?_ _)|(with_reducible refine Kd.C_drew ?_)))
          (case side4=>exact (Kd.R_reads' HO466.out).2.1)
          rintro e w49 ⟨v469,rfl,ho0,hb⟩
          refine ⟨_,rfl,?_⟩
          have n0_:=Aside0.mk (Kd.R_below (by (with_reducible repeat (first|apply Kd.R_alloc|apply Kd.R_drewN|apply Kd.R_drew));exact HO463.out) hb)
          have n1_:=Aside0.mk (Kd.R_below (by (with_reducible repeat (first|apply Kd.R_alloc|apply Kd.R_drewN|apply Kd.R_drew));exact HO466.out) hb)
          have n2_:=Aside0.mk (Kd.R_lower ho0 (below_size (by repeat (first|(with_reducible first|exact HB.out|apply below_alloc|apply pw_below_drewN|apply below_drew1|refine below_set ?_ GE458.out)|exact HB.out))))
          have n3_:=Aside0.mk (blk_below (g:=gb458) (o:=.cells #[.int .i64 a0_0,.int .i64 a0_1,.int .i64 a0_2,.bool a0_3,.int .i64 a0_4] 63 (0,0)) (by (with_reducible repeat (first|refine blk_drewN ?_ _|refine blk_drew ?_|refine blk_alloc ?_ _));exact BK458.out) hb)
          have n4_:=Aside0.mk (below_step (by repeat (first|(with_reducible first|exact HB.out|apply below_alloc|apply pw_below_drewN|apply below_drew1|refine below_set ?_ GE458.out)|exact HB.out)) hb)
          clear HO463 HO466 BK458 HB
          have HO463:=n0_
          have HO466:=n1_
          have HO470:=n2_
          have BK458:=n3_
          have HB:=n4_
          clear n0_ n1_ n2_ n3_ n4_
          (try clear hb)
          (try clear hb2)
          (try clear hk)
          (try clear hi)
          (try clear ho0)
          refine hK.out _ _ ⟨.slice Ao47 t461.length co47,.slice Ao48 y464.length co48,v469,(.tuple #[v469,.int .i64 t468]),m18_,m19_,m21_,(by rw [ha.out];exact putSel_upk 10 hb_ rfl rfl rfl),(by (with_reducible repeat (first|refine blk_drewN ?_ _|refine blk_drew ?_|refine blk_alloc ?_ _));exact BK458.out),(by repeat (first|(with_reducible first|exact HB.out|apply below_alloc|apply pw_below_drewN|apply below_drew1|refine below_set ?_ GE458.out)|exact HB.out)),fun _=>(by (with_reducible repeat (first|apply Kd.R_alloc|apply Kd.R_drewN|apply Kd.R_drew));exact HO463.out),fun _=>(by (with_reducible repeat (first|apply Kd.R_alloc|apply Kd.R_drewN|apply Kd.R_drew));exact HO466.out),fun _=>(by (with_reducible repeat (first|apply Kd.R_alloc|apply Kd.R_drewN|apply Kd.R_drew));exact HO470.out),fun _=>rfl,fun h0_=>absurd ((hoff 18 (by kernel_rfl)).symm.trans h0_) (by decide),fun h0_=>absurd ((hoff 19 (by kernel_rfl)).symm.trans h0_) (by decide),fun h0_=>absurd ((hoff 21 (by kernel_rfl)).symm.trans h0_) (by decide)⟩
         refine steps_cons ?_ ?_
         ·rintro b a w' ⟨v462,v465,v469,m17_,m18_,m19_,m21_,ha,Q_BK458,Q_HB,Q_HO463,Q_HO466,Q_HO470,Q_X17_,Q_X18_,Q_X19_,Q_X21_⟩ hb_ hon hoff
          refine ⟨_,rfl,fun K hK=>?_⟩
          have e55:a.tmps[55]?=some (m17_):=by rw [ha];exact putSel_on (e:=(17,55,m17_)) 10 rfl rfl (hon 17 (by kernel_rfl)) rfl
          rw [Q_X17_ (hon 17 (by kernel_rfl))] at e55
          replace ha:=Aside0.mk ha
          have BK458:=Aside0.mk Q_BK458
          have HB:=Aside0.mk Q_HB
          have HO463:=Aside0.mk (Q_HO463 (hon 0 (by kernel_rfl)))
          have HO466:=Aside0.mk (Q_HO466 (hon 16 (by kernel_rfl)))
          have HO470:=Aside0.mk (Q_HO470 (hon 17 (by kernel_rfl)))
          refine value_ (w1:=w') (v:=.tuple #[v469,.int .i64 t468]) (by rfl) rfl ?_ ?_
          ·go_simp
           (try simp only [i64_w])
           try rfl
          refine hK.out _ _ ⟨v462,v465,v469,m17_,(.tuple #[v469,.int .i64 t468]),m19_,m21_,(by rw [ha.out];exact putSel_upk 11 hb_ rfl rfl rfl),Q_BK458,Q_HB,Q_HO463,Q_HO466,Q_HO470,Q_X17_,fun _=>rfl,fun h0_=>absurd ((hoff 19 (by kernel_rfl)).symm.trans h0_) (by decide),fun h0_=>absurd ((hoff 21 (by kernel_rfl)).symm.trans h0_) (by decide)⟩
         refine steps_cons ?_ ?_
         ·rintro b a w' ⟨v462,v465,v469,m17_,m18_,m19_,m21_,ha,Q_BK458,Q_HB,Q_HO463,Q_HO466,Q_HO470,Q_X17_,Q_X18_,Q_X19_,Q_X21_⟩ hb_ hon hoff
          refine ⟨_,rfl,fun K hK=>?_⟩
          have e37:a.tmps[37]?=some (m18_):=by rw [ha];exact putSel_on (e:=(18,37,m18_)) 11 rfl rfl (hon 18 (by kernel_rfl)) rfl
          rw [Q_X18_ (hon 18 (by kernel_rfl))] at e37
          replace ha:=Aside0.mk ha
          have BK458:=Aside0.mk Q_BK458
          have HB:=Aside0.mk Q_HB
          have HO463:=Aside0.mk (Q_HO463 (hon 0 (by kernel_rfl)))
          have HO466:=Aside0.mk (Q_HO466 (hon 16 (by kernel_rfl)))
          have HO470:=Aside0.mk (Q_HO470 (hon 17 (by kernel_rfl)))
          obtain ⟨Ao19_0,co19_0,eo_⟩:=Kd.R_slice HO470.out
          subst eo_
          refine value_ (w1:=w') (v:=.slice Ao19_0 t467.length co19_0) (by rfl) rfl ?_ ?_
          ·go_simp
           (try simp only [i64_w])
           try rfl
          refine hK.out _ _ ⟨v462,v465,.slice Ao19_0 t467.length co19_0,m17_,m18_,(.slice Ao19_0 t467.length co19_0),m21_,(by rw [ha.out];exact putSel_upk 12 hb_ rfl rfl rfl),Q_BK458,Q_HB,Q_HO463,Q_HO466,Q_HO470,Q_X17_,Q_X18_,fun _=>rfl,fun h0_=>absurd ((hoff 21 (by kernel_rfl)).symm.trans h0_) (by decide)⟩
         refine steps_cons ?_ ?_
         ·rintro b a w' ⟨v462,v465,v469,m17_,m18_,m19_,m21_,ha,Q_BK458,Q_HB,Q_HO463,Q_HO466,Q_HO470,Q_X17_,Q_X18_,Q_X19_,Q_X21_⟩ hb_ hon hoff
          refine ⟨_,rfl,fun K hK=>?_⟩
          have e37:a.tmps[37]?=some (m18_):=by rw [ha];exact putSel_on (e:=(18,37,m18_)) 11 rfl rfl (hon 18 (by kernel_rfl)) rfl
          rw [Q_X18_ (hon 18 (by kernel_rfl))] at e37
          replace ha:=Aside0.mk ha
          have BK458:=Aside0.mk Q_BK458
          have HB:=Aside0.mk Q_HB
          have HO463:=Aside0.mk (Q_HO463 (hon 0 (by kernel_rfl)))
          have HO466:=Aside0.mk (Q_HO466 (hon 16 (by kernel_rfl)))
          have HO470:=Aside0.mk (Q_HO470 (hon 17 (by kernel_rfl)))
          obtain ⟨Ao20_0,co20_0,eo_⟩:=Kd.R_slice HO470.out
          subst eo_
          refine value_ (w1:=w') (v:=.int .i64 t468) (by rfl) rfl ?_ ?_
          ·go_simp
           (try simp only [i64_w])
           try rfl
          refine hK.out _ _ ⟨v462,v465,.slice Ao20_0 t467.length co20_0,m17_,m18_,m19_,m21_,(by rw [ha.out];exact putSel_upk 13 hb_ rfl rfl rfl),Q_BK458,Q_HB,Q_HO463,Q_HO466,Q_HO470,Q_X17_,Q_X18_,Q_X19_,Q_X21_⟩
         refine steps_cons ?_ ?_
         ·rintro b a w' ⟨v462,v465,v469,m17_,m18_,m19_,m21_,ha,Q_BK458,Q_HB,Q_HO463,Q_HO466,Q_HO470,Q_X17_,Q_X18_,Q_X19_,Q_X21_⟩ hb_ hon hoff
          refine ⟨_,rfl,fun K hK=>?_⟩
          have e56:a.tmps[56]?=some (m19_):=by rw [ha];exact putSel_on (e:=(19,56,m19_)) 12 rfl rfl (hon 19 (by kernel_rfl)) rfl
          rw [Q_X19_ (hon 19 (by kernel_rfl))] at e56
          replace ha:=Aside0.mk ha
          have BK458:=Aside0.mk Q_BK458
          have HB:=Aside0.mk Q_HB
          have HO463:=Aside0.mk (Q_HO463 (hon 0 (by kernel_rfl)))
          have HO466:=Aside0.mk (Q_HO466 (hon 16 (by kernel_rfl)))
          have HO470:=Aside0.mk (Q_HO470 (hon 17 (by kernel_rfl)))
          refine value_ (w1:=w') (v:=v469) (by rfl) rfl ?_ ?_
          ·go_simp
           (try simp only [i64_w])
           try rfl
          refine hK.out _ _ ⟨v462,v465,v469,m17_,m18_,m19_,(v469),(by rw [ha.out];exact putSel_upk 14 hb_ rfl rfl rfl),Q_BK458,Q_HB,Q_HO463,Q_HO466,Q_HO470,Q_X17_,Q_X18_,Q_X19_,fun _=>rfl⟩
         refine steps_cons ?_ ?_
         ·rintro b a w' ⟨v462,v465,v469,m17_,m18_,m19_,m21_,ha,Q_BK458,Q_HB,Q_HO463,Q_HO466,Q_HO470,Q_X17_,Q_X18_,Q_X19_,Q_X21_⟩ hb_ hon hoff
          refine ⟨_,rfl,fun K hK=>?_⟩
          have e57:a.tmps[57]?=some (.int .i64 t468):=by rw [ha];exact putSel_on (e:=(20,57,.int .i64 t468)) 13 rfl rfl (hon 20 (by kernel_rfl)) rfl
          replace ha:=Aside0.mk ha
          have BK458:=Aside0.mk Q_BK458
          have HB:=Aside0.mk Q_HB
          have HO463:=Aside0.mk (Q_HO463 (hon 0 (by kernel_rfl)))
          have HO466:=Aside0.mk (Q_HO466 (hon 16 (by kernel_rfl)))
          have HO470:=Aside0.mk (Q_HO470 (hon 17 (by kernel_rfl)))
          refine value_ (w1:=w') (v:=.int .i64 t468) (by rfl) rfl ?_ ?_
          ·go_simp
           (try simp only [i64_w])
           try rfl
          refine hK.out _ _ ⟨v462,v465,v469,m17_,m18_,m19_,m21_,(by rw [ha.out];exact putSel_upk 15 hb_ rfl rfl rfl),Q_BK458,Q_HB,Q_HO463,Q_HO466,Q_HO470,Q_X17_,Q_X18_,Q_X19_,Q_X21_⟩
         exact steps_nil
        rintro b a w49 hall ⟨v462,v465,v469,m17_,m18_,m19_,m21_,ha,Q_BK458,Q_HB,Q_HO463,Q_HO466,Q_HO470,Q_X17_,Q_X18_,Q_X19_,Q_X21_⟩
        clear BK458 HB
        have hb0_:=hall 0 (by kernel_rfl)
        have hb3_:=hall 3 (by kernel_rfl)
        have hb4_:=hall 4 (by kernel_rfl)
        have hb7_:=hall 7 (by kernel_rfl)
        have hb8_:=hall 8 (by kernel_rfl)
        have hb11_:=hall 11 (by kernel_rfl)
        have hb12_:=hall 12 (by kernel_rfl)
        have hb14_:=hall 14 (by kernel_rfl)
        have hb15_:=hall 15 (by kernel_rfl)
        have hb16_:=hall 16 (by kernel_rfl)
        have hb17_:=hall 17 (by kernel_rfl)
        have hb18_:=hall 18 (by kernel_rfl)
        have hb19_:=hall 19 (by kernel_rfl)
        have hb20_:=hall 20 (by kernel_rfl)
        have hb21_:=hall 21 (by kernel_rfl)
        have hb22_:=hall 22 (by kernel_rfl)
        subst ha
        obtain rfl:=Q_X17_ hb17_
        obtain rfl:=Q_X18_ hb18_
        obtain rfl:=Q_X19_ hb19_
        obtain rfl:=Q_X21_ hb21_
        simp only [putSel,hb0_,hb3_,hb4_,hb7_,hb8_,hb11_,hb12_,hb14_,hb15_,hb16_,hb17_,hb18_,hb19_,hb20_,hb21_,hb22_,if_true,Act.put,List.setIfInBounds_toArray,List.set_cons_zero,List.set_cons_succ]
        have BK458:=Aside0.mk Q_BK458
        clear Q_BK458
        have HB:=Aside0.mk Q_HB
        clear Q_HB
        have HO463:=Aside0.mk (Q_HO463 hb0_)
        clear Q_HO463
        have HO466:=Aside0.mk (Q_HO466 hb16_)
        clear Q_HO466
        have HO470:=Aside0.mk (Q_HO470 hb17_)
        clear Q_HO470 hall hb0_ hb3_ hb4_ hb7_ hb8_ hb11_ hb12_ hb14_ hb15_ hb16_ hb17_ hb18_ hb19_ hb20_ hb21_ hb22_
        try go_wp2
        go_ret2
        exact ⟨_,by first|rfl|(simp [errW_none,errW_some] <;> rfl)|(simp [*,errW_none,errW_some] <;> rfl),by first|exact Kd.R_nil _ _ _ _ _|exact Kd.N_nil _ _ _ _ _|exact Kd.V_nil _ _ _ _ _|exact Kd.Q_nil _ _ _ _ _|exact Kd.S_nil _ _ _ _ _,by repeat (first|(with_reducible first|exact HB.out|apply below_alloc|apply pw_below_drewN|apply below_drew1|refine below_set ?_ GE458.out)|exact HB.out)⟩
 ·rw [if_neg c3] at H
  have c3b0:(t459 == 0)=false:=beq_eq_false_iff_ne.mpr c3
  have c3b1:(t459 != 0)=true:=bne_iff_ne.mpr c3
  simp only [Option.some.injEq,Prod.mk.injEq] at H
  obtain ⟨rfl,rfl⟩:=H
  go_enter Try.func40,Try.ntmps40
  go_wp2_with (first|((with_reducible refine gate_dst (N:=1) rfl ?_);refine box_event ?hg (N:=1) ?hd (cs:=#[.int .i64 a0_0,.int .i64 a0_1,.int .i64 a0_2,.bool a0_3,.int .i64 a0_4]) (t:=63) ?hr ?_;(case hd=>rfl);(case hg=>rfl);(case hr=>first|(go_simp;done)|(go_simp;rfl));intro gb458 hg w50 hbox hb;have n0_:=Aside0.mk (below_step (by repeat (first|(with_reducible first|exact HB.out|apply below_alloc|apply pw_below_drewN|apply below_drew1)|exact HB.out)) hb);have n1_:=Aside0.mk (hbox);have n2_:=Aside0.mk ((by rw [hg];exact (below_size (by repeat (first|(with_reducible first|exact HB.out|apply below_alloc|apply pw_below_drewN|apply below_drew1)|exact HB.out))):w.heap.size≤gb458));have n3_:=Aside0.mk ((by rw [hg];exact (below_size (by repeat (first|(with_reducible first|exact HB.out|apply below_alloc|apply pw_below_drewN|apply below_drew1)|exact HB.out))):w.heap.size≤gb458));clear HB;have HB:=n0_;have BK458:=n1_;have GW458:=n2_;have GE458:=n3_;clear n0_ n1_ n2_ n3_;clear hb hbox hg;have hcz51_0:w50.cell? ⟨gb458,0,none⟩=some (.int .i64 a0_0):=(blk_cell BK458.out 0).trans rfl;have hcz51_1:w50.cell? ⟨gb458,1,none⟩=some (.int .i64 a0_1):=(blk_cell BK458.out 1).trans rfl;have hcz51_2:w50.cell? ⟨gb458,2,none⟩=some (.int .i64 a0_2):=(blk_cell BK458.out 2).trans rfl;have hcz51_3:w50.cell? ⟨gb458,3,none⟩=some (.bool a0_3):=(blk_cell BK458.out 3).trans rfl;have hcz51_4:w50.cell? ⟨gb458,4,none⟩=some (.int .i64 a0_4):=(blk_cell BK458.out 4).trans rfl;have hfz51_0:=blk_frozen BK458.out 0;have hfz51_1:=blk_frozen BK458.out 1;have hfz51_2:=blk_frozen BK458.out 2;have hfz51_3:=blk_frozen BK458.out 3;have hfz51_4:=blk_frozen BK458.out 4)|((with_reducible refine gate_callee (f:=15) rfl ?_);refine goesL_ (some 10) rfl rfl Try.func15 (by kernel_rfl) rfl #[.agg #[.int .i64 a0_0,.int .i64 a0_1]] rfl (by (try simp only [List.map_toArray,List.map_cons,List.map_nil]);first|done|rfl|(simp only [List.length_drop,List.length_take];rfl)) ?_;(with_reducible refine (layout_Check.calls k a0_0 a0_1 t459 _ A2.out).mono ?_);rintro e w52 ⟨rfl,hb⟩;refine ⟨_,rfl,?_⟩;have n0_:=Aside0.mk (blk_below (g:=gb458) (o:=.cells #[.int .i64 a0_0,.int .i64 a0_1,.int .i64 a0_2,.bool a0_3,.int .i64 a0_4] 63 (0,0)) (by (with_reducible repeat (first|refine blk_drewN ?_ _|refine blk_drew ?_|refine blk_alloc ?_ _));exact BK458.out) hb);have n1_:=Aside0.mk (below_step (by repeat (first|(with_reducible first|exact HB.out|apply below_alloc|apply pw_below_drewN|apply below_drew1|refine below_set ?_ GE458.out)|exact HB.out)) hb);clear BK458 HB;have BK458:=n0_;have HB:=n1_;clear n0_ n1_;(try clear hb);(try clear hb2);(try clear hk);(try clear hi)))
  go_ret2
  exact ⟨_,by first|rfl|(simp [errW_none,errW_some] <;> rfl)|(simp [*,errW_none,errW_some] <;> rfl),by first|exact Kd.R_nil _ _ _ _ _|exact Kd.N_nil _ _ _ _ _|exact Kd.V_nil _ _ _ _ _|exact Kd.Q_nil _ _ _ _ _|exact Kd.S_nil _ _ _ _ _,by repeat (first|(with_reducible first|exact HB.out|apply below_alloc|apply pw_below_drewN|apply below_drew1|refine below_set ?_ GE458.out)|exact HB.out)⟩
end Go.Proofs.Ytbdnmdmfnopihaa.Print
end
section
namespace Go.Proofs.Ytbdnmdmfnopihaa.Print
open Go.RowKit Go.Proofs.YtbdnmdmfnopihaaW.PrintWords Go.Proofs.YtbdnmdmfnopihaaW.PrintLast Go.Proofs.YtbdnmdmfnopihaaW.PrintMore
attribute [local go_sem] max2_int min2_int max_two min_two max_three min_three max_four min_four   -- for this text's walks alone
attribute [local go_sem ↓] Go.Proofs.Ytbdnmdmfnopihaa.Sem.isSome_setCell
attribute [local go_sem] Go.Instr.field Go.asAgg
set_option linter.unusedVariables false
set_option linter.unusedSimpArgs false
def seal_Unpack_1.f (a0:Int) (l1:List Int):Option (Int):=if 0≤(wrap64 (Int.tdiv a0 8)) then (if (wrap64 (Int.tdiv a0 8)) < (l1.length:Int) then (if 0≤(wrap64 (7 - (Int.tmod a0 8))) then (some (IntKind.u64.wrap (Go.bits .and .u8 (shr .u8 (rd l1 (wrap64 (Int.tdiv a0 8))) (wrap64 (7 - (Int.tmod a0 8)))) 1))) else (none)) else (none)) else (none)
set_option maxHeartbeats 8000000 in
set_option maxRecDepth 100000 in
theorem seal_Unpack_1.calls (g1:Nat) (a0:Int) (A1:Option Addr) (c1:Nat) (l1:List Int) (r:Int) (w:World) (hb1:w.heap[g1]?=some (.cells #[.slice A1 l1.length c1] 48 (0,0))) (hr1:Kd.C (Kd.int .u8) w A1 l1.length l1) (hc1:l1.length≤c1) (h:seal_Unpack_1.f a0 l1=some r) :
  Calls Try.prog 67 #[.int .i64 a0,.pointer (some ⟨g1,0,none⟩)] w fun e w'=>e=.returned (.int .u64 r)∧Drawn0 w w':=by
 have hcz1_0:w.cell? ⟨g1,0,none⟩=some (.slice A1 l1.length c1):=(blk_cell hb1 0).trans rfl
 clear hb1
 have HR1:=Aside0.mk hr1
 have HC1:=Aside0.mk hc1
 clear hr1 hc1
 have H:(if 0≤(wrap64 (Int.tdiv a0 8)) then (if (wrap64 (Int.tdiv a0 8)) < (l1.length:Int) then (if 0≤(wrap64 (7 - (Int.tmod a0 8))) then (some (IntKind.u64.wrap (Go.bits .and .u8 (shr .u8 (rd l1 (wrap64 (Int.tdiv a0 8))) (wrap64 (7 - (Int.tmod a0 8)))) 1))) else (none)) else (none)) else (none))=some r:=h
 clear h
 obtain ⟨ji3,hji3⟩:∃ j_:Int,(wrap64 (Int.tdiv a0 8))=j_:=⟨_,rfl⟩
 replace H:(if 0≤(ji3) then (if (ji3) < (l1.length:Int) then (if 0≤(wrap64 (7 - (Int.tmod a0 8))) then (some (IntKind.u64.wrap (Go.bits .and .u8 (shr .u8 (rd l1 (ji3)) (wrap64 (7 - (Int.tmod a0 8)))) 1))) else (none)) else (none)) else (none))=some r:=by first|(rw [hji3] at H;exact H)|(simp only [hji3] at H ⊢;exact H)
 have hji3w:(IntKind.i64.wrap (Int.tdiv a0 8))=ji3:=(i64_w _).trans hji3
 by_cases c4:0≤(ji3)
 ·rw [if_pos c4] at H
  have c4b0:decide (0≤(ji3))=true:=decide_eq_true c4
  clear c4
  by_cases c5:(ji3) < (l1.length:Int)
  ·rw [if_pos c5] at H
   have c5b0:decide ((ji3) < (l1.length:Int))=true:=decide_eq_true c5
   clear c5
   obtain ⟨ji6,hji6⟩:∃ j_:Int,(wrap64 (7 - (Int.tmod a0 8)))=j_:=⟨_,rfl⟩
   replace H:(if 0≤(ji6) then (some (IntKind.u64.wrap (Go.bits .and .u8 (shr .u8 (rd l1 (ji3)) (ji6)) 1))) else (none))=some r:=by first|(rw [hji6] at H;exact H)|(simp only [hji6] at H ⊢;exact H)
   have hji6w:(IntKind.i64.wrap (7 - (Int.tmod a0 8)))=ji6:=(i64_w _).trans hji6
   by_cases c7:0≤(ji6)
   ·rw [if_pos c7] at H
    have c7b0:=eq_true c7
    have c7b1:decide (0≤(ji6))=true:=decide_eq_true c7
    clear c7
    obtain ⟨ji8,hji8⟩:∃ j_:Int,(shr .u8 (rd l1 (ji3)) (ji6))=j_:=⟨_,rfl⟩
    replace H:(some (IntKind.u64.wrap (Go.bits .and .u8 (ji8) 1)))=some r:=by first|(rw [hji8] at H;exact H)|(simp only [hji8] at H ⊢;exact H)
    have hji8_:((rd l1 (ji3)) / 2 ^ min (ji6).toNat 8)=ji8:=hji8
    have hji8z:(ji6)≤8 → ((rd l1 (ji3)) / 2 ^ (ji6).toNat)=ji8:=shr_small hji8
    obtain rfl:=Option.some.inj H
    have p512:0≤((ji3):Int):=of_decide_eq_true (by first|(with_reducible assumption)|assumption)
    have q512:(ji3) < (l1.length:Int):=of_decide_eq_true (by first|(with_reducible assumption)|assumption)
    obtain ⟨ad512,e512,hx512_0⟩:=Kd.at_int HR1.out (ji3) p512 q512
    cases e512
    replace p512:=eq_true p512
    replace q512:=eq_true q512
    go_enter Try.func67,Try.ntmps67
    go_wp2
    go_ret
    exact ⟨by first|rfl|(simp;done)|(simp only [← hji3,← hji6,← hji8] <;> (first|rfl|simp))|(simp [*];done),by repeat (first|exact Drawn0.refl _|apply Drawn0.step)⟩
   ·rw [if_neg c7] at H
    exact absurd H (by simp)
  ·rw [if_neg c5] at H
   exact absurd H (by simp)
 ·rw [if_neg c4] at H
  exact absurd H (by simp)
end Go.Proofs.Ytbdnmdmfnopihaa.Print
end
