-- Made by this session's programs out of the translation and of its own texts.
import Derived.Test.YtfjcfklgnlmjjaaMFnExactTreeInserta
namespace Go.Proofs.Ytfjcfklgnlmjjaa.PB
open Go.RowKit Go.Proofs.YtfjcfklgnlmjjaaW.PrintWords Go.Proofs.YtfjcfklgnlmjjaaW.PrintLast Go.Proofs.YtfjcfklgnlmjjaaW.PrintMore
attribute [local go_sem] max2_int min2_int max_two min_two max_three min_three max_four min_four   -- for this text's walks alone
set_option linter.unusedVariables false
set_option linter.unusedSimpArgs false

/-! ### spec_l3SameNodes: function 68 -/
mutual
def spec_l3SameNodes.l0 : Nat → List (S90) → List (S90) → Int → Option (Bool)
 | 0, _, _, _ => none
 | k + 1, x0, x1, x5 => if x5 < (x0.length : Int) then (if 0 ≤ x5 then (if x5 < (x1.length : Int) then (if (((rd_T90 x0 x5).f0) != ((rd_T90 x1 x5).f0)) = true then (spec_l3SameNodes.j1 k x0 x1 x5 true) else (if ((rd_T90 x0 x5).f3) = ((rd_T90 x1 x5).f3) then (if (((rd_T90 x0 x5).f1).length : Int) = (((rd_T90 x1 x5).f1).length : Int) then (spec_l3SameNodes.j1 k x0 x1 x5 ((((rd_T90 x0 x5).f2).length : Int) != (((rd_T90 x1 x5).f2).length : Int))) else (spec_l3SameNodes.j1 k x0 x1 x5 true)) else (spec_l3SameNodes.j1 k x0 x1 x5 true))) else (none)) else (none)) else (some true)
def spec_l3SameNodes.j1 : Nat → List (S90) → List (S90) → Int → Bool → Option (Bool)
 | 0, _, _, _, _ => none
 | k + 1, x0, x1, x5, x72 => if x72 = true then (some false) else (spec_l3SameNodes.l1 k x0 x1 x5 0)
def spec_l3SameNodes.l1 : Nat → List (S90) → List (S90) → Int → Int → Option (Bool)
 | 0, _, _, _, _ => none
 | k + 1, x0, x1, x5, x6 => if 0 ≤ x5 then (if x5 < (x0.length : Int) then (if x6 < (((rd_T90 x0 x5).f1).length : Int) then (if 0 ≤ x6 then (if x5 < (x1.length : Int) then (if x6 < (((rd_T90 x1 x5).f1).length : Int) then (if (rdOf ByteArray.empty ((rd_T90 x0 x5).f1) x6).toList = (rdOf ByteArray.empty ((rd_T90 x1 x5).f1) x6).toList then (spec_l3SameNodes.l1 k x0 x1 x5 (wrap64 (x6 + 1))) else (some false)) else (none)) else (none)) else (none)) else (spec_l3SameNodes.l2 k x0 x1 x5 0)) else (none)) else (none)
def spec_l3SameNodes.l2 : Nat → List (S90) → List (S90) → Int → Int → Option (Bool)
 | 0, _, _, _, _ => none
 | k + 1, x0, x1, x5, x7 => if 0 ≤ x5 then (if x5 < (x0.length : Int) then (if x7 < (((rd_T90 x0 x5).f2).length : Int) then (if 0 ≤ x7 then (if x5 < (x1.length : Int) then (if x7 < (((rd_T90 x1 x5).f2).length : Int) then (if (rd ((rd_T90 x0 x5).f2) x7) = (rd ((rd_T90 x1 x5).f2) x7) then (spec_l3SameNodes.l2 k x0 x1 x5 (wrap64 (x7 + 1))) else (some false)) else (none)) else (none)) else (none)) else (spec_l3SameNodes.l0 k x0 x1 (wrap64 (x5 + 1)))) else (none)) else (none)
end
def spec_l3SameNodes.f (k : Nat) (l0 : List (S90)) (l1 : List (S90)) : Option (Bool) := if (l0.length : Int) = (l1.length : Int) then (spec_l3SameNodes.l0 k l0 l1 0) else (some false)
set_option maxHeartbeats 8000000 in
set_option maxRecDepth 100000 in
theorem spec_l3SameNodes.calls (k : Nat) (A0 : Option Addr) (c0 : Nat) (l0 : List (S90)) (A1 : Option Addr) (c1 : Nat) (l1 : List (S90)) (r : Bool) (w : World) (hr0 : Kd.C k90 w A0 l0.length l0) (hc0 : l0.length ≤ c0) (hr1 : Kd.C k90 w A1 l1.length l1) (hc1 : l1.length ≤ c1) (h : spec_l3SameNodes.f k l0 l1 = some r) :
  Calls Try.prog 68 #[.slice A0 l0.length c0, .slice A1 l1.length c1] w fun e w' => e = .returned (.bool r) ∧ Drawn0 w w' := by
 have HR0 := zA hr0
 have HC0 := zA hc0
 clear hr0 hc0
 have HR1 := zA hr1
 have HC1 := zA hc1
 clear hr1 hc1
 have H : (if (l0.length : Int) = (l1.length : Int) then (spec_l3SameNodes.l0 k l0 l1 0) else (some false)) = some r := h
 clear h
 by_cases c3 : (l0.length : Int) = (l1.length : Int)
 ·rw [if_pos c3] at H
  have c3b0 : ((l0.length : Int) == (l1.length : Int)) = true := beq_iff_eq.mpr c3
  have c3b1 : ((l0.length : Int) != (l1.length : Int)) = false := bne_eq_false_iff_eq.mpr c3
  have c3b2 : (l0.length == l1.length) = true := by first | simpa using c3 | (simp at c3 ⊢; omega)
  clear c3
  have H' := zA H
  clear H
  go_enter Try.func68, Try.ntmps68
  go_wp2
  repeat (go_quiet (fail); try go_wp2)
  go_loopg [5] k (fun kq v5 w' => ∃ (x5_1 : Int), v5 = .int .i64 x5_1 ∧ Aside0 (spec_l3SameNodes.l0 kq l0 l1 x5_1 = some r) ∧ Aside0 (kq ≤ k) ∧ Drawn0 w w')
  case atStart => exact ⟨(0), wF, H', ⟨zY _⟩, wI⟩
  case round =>
   clear H'
   try clear c1
   try clear p2
   try clear c3
   try clear c3b0
   try clear c3b1
   try clear c3b2
   obtain ⟨x5_1, rfl, HA, HK1, ⟨m1, rfl⟩⟩ := hrel
   cases gk with
   | zero => exact absurd HA.out (by simp [spec_l3SameNodes.l0])
   | succ k1 =>
     have H := HA.out
     clear HA
     simp only [spec_l3SameNodes.l0] at H
     by_cases c4 : x5_1 < (l0.length : Int)
     ·rw [if_pos c4] at H
      have c4b0 : decide (x5_1 < (l0.length : Int)) = true := zJ c4
      clear c4
      have HC5 := zA H
      clear H
      go_upto_region 6 with (fail)
      repeat (go_quiet (fail); go_upto_region 6 with (fail))
      go_cut [72] (fun v72 wc => ∃ (kq : Nat) (x72_4 : Bool), v72 = .bool x72_4 ∧ Aside0 (spec_l3SameNodes.j1 kq l0 l1 x5_1 x72_4 = some r) ∧ Aside0 (kq ≤ k1) ∧ Drawn0 w wc)
      case first =>
       have H := HC5.out
       clear HC5
       by_cases c6 : 0 ≤ x5_1
       · rw [if_pos c6] at H
         have c6b0 : decide (0 ≤ x5_1) = true := zJ c6
         clear c6
         (first | rw [c6b0] | (simp only [i64_w, i32_w]; rw [c6b0]) | skip)
         by_cases c7 : x5_1 < (l1.length : Int)
         · rw [if_pos c7] at H
           have c7b0 : decide (x5_1 < (l1.length : Int)) = true := zJ c7
           clear c7
           by_cases c8 : (((rd_T90 l0 x5_1).f0) != ((rd_T90 l1 x5_1).f0)) = true
           ·rw [if_pos c8] at H
            have c8b0 : (((rd_T90 l0 x5_1).f0) != ((rd_T90 l1 x5_1).f0)) = true := c8
            (try (have c8b1 : decide (((rd_T90 l0 x5_1).f0) = ((rd_T90 l1 x5_1).f0)) = false := by simpa using c8))
            (try (have c8b2 : (((rd_T90 l0 x5_1).f0) == ((rd_T90 l1 x5_1).f0)) = false := by simpa using c8))
            (try (have c8b3 : ¬ (((rd_T90 l0 x5_1).f0) = ((rd_T90 l1 x5_1).f0)) := by simpa using c8))
            clear c8
            have H' := zA H
            clear H
            have p214 : 0 ≤ (x5_1 : Int) := zI wE
            have q214 : x5_1 < (l0.length : Int) := zI wE
            obtain ⟨ad214, A214_1, c214_1, A214_2, c214_2, e214, hx214_0, hx214_1, hx214_2, hx214_3, hl214_1, hi214_1, hl214_2, hi214_2⟩ := at_T90 HR0.out x5_1 p214 q214
            cases e214
            have HR214_1 := zA hi214_1
            have HC214_1 := zA hl214_1
            clear hi214_1 hl214_1
            have HR214_2 := zA hi214_2
            have HC214_2 := zA hl214_2
            clear hi214_2 hl214_2
            replace p214 := eq_true p214
            replace q214 := eq_true q214
            have p215 : 0 ≤ (x5_1 : Int) := zI wE
            have q215 : x5_1 < (l1.length : Int) := zI wE
            obtain ⟨ad215, A215_1, c215_1, A215_2, c215_2, e215, hx215_0, hx215_1, hx215_2, hx215_3, hl215_1, hi215_1, hl215_2, hi215_2⟩ := at_T90 HR1.out x5_1 p215 q215
            cases e215
            have HR215_1 := zA hi215_1
            have HC215_1 := zA hl215_1
            clear hi215_1 hl215_1
            have HR215_2 := zA hi215_2
            have HC215_2 := zA hl215_2
            clear hi215_2 hl215_2
            replace p215 := eq_true p215
            replace q215 := eq_true q215
            go_wp2
            repeat (go_quiet (fail); try go_wp2)
            go_meet
            case rel => exact ⟨_, (true), wF, H', ⟨by have := HK1.out; first | omega | exact zY _⟩, wI⟩
           ·rw [if_neg c8] at H
            have c8b0 : (((rd_T90 l0 x5_1).f0) != ((rd_T90 l1 x5_1).f0)) = false := by simpa using c8
            (try (have c8b1 : decide (((rd_T90 l0 x5_1).f0) = ((rd_T90 l1 x5_1).f0)) = true := by simpa using c8))
            (try (have c8b2 : (((rd_T90 l0 x5_1).f0) == ((rd_T90 l1 x5_1).f0)) = true := by simpa using c8))
            clear c8
            by_cases c9 : ((rd_T90 l0 x5_1).f3) = ((rd_T90 l1 x5_1).f3)
            · rw [if_pos c9] at H
              have c9b0 : (((rd_T90 l0 x5_1).f3) == ((rd_T90 l1 x5_1).f3)) = true := beq_iff_eq.mpr c9
              have c9b1 : (((rd_T90 l0 x5_1).f3) != ((rd_T90 l1 x5_1).f3)) = false := bne_eq_false_iff_eq.mpr c9
              clear c9
              by_cases c10 : (((rd_T90 l0 x5_1).f1).length : Int) = (((rd_T90 l1 x5_1).f1).length : Int)
              ·rw [if_pos c10] at H
               have c10b0 : ((((rd_T90 l0 x5_1).f1).length : Int) == (((rd_T90 l1 x5_1).f1).length : Int)) = true := beq_iff_eq.mpr c10
               have c10b1 : ((((rd_T90 l0 x5_1).f1).length : Int) != (((rd_T90 l1 x5_1).f1).length : Int)) = false := bne_eq_false_iff_eq.mpr c10
               have c10b2 : (((rd_T90 l0 x5_1).f1).length == ((rd_T90 l1 x5_1).f1).length) = true := by first | simpa using c10 | (simp at c10 ⊢; omega)
               clear c10
               have H' := zA H
               clear H
               have p214 : 0 ≤ (x5_1 : Int) := zI wE
               have q214 : x5_1 < (l0.length : Int) := zI wE
               obtain ⟨ad214, A214_1, c214_1, A214_2, c214_2, e214, hx214_0, hx214_1, hx214_2, hx214_3, hl214_1, hi214_1, hl214_2, hi214_2⟩ := at_T90 HR0.out x5_1 p214 q214
               cases e214
               have HR214_1 := zA hi214_1
               have HC214_1 := zA hl214_1
               clear hi214_1 hl214_1
               have HR214_2 := zA hi214_2
               have HC214_2 := zA hl214_2
               clear hi214_2 hl214_2
               replace p214 := eq_true p214
               replace q214 := eq_true q214
               have p215 : 0 ≤ (x5_1 : Int) := zI wE
               have q215 : x5_1 < (l1.length : Int) := zI wE
               obtain ⟨ad215, A215_1, c215_1, A215_2, c215_2, e215, hx215_0, hx215_1, hx215_2, hx215_3, hl215_1, hi215_1, hl215_2, hi215_2⟩ := at_T90 HR1.out x5_1 p215 q215
               cases e215
               have HR215_1 := zA hi215_1
               have HC215_1 := zA hl215_1
               clear hi215_1 hl215_1
               have HR215_2 := zA hi215_2
               have HC215_2 := zA hl215_2
               clear hi215_2 hl215_2
               replace p215 := eq_true p215
               replace q215 := eq_true q215
               have p216 : 0 ≤ (x5_1 : Int) := zI wE
               have q216 : x5_1 < (l0.length : Int) := zI wE
               obtain ⟨ad216, A216_1, c216_1, A216_2, c216_2, e216, hx216_0, hx216_1, hx216_2, hx216_3, hl216_1, hi216_1, hl216_2, hi216_2⟩ := at_T90 HR0.out x5_1 p216 q216
               obtain rfl : ad214 = ad216 := (by injection e216)
               have HR216_1 := zA hi216_1
               have HC216_1 := zA hl216_1
               clear hi216_1 hl216_1
               have HR216_2 := zA hi216_2
               have HC216_2 := zA hl216_2
               clear hi216_2 hl216_2
               replace p216 := eq_true p216
               replace q216 := eq_true q216
               have ea_ := zL (hx214_1.symm.trans hx216_1)
               injection ea_ with ea_ en_ ec_
               subst ea_
               subst ec_
               clear en_
               have ea_ := zL (hx214_2.symm.trans hx216_2)
               injection ea_ with ea_ en_ ec_
               subst ea_
               subst ec_
               clear en_
               have p217 : 0 ≤ (x5_1 : Int) := zI wE
               have q217 : x5_1 < (l1.length : Int) := zI wE
               obtain ⟨ad217, A217_1, c217_1, A217_2, c217_2, e217, hx217_0, hx217_1, hx217_2, hx217_3, hl217_1, hi217_1, hl217_2, hi217_2⟩ := at_T90 HR1.out x5_1 p217 q217
               obtain rfl : ad215 = ad217 := (by injection e217)
               have HR217_1 := zA hi217_1
               have HC217_1 := zA hl217_1
               clear hi217_1 hl217_1
               have HR217_2 := zA hi217_2
               have HC217_2 := zA hl217_2
               clear hi217_2 hl217_2
               replace p217 := eq_true p217
               replace q217 := eq_true q217
               have ea_ := zL (hx215_1.symm.trans hx217_1)
               injection ea_ with ea_ en_ ec_
               subst ea_
               subst ec_
               clear en_
               have ea_ := zL (hx215_2.symm.trans hx217_2)
               injection ea_ with ea_ en_ ec_
               subst ea_
               subst ec_
               clear en_
               have p218 : 0 ≤ (x5_1 : Int) := zI wE
               have q218 : x5_1 < (l0.length : Int) := zI wE
               obtain ⟨ad218, A218_1, c218_1, A218_2, c218_2, e218, hx218_0, hx218_1, hx218_2, hx218_3, hl218_1, hi218_1, hl218_2, hi218_2⟩ := at_T90 HR0.out x5_1 p218 q218
               obtain rfl : ad214 = ad218 := (by injection e218)
               have HR218_1 := zA hi218_1
               have HC218_1 := zA hl218_1
               clear hi218_1 hl218_1
               have HR218_2 := zA hi218_2
               have HC218_2 := zA hl218_2
               clear hi218_2 hl218_2
               replace p218 := eq_true p218
               replace q218 := eq_true q218
               have ea_ := zL (hx214_1.symm.trans hx218_1)
               injection ea_ with ea_ en_ ec_
               subst ea_
               subst ec_
               clear en_
               have ea_ := zL (hx214_2.symm.trans hx218_2)
               injection ea_ with ea_ en_ ec_
               subst ea_
               subst ec_
               clear en_
               have p219 : 0 ≤ (x5_1 : Int) := zI wE
               have q219 : x5_1 < (l1.length : Int) := zI wE
               obtain ⟨ad219, A219_1, c219_1, A219_2, c219_2, e219, hx219_0, hx219_1, hx219_2, hx219_3, hl219_1, hi219_1, hl219_2, hi219_2⟩ := at_T90 HR1.out x5_1 p219 q219
               obtain rfl : ad215 = ad219 := (by injection e219)
               have HR219_1 := zA hi219_1
               have HC219_1 := zA hl219_1
               clear hi219_1 hl219_1
               have HR219_2 := zA hi219_2
               have HC219_2 := zA hl219_2
               clear hi219_2 hl219_2
               replace p219 := eq_true p219
               replace q219 := eq_true q219
               have ea_ := zL (hx215_1.symm.trans hx219_1)
               injection ea_ with ea_ en_ ec_
               subst ea_
               subst ec_
               clear en_
               have ea_ := zL (hx215_2.symm.trans hx219_2)
               injection ea_ with ea_ en_ ec_
               subst ea_
               subst ec_
               clear en_
               have p220 : 0 ≤ (x5_1 : Int) := zI wE
               have q220 : x5_1 < (l0.length : Int) := zI wE
               obtain ⟨ad220, A220_1, c220_1, A220_2, c220_2, e220, hx220_0, hx220_1, hx220_2, hx220_3, hl220_1, hi220_1, hl220_2, hi220_2⟩ := at_T90 HR0.out x5_1 p220 q220
               obtain rfl : ad214 = ad220 := (by injection e220)
               have HR220_1 := zA hi220_1
               have HC220_1 := zA hl220_1
               clear hi220_1 hl220_1
               have HR220_2 := zA hi220_2
               have HC220_2 := zA hl220_2
               clear hi220_2 hl220_2
               replace p220 := eq_true p220
               replace q220 := eq_true q220
               have ea_ := zL (hx214_1.symm.trans hx220_1)
               injection ea_ with ea_ en_ ec_
               subst ea_
               subst ec_
               clear en_
               have ea_ := zL (hx214_2.symm.trans hx220_2)
               injection ea_ with ea_ en_ ec_
               subst ea_
               subst ec_
               clear en_
               have p221 : 0 ≤ (x5_1 : Int) := zI wE
               have q221 : x5_1 < (l1.length : Int) := zI wE
               obtain ⟨ad221, A221_1, c221_1, A221_2, c221_2, e221, hx221_0, hx221_1, hx221_2, hx221_3, hl221_1, hi221_1, hl221_2, hi221_2⟩ := at_T90 HR1.out x5_1 p221 q221
               obtain rfl : ad215 = ad221 := (by injection e221)
               have HR221_1 := zA hi221_1
               have HC221_1 := zA hl221_1
               clear hi221_1 hl221_1
               have HR221_2 := zA hi221_2
               have HC221_2 := zA hl221_2
               clear hi221_2 hl221_2
               replace p221 := eq_true p221
               replace q221 := eq_true q221
               have ea_ := zL (hx215_1.symm.trans hx221_1)
               injection ea_ with ea_ en_ ec_
               subst ea_
               subst ec_
               clear en_
               have ea_ := zL (hx215_2.symm.trans hx221_2)
               injection ea_ with ea_ en_ ec_
               subst ea_
               subst ec_
               clear en_
               go_wp2
               repeat (go_quiet (fail); try go_wp2)
               go_meet
               case rel => exact ⟨_, (((((rd_T90 l0 x5_1).f2).length : Int) != (((rd_T90 l1 x5_1).f2).length : Int))), wF, H', ⟨by have := HK1.out; first | omega | exact zY _⟩, wI⟩
              ·rw [if_neg c10] at H
               have c10b0 : ((((rd_T90 l0 x5_1).f1).length : Int) == (((rd_T90 l1 x5_1).f1).length : Int)) = false := beq_eq_false_iff_ne.mpr c10
               have c10b1 : ((((rd_T90 l0 x5_1).f1).length : Int) != (((rd_T90 l1 x5_1).f1).length : Int)) = true := bne_iff_ne.mpr c10
               have c10b2 : (((rd_T90 l0 x5_1).f1).length == ((rd_T90 l1 x5_1).f1).length) = false := by first | simpa using c10 | (simp at c10 ⊢; omega)
               have H' := zA H
               clear H
               have p214 : 0 ≤ (x5_1 : Int) := zI wE
               have q214 : x5_1 < (l0.length : Int) := zI wE
               obtain ⟨ad214, A214_1, c214_1, A214_2, c214_2, e214, hx214_0, hx214_1, hx214_2, hx214_3, hl214_1, hi214_1, hl214_2, hi214_2⟩ := at_T90 HR0.out x5_1 p214 q214
               cases e214
               have HR214_1 := zA hi214_1
               have HC214_1 := zA hl214_1
               clear hi214_1 hl214_1
               have HR214_2 := zA hi214_2
               have HC214_2 := zA hl214_2
               clear hi214_2 hl214_2
               replace p214 := eq_true p214
               replace q214 := eq_true q214
               have p215 : 0 ≤ (x5_1 : Int) := zI wE
               have q215 : x5_1 < (l1.length : Int) := zI wE
               obtain ⟨ad215, A215_1, c215_1, A215_2, c215_2, e215, hx215_0, hx215_1, hx215_2, hx215_3, hl215_1, hi215_1, hl215_2, hi215_2⟩ := at_T90 HR1.out x5_1 p215 q215
               cases e215
               have HR215_1 := zA hi215_1
               have HC215_1 := zA hl215_1
               clear hi215_1 hl215_1
               have HR215_2 := zA hi215_2
               have HC215_2 := zA hl215_2
               clear hi215_2 hl215_2
               replace p215 := eq_true p215
               replace q215 := eq_true q215
               have p216 : 0 ≤ (x5_1 : Int) := zI wE
               have q216 : x5_1 < (l0.length : Int) := zI wE
               obtain ⟨ad216, A216_1, c216_1, A216_2, c216_2, e216, hx216_0, hx216_1, hx216_2, hx216_3, hl216_1, hi216_1, hl216_2, hi216_2⟩ := at_T90 HR0.out x5_1 p216 q216
               obtain rfl : ad214 = ad216 := (by injection e216)
               have HR216_1 := zA hi216_1
               have HC216_1 := zA hl216_1
               clear hi216_1 hl216_1
               have HR216_2 := zA hi216_2
               have HC216_2 := zA hl216_2
               clear hi216_2 hl216_2
               replace p216 := eq_true p216
               replace q216 := eq_true q216
               have ea_ := zL (hx214_1.symm.trans hx216_1)
               injection ea_ with ea_ en_ ec_
               subst ea_
               subst ec_
               clear en_
               have ea_ := zL (hx214_2.symm.trans hx216_2)
               injection ea_ with ea_ en_ ec_
               subst ea_
               subst ec_
               clear en_
               have p217 : 0 ≤ (x5_1 : Int) := zI wE
               have q217 : x5_1 < (l1.length : Int) := zI wE
               obtain ⟨ad217, A217_1, c217_1, A217_2, c217_2, e217, hx217_0, hx217_1, hx217_2, hx217_3, hl217_1, hi217_1, hl217_2, hi217_2⟩ := at_T90 HR1.out x5_1 p217 q217
               obtain rfl : ad215 = ad217 := (by injection e217)
               have HR217_1 := zA hi217_1
               have HC217_1 := zA hl217_1
               clear hi217_1 hl217_1
               have HR217_2 := zA hi217_2
               have HC217_2 := zA hl217_2
               clear hi217_2 hl217_2
               replace p217 := eq_true p217
               replace q217 := eq_true q217
               have ea_ := zL (hx215_1.symm.trans hx217_1)
               injection ea_ with ea_ en_ ec_
               subst ea_
               subst ec_
               clear en_
               have ea_ := zL (hx215_2.symm.trans hx217_2)
               injection ea_ with ea_ en_ ec_
               subst ea_
               subst ec_
               clear en_
               have p218 : 0 ≤ (x5_1 : Int) := zI wE
               have q218 : x5_1 < (l0.length : Int) := zI wE
               obtain ⟨ad218, A218_1, c218_1, A218_2, c218_2, e218, hx218_0, hx218_1, hx218_2, hx218_3, hl218_1, hi218_1, hl218_2, hi218_2⟩ := at_T90 HR0.out x5_1 p218 q218
               obtain rfl : ad214 = ad218 := (by injection e218)
               have HR218_1 := zA hi218_1
               have HC218_1 := zA hl218_1
               clear hi218_1 hl218_1
               have HR218_2 := zA hi218_2
               have HC218_2 := zA hl218_2
               clear hi218_2 hl218_2
               replace p218 := eq_true p218
               replace q218 := eq_true q218
               have ea_ := zL (hx214_1.symm.trans hx218_1)
               injection ea_ with ea_ en_ ec_
               subst ea_
               subst ec_
               clear en_
               have ea_ := zL (hx214_2.symm.trans hx218_2)
               injection ea_ with ea_ en_ ec_
               subst ea_
               subst ec_
               clear en_
               have p219 : 0 ≤ (x5_1 : Int) := zI wE
               have q219 : x5_1 < (l1.length : Int) := zI wE
               obtain ⟨ad219, A219_1, c219_1, A219_2, c219_2, e219, hx219_0, hx219_1, hx219_2, hx219_3, hl219_1, hi219_1, hl219_2, hi219_2⟩ := at_T90 HR1.out x5_1 p219 q219
               obtain rfl : ad215 = ad219 := (by injection e219)
               have HR219_1 := zA hi219_1
               have HC219_1 := zA hl219_1
               clear hi219_1 hl219_1
               have HR219_2 := zA hi219_2
               have HC219_2 := zA hl219_2
               clear hi219_2 hl219_2
               replace p219 := eq_true p219
               replace q219 := eq_true q219
               have ea_ := zL (hx215_1.symm.trans hx219_1)
               injection ea_ with ea_ en_ ec_
               subst ea_
               subst ec_
               clear en_
               have ea_ := zL (hx215_2.symm.trans hx219_2)
               injection ea_ with ea_ en_ ec_
               subst ea_
               subst ec_
               clear en_
               go_wp2
               repeat (go_quiet (fail); try go_wp2)
               go_meet
               case rel => exact ⟨_, (true), wF, H', ⟨by have := HK1.out; first | omega | exact zY _⟩, wI⟩
            · rw [if_neg c9] at H
              have c9b0 : (((rd_T90 l0 x5_1).f3) == ((rd_T90 l1 x5_1).f3)) = false := beq_eq_false_iff_ne.mpr c9
              have c9b1 : (((rd_T90 l0 x5_1).f3) != ((rd_T90 l1 x5_1).f3)) = true := bne_iff_ne.mpr c9
              have H' := zA H
              clear H
              have p214 : 0 ≤ (x5_1 : Int) := zI wE
              have q214 : x5_1 < (l0.length : Int) := zI wE
              obtain ⟨ad214, A214_1, c214_1, A214_2, c214_2, e214, hx214_0, hx214_1, hx214_2, hx214_3, hl214_1, hi214_1, hl214_2, hi214_2⟩ := at_T90 HR0.out x5_1 p214 q214
              cases e214
              have HR214_1 := zA hi214_1
              have HC214_1 := zA hl214_1
              clear hi214_1 hl214_1
              have HR214_2 := zA hi214_2
              have HC214_2 := zA hl214_2
              clear hi214_2 hl214_2
              replace p214 := eq_true p214
              replace q214 := eq_true q214
              have p215 : 0 ≤ (x5_1 : Int) := zI wE
              have q215 : x5_1 < (l1.length : Int) := zI wE
              obtain ⟨ad215, A215_1, c215_1, A215_2, c215_2, e215, hx215_0, hx215_1, hx215_2, hx215_3, hl215_1, hi215_1, hl215_2, hi215_2⟩ := at_T90 HR1.out x5_1 p215 q215
              cases e215
              have HR215_1 := zA hi215_1
              have HC215_1 := zA hl215_1
              clear hi215_1 hl215_1
              have HR215_2 := zA hi215_2
              have HC215_2 := zA hl215_2
              clear hi215_2 hl215_2
              replace p215 := eq_true p215
              replace q215 := eq_true q215
              have p216 : 0 ≤ (x5_1 : Int) := zI wE
              have q216 : x5_1 < (l0.length : Int) := zI wE
              obtain ⟨ad216, A216_1, c216_1, A216_2, c216_2, e216, hx216_0, hx216_1, hx216_2, hx216_3, hl216_1, hi216_1, hl216_2, hi216_2⟩ := at_T90 HR0.out x5_1 p216 q216
              obtain rfl : ad214 = ad216 := (by injection e216)
              have HR216_1 := zA hi216_1
              have HC216_1 := zA hl216_1
              clear hi216_1 hl216_1
              have HR216_2 := zA hi216_2
              have HC216_2 := zA hl216_2
              clear hi216_2 hl216_2
              replace p216 := eq_true p216
              replace q216 := eq_true q216
              have ea_ := zL (hx214_1.symm.trans hx216_1)
              injection ea_ with ea_ en_ ec_
              subst ea_
              subst ec_
              clear en_
              have ea_ := zL (hx214_2.symm.trans hx216_2)
              injection ea_ with ea_ en_ ec_
              subst ea_
              subst ec_
              clear en_
              have p217 : 0 ≤ (x5_1 : Int) := zI wE
              have q217 : x5_1 < (l1.length : Int) := zI wE
              obtain ⟨ad217, A217_1, c217_1, A217_2, c217_2, e217, hx217_0, hx217_1, hx217_2, hx217_3, hl217_1, hi217_1, hl217_2, hi217_2⟩ := at_T90 HR1.out x5_1 p217 q217
              obtain rfl : ad215 = ad217 := (by injection e217)
              have HR217_1 := zA hi217_1
              have HC217_1 := zA hl217_1
              clear hi217_1 hl217_1
              have HR217_2 := zA hi217_2
              have HC217_2 := zA hl217_2
              clear hi217_2 hl217_2
              replace p217 := eq_true p217
              replace q217 := eq_true q217
              have ea_ := zL (hx215_1.symm.trans hx217_1)
              injection ea_ with ea_ en_ ec_
              subst ea_
              subst ec_
              clear en_
              have ea_ := zL (hx215_2.symm.trans hx217_2)
              injection ea_ with ea_ en_ ec_
              subst ea_
              subst ec_
              clear en_
              go_wp2
              repeat (go_quiet (fail); try go_wp2)
              go_meet
              case rel => exact ⟨_, (true), wF, H', ⟨by have := HK1.out; first | omega | exact zY _⟩, wI⟩
         · rw [if_neg c7] at H
           exact absurd H (by simp)
       · rw [if_neg c6] at H
         exact absurd H (by simp)
      case rest =>
       clear HC5
       try clear c1
       try clear c2
       try clear p2
       try clear q2
       try clear hx2
       try clear c3
       try clear c3b0
       try clear c3b1
       try clear c3b2
       try clear c4
       try clear c4b0
       try clear c6
       try clear c6b0
       try clear c7
       try clear c7b0
       try clear c8
       try clear c8b0
       try clear c8b1
       try clear c8b2
       try clear c9
       try clear c9b0
       try clear c9b1
       try clear c10
       try clear c10b0
       try clear c10b1
       try clear c10b2
       try clear hx214_0
       try clear hx214_1
       try clear hx214_2
       try clear hx214_3
       try clear hx215_0
       try clear hx215_1
       try clear hx215_2
       try clear hx215_3
       try clear hx216_0
       try clear hx216_1
       try clear hx216_2
       try clear hx216_3
       try clear hx217_0
       try clear hx217_1
       try clear hx217_2
       try clear hx217_3
       try clear hx218_0
       try clear hx218_1
       try clear hx218_2
       try clear hx218_3
       try clear hx219_0
       try clear hx219_1
       try clear hx219_2
       try clear hx219_3
       try clear hx220_0
       try clear hx220_1
       try clear hx220_2
       try clear hx220_3
       try clear hx221_0
       try clear hx221_1
       try clear hx221_2
       try clear hx221_3
       try clear p2
       try clear p214
       try clear p215
       try clear p216
       try clear p217
       try clear p218
       try clear p219
       try clear p220
       try clear p221
       try clear q214
       try clear q215
       try clear q216
       try clear q217
       try clear q218
       try clear q219
       try clear q220
       try clear q221
       obtain ⟨kq, x72_4, rfl, HA, HJ4, ⟨mc4, rfl⟩⟩ := hcut
       cases kq with
       | zero => exact absurd HA.out (by simp [spec_l3SameNodes.j1])
       | succ kj4 =>
         have H := HA.out
         clear HA
         simp only [spec_l3SameNodes.j1] at H
         by_cases c11 : x72_4 = true
         · subst c11
           have H1 : (some false) = some r := by rw [if_pos rfl] at H; exact H
           clear H
           have H := H1
           clear H1
           obtain rfl := zL H
           go_wp2
           repeat (go_quiet (fail); try go_wp2)
           go_ret
           exact ⟨wF, wI⟩
         · replace c11 := Bool.eq_false_iff.mpr c11
           subst c11
           have H1 : (spec_l3SameNodes.l1 kj4 l0 l1 x5_1 0) = some r := by rw [if_neg (show ¬ (false = true) by decide)] at H; exact H
           clear H
           have H := H1
           clear H1
           have H' := zA H
           clear H
           go_wp2
           repeat (go_quiet (fail); try go_wp2)
           go_loopg [6] kj4 (fun kq v6 w' => ∃ (x6_3 : Int), v6 = .int .i64 x6_3 ∧ Aside0 (spec_l3SameNodes.l1 kq l0 l1 x5_1 x6_3 = some r) ∧ Aside0 (kq ≤ kj4) ∧ Drawn0 w w')
           case atStart => exact ⟨(0), wF, H', ⟨zY _⟩, wI⟩
           case round =>
            clear H'
            try clear c1
            try clear c2
            try clear p2
            try clear q2
            try clear hx2
            try clear c3
            try clear c3b0
            try clear c3b1
            try clear c3b2
            try clear c4
            try clear c4b0
            try clear c6
            try clear c6b0
            try clear c7
            try clear c7b0
            try clear c8
            try clear c8b0
            try clear c8b1
            try clear c8b2
            try clear c9
            try clear c9b0
            try clear c9b1
            try clear c10
            try clear c10b0
            try clear c10b1
            try clear c10b2
            try clear c11
            try clear hx214_0
            try clear hx214_1
            try clear hx214_2
            try clear hx214_3
            try clear hx215_0
            try clear hx215_1
            try clear hx215_2
            try clear hx215_3
            try clear hx216_0
            try clear hx216_1
            try clear hx216_2
            try clear hx216_3
            try clear hx217_0
            try clear hx217_1
            try clear hx217_2
            try clear hx217_3
            try clear hx218_0
            try clear hx218_1
            try clear hx218_2
            try clear hx218_3
            try clear hx219_0
            try clear hx219_1
            try clear hx219_2
            try clear hx219_3
            try clear hx220_0
            try clear hx220_1
            try clear hx220_2
            try clear hx220_3
            try clear hx221_0
            try clear hx221_1
            try clear hx221_2
            try clear hx221_3
            try clear p2
            try clear p214
            try clear p215
            try clear p216
            try clear p217
            try clear p218
            try clear p219
            try clear p220
            try clear p221
            try clear q2
            try clear q214
            try clear q215
            try clear q216
            try clear q217
            try clear q218
            try clear q219
            try clear q220
            try clear q221
            obtain ⟨x6_3, rfl, HA, HK3, ⟨m3, rfl⟩⟩ := hrel
            cases gk with
            | zero => exact absurd HA.out (by simp [spec_l3SameNodes.l1])
            | succ k3 =>
              have H := HA.out
              clear HA
              simp only [spec_l3SameNodes.l1] at H
              by_cases c12 : 0 ≤ x5_1
              ·rw [if_pos c12] at H
               have c12b0 : decide (0 ≤ x5_1) = true := zJ c12
               clear c12
               by_cases c13 : x5_1 < (l0.length : Int)
               ·rw [if_pos c13] at H
                have c13b0 : decide (x5_1 < (l0.length : Int)) = true := zJ c13
                clear c13
                by_cases c14 : x6_3 < (((rd_T90 l0 x5_1).f1).length : Int)
                ·rw [if_pos c14] at H
                 have c14b0 : decide (x6_3 < (((rd_T90 l0 x5_1).f1).length : Int)) = true := zJ c14
                 clear c14
                 by_cases c15 : 0 ≤ x6_3
                 ·rw [if_pos c15] at H
                  have c15b0 : decide (0 ≤ x6_3) = true := zJ c15
                  clear c15
                  by_cases c16 : x5_1 < (l1.length : Int)
                  · rw [if_pos c16] at H
                    have c16b0 : decide (x5_1 < (l1.length : Int)) = true := zJ c16
                    clear c16
                    by_cases c17 : x6_3 < (((rd_T90 l1 x5_1).f1).length : Int)
                    ·rw [if_pos c17] at H
                     have c17b0 : decide (x6_3 < (((rd_T90 l1 x5_1).f1).length : Int)) = true := zJ c17
                     clear c17
                     by_cases c18 : (rdOf ByteArray.empty ((rd_T90 l0 x5_1).f1) x6_3).toList = (rdOf ByteArray.empty ((rd_T90 l1 x5_1).f1) x6_3).toList
                     ·rw [if_pos c18] at H
                      have c18b0 : ((rdOf ByteArray.empty ((rd_T90 l0 x5_1).f1) x6_3).toList == (rdOf ByteArray.empty ((rd_T90 l1 x5_1).f1) x6_3).toList) = true := beq_iff_eq.mpr c18
                      have c18b1 : ((rdOf ByteArray.empty ((rd_T90 l0 x5_1).f1) x6_3).toList != (rdOf ByteArray.empty ((rd_T90 l1 x5_1).f1) x6_3).toList) = false := bne_eq_false_iff_eq.mpr c18
                      clear c18
                      have H' := zA H
                      clear H
                      have p222 : 0 ≤ (x5_1 : Int) := zI wE
                      have q222 : x5_1 < (l0.length : Int) := zI wE
                      obtain ⟨ad222, A222_1, c222_1, A222_2, c222_2, e222, hx222_0, hx222_1, hx222_2, hx222_3, hl222_1, hi222_1, hl222_2, hi222_2⟩ := at_T90 HR0.out x5_1 p222 q222
                      cases e222
                      have HR222_1 := zA hi222_1
                      have HC222_1 := zA hl222_1
                      clear hi222_1 hl222_1
                      have HR222_2 := zA hi222_2
                      have HC222_2 := zA hl222_2
                      clear hi222_2 hl222_2
                      replace p222 := eq_true p222
                      replace q222 := eq_true q222
                      have p223 : 0 ≤ (x5_1 : Int) := zI wE
                      have q223 : x5_1 < (l0.length : Int) := zI wE
                      obtain ⟨ad223, A223_1, c223_1, A223_2, c223_2, e223, hx223_0, hx223_1, hx223_2, hx223_3, hl223_1, hi223_1, hl223_2, hi223_2⟩ := at_T90 HR0.out x5_1 p223 q223
                      obtain rfl : ad222 = ad223 := (by injection e223)
                      have HR223_1 := zA hi223_1
                      have HC223_1 := zA hl223_1
                      clear hi223_1 hl223_1
                      have HR223_2 := zA hi223_2
                      have HC223_2 := zA hl223_2
                      clear hi223_2 hl223_2
                      replace p223 := eq_true p223
                      replace q223 := eq_true q223
                      have ea_ := zL (hx222_1.symm.trans hx223_1)
                      injection ea_ with ea_ en_ ec_
                      subst ea_
                      subst ec_
                      clear en_
                      have ea_ := zL (hx222_2.symm.trans hx223_2)
                      injection ea_ with ea_ en_ ec_
                      subst ea_
                      subst ec_
                      clear en_
                      have p224 : 0 ≤ (x6_3 : Int) := zI wE
                      have q224 : x6_3 < (((rd_T90 l0 x5_1).f1).length : Int) := zI wE
                      obtain ⟨ad224, e224, hx224_0⟩ := Kd.at_string HR223_1.out x6_3 p224 q224
                      cases e224
                      replace p224 := eq_true p224
                      replace q224 := eq_true q224
                      have p225 : 0 ≤ (x5_1 : Int) := zI wE
                      have q225 : x5_1 < (l1.length : Int) := zI wE
                      obtain ⟨ad225, A225_1, c225_1, A225_2, c225_2, e225, hx225_0, hx225_1, hx225_2, hx225_3, hl225_1, hi225_1, hl225_2, hi225_2⟩ := at_T90 HR1.out x5_1 p225 q225
                      cases e225
                      have HR225_1 := zA hi225_1
                      have HC225_1 := zA hl225_1
                      clear hi225_1 hl225_1
                      have HR225_2 := zA hi225_2
                      have HC225_2 := zA hl225_2
                      clear hi225_2 hl225_2
                      replace p225 := eq_true p225
                      replace q225 := eq_true q225
                      have p226 : 0 ≤ (x6_3 : Int) := zI wE
                      have q226 : x6_3 < (((rd_T90 l1 x5_1).f1).length : Int) := zI wE
                      obtain ⟨ad226, e226, hx226_0⟩ := Kd.at_string HR225_1.out x6_3 p226 q226
                      cases e226
                      replace p226 := eq_true p226
                      replace q226 := eq_true q226
                      go_wp2
                      repeat (go_quiet (fail); try go_wp2)
                      go_roundg k3
                      case measure => have := HK1.out; have := HJ4.out; have := HK3.out; omega
                      case rel => exact ⟨(wrap64 (x6_3 + 1)), wF, H', ⟨by have := HK1.out; have := HJ4.out; have := HK3.out; omega⟩, wI⟩
                     ·rw [if_neg c18] at H
                      have c18b0 : ((rdOf ByteArray.empty ((rd_T90 l0 x5_1).f1) x6_3).toList == (rdOf ByteArray.empty ((rd_T90 l1 x5_1).f1) x6_3).toList) = false := beq_eq_false_iff_ne.mpr c18
                      have c18b1 : ((rdOf ByteArray.empty ((rd_T90 l0 x5_1).f1) x6_3).toList != (rdOf ByteArray.empty ((rd_T90 l1 x5_1).f1) x6_3).toList) = true := bne_iff_ne.mpr c18
                      obtain rfl := zL H
                      have p222 : 0 ≤ (x5_1 : Int) := zI wE
                      have q222 : x5_1 < (l0.length : Int) := zI wE
                      obtain ⟨ad222, A222_1, c222_1, A222_2, c222_2, e222, hx222_0, hx222_1, hx222_2, hx222_3, hl222_1, hi222_1, hl222_2, hi222_2⟩ := at_T90 HR0.out x5_1 p222 q222
                      cases e222
                      have HR222_1 := zA hi222_1
                      have HC222_1 := zA hl222_1
                      clear hi222_1 hl222_1
                      have HR222_2 := zA hi222_2
                      have HC222_2 := zA hl222_2
                      clear hi222_2 hl222_2
                      replace p222 := eq_true p222
                      replace q222 := eq_true q222
                      have p223 : 0 ≤ (x5_1 : Int) := zI wE
                      have q223 : x5_1 < (l0.length : Int) := zI wE
                      obtain ⟨ad223, A223_1, c223_1, A223_2, c223_2, e223, hx223_0, hx223_1, hx223_2, hx223_3, hl223_1, hi223_1, hl223_2, hi223_2⟩ := at_T90 HR0.out x5_1 p223 q223
                      obtain rfl : ad222 = ad223 := (by injection e223)
                      have HR223_1 := zA hi223_1
                      have HC223_1 := zA hl223_1
                      clear hi223_1 hl223_1
                      have HR223_2 := zA hi223_2
                      have HC223_2 := zA hl223_2
                      clear hi223_2 hl223_2
                      replace p223 := eq_true p223
                      replace q223 := eq_true q223
                      have ea_ := zL (hx222_1.symm.trans hx223_1)
                      injection ea_ with ea_ en_ ec_
                      subst ea_
                      subst ec_
                      clear en_
                      have ea_ := zL (hx222_2.symm.trans hx223_2)
                      injection ea_ with ea_ en_ ec_
                      subst ea_
                      subst ec_
                      clear en_
                      have p224 : 0 ≤ (x6_3 : Int) := zI wE
                      have q224 : x6_3 < (((rd_T90 l0 x5_1).f1).length : Int) := zI wE
                      obtain ⟨ad224, e224, hx224_0⟩ := Kd.at_string HR223_1.out x6_3 p224 q224
                      cases e224
                      replace p224 := eq_true p224
                      replace q224 := eq_true q224
                      have p225 : 0 ≤ (x5_1 : Int) := zI wE
                      have q225 : x5_1 < (l1.length : Int) := zI wE
                      obtain ⟨ad225, A225_1, c225_1, A225_2, c225_2, e225, hx225_0, hx225_1, hx225_2, hx225_3, hl225_1, hi225_1, hl225_2, hi225_2⟩ := at_T90 HR1.out x5_1 p225 q225
                      cases e225
                      have HR225_1 := zA hi225_1
                      have HC225_1 := zA hl225_1
                      clear hi225_1 hl225_1
                      have HR225_2 := zA hi225_2
                      have HC225_2 := zA hl225_2
                      clear hi225_2 hl225_2
                      replace p225 := eq_true p225
                      replace q225 := eq_true q225
                      have p226 : 0 ≤ (x6_3 : Int) := zI wE
                      have q226 : x6_3 < (((rd_T90 l1 x5_1).f1).length : Int) := zI wE
                      obtain ⟨ad226, e226, hx226_0⟩ := Kd.at_string HR225_1.out x6_3 p226 q226
                      cases e226
                      replace p226 := eq_true p226
                      replace q226 := eq_true q226
                      go_wp2
                      repeat (go_quiet (fail); try go_wp2)
                      go_ret
                      exact ⟨wF, wI⟩
                    ·rw [if_neg c17] at H
                     exact absurd H (by simp)
                  · rw [if_neg c16] at H
                    exact absurd H (by simp)
                 ·rw [if_neg c15] at H
                  exact absurd H (by simp)
                ·rw [if_neg c14] at H
                 have c14b0 : decide (x6_3 < (((rd_T90 l0 x5_1).f1).length : Int)) = false := zK c14
                 clear c14
                 have H' := zA H
                 clear H
                 have p222 : 0 ≤ (x5_1 : Int) := zI wE
                 have q222 : x5_1 < (l0.length : Int) := zI wE
                 obtain ⟨ad222, A222_1, c222_1, A222_2, c222_2, e222, hx222_0, hx222_1, hx222_2, hx222_3, hl222_1, hi222_1, hl222_2, hi222_2⟩ := at_T90 HR0.out x5_1 p222 q222
                 cases e222
                 have HR222_1 := zA hi222_1
                 have HC222_1 := zA hl222_1
                 clear hi222_1 hl222_1
                 have HR222_2 := zA hi222_2
                 have HC222_2 := zA hl222_2
                 clear hi222_2 hl222_2
                 replace p222 := eq_true p222
                 replace q222 := eq_true q222
                 go_wp2
                 repeat (go_quiet (fail); try go_wp2)
                 go_loopg [7] k3 (fun kq v7 w' => ∃ (x7_4 : Int), v7 = .int .i64 x7_4 ∧ Aside0 (spec_l3SameNodes.l2 kq l0 l1 x5_1 x7_4 = some r) ∧ Aside0 (kq ≤ k3) ∧ Drawn0 w w')
                 case atStart => exact ⟨(0), wF, H', ⟨zY _⟩, wI⟩
                 case round =>
                  clear H'
                  try clear c1
                  try clear c2
                  try clear p2
                  try clear q2
                  try clear hx2
                  try clear c3
                  try clear c3b0
                  try clear c3b1
                  try clear c3b2
                  try clear c4
                  try clear c4b0
                  try clear c6
                  try clear c6b0
                  try clear p6
                  try clear c7
                  try clear c7b0
                  try clear c8
                  try clear c8b0
                  try clear c8b1
                  try clear c8b2
                  try clear c9
                  try clear c9b0
                  try clear c9b1
                  try clear c10
                  try clear c10b0
                  try clear c10b1
                  try clear c10b2
                  try clear c11
                  try clear c12
                  try clear c12b0
                  try clear c13
                  try clear c13b0
                  try clear c14
                  try clear c14b0
                  try clear c15
                  try clear c15b0
                  try clear c16
                  try clear c16b0
                  try clear c17
                  try clear c17b0
                  try clear c18
                  try clear c18b0
                  try clear c18b1
                  try clear hx214_0
                  try clear hx214_1
                  try clear hx214_2
                  try clear hx214_3
                  try clear hx215_0
                  try clear hx215_1
                  try clear hx215_2
                  try clear hx215_3
                  try clear hx216_0
                  try clear hx216_1
                  try clear hx216_2
                  try clear hx216_3
                  try clear hx217_0
                  try clear hx217_1
                  try clear hx217_2
                  try clear hx217_3
                  try clear hx218_0
                  try clear hx218_1
                  try clear hx218_2
                  try clear hx218_3
                  try clear hx219_0
                  try clear hx219_1
                  try clear hx219_2
                  try clear hx219_3
                  try clear hx220_0
                  try clear hx220_1
                  try clear hx220_2
                  try clear hx220_3
                  try clear hx221_0
                  try clear hx221_1
                  try clear hx221_2
                  try clear hx221_3
                  try clear hx222_0
                  try clear hx222_1
                  try clear hx222_2
                  try clear hx222_3
                  try clear hx223_0
                  try clear hx223_1
                  try clear hx223_2
                  try clear hx223_3
                  try clear hx224_0
                  try clear hx225_0
                  try clear hx225_1
                  try clear hx225_2
                  try clear hx225_3
                  try clear hx226_0
                  try clear p2
                  try clear p214
                  try clear p215
                  try clear p216
                  try clear p217
                  try clear p218
                  try clear p219
                  try clear p220
                  try clear p221
                  try clear p222
                  try clear p223
                  try clear p224
                  try clear p225
                  try clear p226
                  try clear q2
                  try clear q214
                  try clear q215
                  try clear q216
                  try clear q217
                  try clear q218
                  try clear q219
                  try clear q220
                  try clear q221
                  try clear q222
                  try clear q223
                  try clear q224
                  try clear q225
                  try clear q226
                  obtain ⟨x7_4, rfl, HA, HK4, ⟨m4, rfl⟩⟩ := hrel
                  cases gk with
                  | zero => exact absurd HA.out (by simp [spec_l3SameNodes.l2])
                  | succ k4 =>
                    have H := HA.out
                    clear HA
                    simp only [spec_l3SameNodes.l2] at H
                    by_cases c19 : 0 ≤ x5_1
                    ·rw [if_pos c19] at H
                     have c19b0 : decide (0 ≤ x5_1) = true := zJ c19
                     clear c19
                     by_cases c20 : x5_1 < (l0.length : Int)
                     ·rw [if_pos c20] at H
                      have c20b0 : decide (x5_1 < (l0.length : Int)) = true := zJ c20
                      clear c20
                      by_cases c21 : x7_4 < (((rd_T90 l0 x5_1).f2).length : Int)
                      ·rw [if_pos c21] at H
                       have c21b0 : decide (x7_4 < (((rd_T90 l0 x5_1).f2).length : Int)) = true := zJ c21
                       clear c21
                       by_cases c22 : 0 ≤ x7_4
                       ·rw [if_pos c22] at H
                        have c22b0 : decide (0 ≤ x7_4) = true := zJ c22
                        clear c22
                        by_cases c23 : x5_1 < (l1.length : Int)
                        ·rw [if_pos c23] at H
                         have c23b0 : decide (x5_1 < (l1.length : Int)) = true := zJ c23
                         clear c23
                         by_cases c24 : x7_4 < (((rd_T90 l1 x5_1).f2).length : Int)
                         ·rw [if_pos c24] at H
                          have c24b0 : decide (x7_4 < (((rd_T90 l1 x5_1).f2).length : Int)) = true := zJ c24
                          clear c24
                          by_cases c25 : (rd ((rd_T90 l0 x5_1).f2) x7_4) = (rd ((rd_T90 l1 x5_1).f2) x7_4)
                          ·rw [if_pos c25] at H
                           have c25b0 : ((rd ((rd_T90 l0 x5_1).f2) x7_4) == (rd ((rd_T90 l1 x5_1).f2) x7_4)) = true := beq_iff_eq.mpr c25
                           have c25b1 : ((rd ((rd_T90 l0 x5_1).f2) x7_4) != (rd ((rd_T90 l1 x5_1).f2) x7_4)) = false := bne_eq_false_iff_eq.mpr c25
                           clear c25
                           have H' := zA H
                           clear H
                           have p227 : 0 ≤ (x5_1 : Int) := zI wE
                           have q227 : x5_1 < (l0.length : Int) := zI wE
                           obtain ⟨ad227, A227_1, c227_1, A227_2, c227_2, e227, hx227_0, hx227_1, hx227_2, hx227_3, hl227_1, hi227_1, hl227_2, hi227_2⟩ := at_T90 HR0.out x5_1 p227 q227
                           obtain rfl : ad222 = ad227 := (by injection e227)
                           have HR227_1 := zA hi227_1
                           have HC227_1 := zA hl227_1
                           clear hi227_1 hl227_1
                           have HR227_2 := zA hi227_2
                           have HC227_2 := zA hl227_2
                           clear hi227_2 hl227_2
                           replace p227 := eq_true p227
                           replace q227 := eq_true q227
                           have p228 : 0 ≤ (x5_1 : Int) := zI wE
                           have q228 : x5_1 < (l0.length : Int) := zI wE
                           obtain ⟨ad228, A228_1, c228_1, A228_2, c228_2, e228, hx228_0, hx228_1, hx228_2, hx228_3, hl228_1, hi228_1, hl228_2, hi228_2⟩ := at_T90 HR0.out x5_1 p228 q228
                           obtain rfl : ad222 = ad228 := (by injection e228)
                           have HR228_1 := zA hi228_1
                           have HC228_1 := zA hl228_1
                           clear hi228_1 hl228_1
                           have HR228_2 := zA hi228_2
                           have HC228_2 := zA hl228_2
                           clear hi228_2 hl228_2
                           replace p228 := eq_true p228
                           replace q228 := eq_true q228
                           have ea_ := zL (hx227_1.symm.trans hx228_1)
                           injection ea_ with ea_ en_ ec_
                           subst ea_
                           subst ec_
                           clear en_
                           have ea_ := zL (hx227_2.symm.trans hx228_2)
                           injection ea_ with ea_ en_ ec_
                           subst ea_
                           subst ec_
                           clear en_
                           have p229 : 0 ≤ (x7_4 : Int) := zI wE
                           have q229 : x7_4 < (((rd_T90 l0 x5_1).f2).length : Int) := zI wE
                           obtain ⟨ad229, e229, hx229_0⟩ := Kd.at_int HR228_2.out x7_4 p229 q229
                           cases e229
                           replace p229 := eq_true p229
                           replace q229 := eq_true q229
                           have p230 : 0 ≤ (x5_1 : Int) := zI wE
                           have q230 : x5_1 < (l1.length : Int) := zI wE
                           obtain ⟨ad230, A230_1, c230_1, A230_2, c230_2, e230, hx230_0, hx230_1, hx230_2, hx230_3, hl230_1, hi230_1, hl230_2, hi230_2⟩ := at_T90 HR1.out x5_1 p230 q230
                           cases e230
                           have HR230_1 := zA hi230_1
                           have HC230_1 := zA hl230_1
                           clear hi230_1 hl230_1
                           have HR230_2 := zA hi230_2
                           have HC230_2 := zA hl230_2
                           clear hi230_2 hl230_2
                           replace p230 := eq_true p230
                           replace q230 := eq_true q230
                           have p231 : 0 ≤ (x7_4 : Int) := zI wE
                           have q231 : x7_4 < (((rd_T90 l1 x5_1).f2).length : Int) := zI wE
                           obtain ⟨ad231, e231, hx231_0⟩ := Kd.at_int HR230_2.out x7_4 p231 q231
                           cases e231
                           replace p231 := eq_true p231
                           replace q231 := eq_true q231
                           go_wp2
                           repeat (go_quiet (fail); try go_wp2)
                           go_roundg k4
                           case measure => have := HK1.out; have := HJ4.out; have := HK3.out; have := HK4.out; omega
                           case rel => exact ⟨(wrap64 (x7_4 + 1)), wF, H', ⟨by have := HK1.out; have := HJ4.out; have := HK3.out; have := HK4.out; omega⟩, wI⟩
                          ·rw [if_neg c25] at H
                           have c25b0 : ((rd ((rd_T90 l0 x5_1).f2) x7_4) == (rd ((rd_T90 l1 x5_1).f2) x7_4)) = false := beq_eq_false_iff_ne.mpr c25
                           have c25b1 : ((rd ((rd_T90 l0 x5_1).f2) x7_4) != (rd ((rd_T90 l1 x5_1).f2) x7_4)) = true := bne_iff_ne.mpr c25
                           obtain rfl := zL H
                           have p227 : 0 ≤ (x5_1 : Int) := zI wE
                           have q227 : x5_1 < (l0.length : Int) := zI wE
                           obtain ⟨ad227, A227_1, c227_1, A227_2, c227_2, e227, hx227_0, hx227_1, hx227_2, hx227_3, hl227_1, hi227_1, hl227_2, hi227_2⟩ := at_T90 HR0.out x5_1 p227 q227
                           obtain rfl : ad222 = ad227 := (by injection e227)
                           have HR227_1 := zA hi227_1
                           have HC227_1 := zA hl227_1
                           clear hi227_1 hl227_1
                           have HR227_2 := zA hi227_2
                           have HC227_2 := zA hl227_2
                           clear hi227_2 hl227_2
                           replace p227 := eq_true p227
                           replace q227 := eq_true q227
                           have p228 : 0 ≤ (x5_1 : Int) := zI wE
                           have q228 : x5_1 < (l0.length : Int) := zI wE
                           obtain ⟨ad228, A228_1, c228_1, A228_2, c228_2, e228, hx228_0, hx228_1, hx228_2, hx228_3, hl228_1, hi228_1, hl228_2, hi228_2⟩ := at_T90 HR0.out x5_1 p228 q228
                           obtain rfl : ad222 = ad228 := (by injection e228)
                           have HR228_1 := zA hi228_1
                           have HC228_1 := zA hl228_1
                           clear hi228_1 hl228_1
                           have HR228_2 := zA hi228_2
                           have HC228_2 := zA hl228_2
                           clear hi228_2 hl228_2
                           replace p228 := eq_true p228
                           replace q228 := eq_true q228
                           have ea_ := zL (hx227_1.symm.trans hx228_1)
                           injection ea_ with ea_ en_ ec_
                           subst ea_
                           subst ec_
                           clear en_
                           have ea_ := zL (hx227_2.symm.trans hx228_2)
                           injection ea_ with ea_ en_ ec_
                           subst ea_
                           subst ec_
                           clear en_
                           have p229 : 0 ≤ (x7_4 : Int) := zI wE
                           have q229 : x7_4 < (((rd_T90 l0 x5_1).f2).length : Int) := zI wE
                           obtain ⟨ad229, e229, hx229_0⟩ := Kd.at_int HR228_2.out x7_4 p229 q229
                           cases e229
                           replace p229 := eq_true p229
                           replace q229 := eq_true q229
                           have p230 : 0 ≤ (x5_1 : Int) := zI wE
                           have q230 : x5_1 < (l1.length : Int) := zI wE
                           obtain ⟨ad230, A230_1, c230_1, A230_2, c230_2, e230, hx230_0, hx230_1, hx230_2, hx230_3, hl230_1, hi230_1, hl230_2, hi230_2⟩ := at_T90 HR1.out x5_1 p230 q230
                           cases e230
                           have HR230_1 := zA hi230_1
                           have HC230_1 := zA hl230_1
                           clear hi230_1 hl230_1
                           have HR230_2 := zA hi230_2
                           have HC230_2 := zA hl230_2
                           clear hi230_2 hl230_2
                           replace p230 := eq_true p230
                           replace q230 := eq_true q230
                           have p231 : 0 ≤ (x7_4 : Int) := zI wE
                           have q231 : x7_4 < (((rd_T90 l1 x5_1).f2).length : Int) := zI wE
                           obtain ⟨ad231, e231, hx231_0⟩ := Kd.at_int HR230_2.out x7_4 p231 q231
                           cases e231
                           replace p231 := eq_true p231
                           replace q231 := eq_true q231
                           go_wp2
                           repeat (go_quiet (fail); try go_wp2)
                           go_ret
                           exact ⟨wF, wI⟩
                         ·rw [if_neg c24] at H
                          exact absurd H (by simp)
                        ·rw [if_neg c23] at H
                         exact absurd H (by simp)
                       ·rw [if_neg c22] at H
                        exact absurd H (by simp)
                      ·rw [if_neg c21] at H
                       have c21b0 : decide (x7_4 < (((rd_T90 l0 x5_1).f2).length : Int)) = false := zK c21
                       clear c21
                       have H' := zA H
                       clear H
                       have p227 : 0 ≤ (x5_1 : Int) := zI wE
                       have q227 : x5_1 < (l0.length : Int) := zI wE
                       obtain ⟨ad227, A227_1, c227_1, A227_2, c227_2, e227, hx227_0, hx227_1, hx227_2, hx227_3, hl227_1, hi227_1, hl227_2, hi227_2⟩ := at_T90 HR0.out x5_1 p227 q227
                       obtain rfl : ad222 = ad227 := (by injection e227)
                       have HR227_1 := zA hi227_1
                       have HC227_1 := zA hl227_1
                       clear hi227_1 hl227_1
                       have HR227_2 := zA hi227_2
                       have HC227_2 := zA hl227_2
                       clear hi227_2 hl227_2
                       replace p227 := eq_true p227
                       replace q227 := eq_true q227
                       go_wp2
                       repeat (go_quiet (fail); try go_wp2)
                       go_roundg k4
                       case measure => have := HK1.out; have := HJ4.out; have := HK3.out; have := HK4.out; omega
                       case rel => exact ⟨(wrap64 (x5_1 + 1)), wF, H', ⟨by have := HK1.out; have := HJ4.out; have := HK3.out; have := HK4.out; omega⟩, wI⟩
                     ·rw [if_neg c20] at H
                      exact absurd H (by simp)
                    ·rw [if_neg c19] at H
                     exact absurd H (by simp)
               ·rw [if_neg c13] at H
                exact absurd H (by simp)
              ·rw [if_neg c12] at H
               exact absurd H (by simp)
     ·rw [if_neg c4] at H
      have c4b0 : decide (x5_1 < (l0.length : Int)) = false := zK c4
      clear c4
      obtain rfl := zL H
      go_wp2
      repeat (go_quiet (fail); try go_wp2)
      go_ret
      exact ⟨wF, wI⟩
 ·rw [if_neg c3] at H
  have c3b0 : ((l0.length : Int) == (l1.length : Int)) = false := beq_eq_false_iff_ne.mpr c3
  have c3b1 : ((l0.length : Int) != (l1.length : Int)) = true := bne_iff_ne.mpr c3
  have c3b2 : (l0.length == l1.length) = false := by first | simpa using c3 | (simp at c3 ⊢; omega)
  obtain rfl := zL H
  go_enter Try.func68, Try.ntmps68
  go_wp2
  repeat (go_quiet (fail); try go_wp2)
  go_ret
  exact ⟨wF, wI⟩

/-! ### laws_toStringS: function 90 -/
def laws_toStringS.l0 : Nat → List ByteArray → List ByteArray → Int → Option (List ByteArray)
 | 0, _, _, _ => none
 | k + 1, x0, x3, x4 => if x4 < (x0.length : Int) then (if 0 ≤ x4 then (if x4 < (x3.length : Int) then (laws_toStringS.l0 k x0 (x3.set (x4 : Int).toNat (rdOf ByteArray.empty x0 x4)) (wrap64 (x4 + 1))) else (none)) else (none)) else (some x3)
def laws_toStringS.f (k : Nat) (l0 : List ByteArray) : Option (List ByteArray) := if 0 ≤ (l0.length : Int) then (if ((l0.length : Int) : Int).toNat ≤ 17592186044416 then (laws_toStringS.l0 k l0 (List.replicate ((l0.length : Int) : Int).toNat (⟨#[]⟩ : ByteArray)) 0) else (none)) else (none)
set_option maxHeartbeats 8000000 in
set_option maxRecDepth 100000 in
theorem laws_toStringS.calls (k : Nat) (A0 : Option Addr) (c0 : Nat) (l0 : List ByteArray) (r : List ByteArray) (w : World) (hr0 : Kd.C Kd.string w A0 l0.length l0) (hc0 : l0.length ≤ c0) (h : laws_toStringS.f k l0 = some r) :
  Calls Try.prog 90 #[.slice A0 l0.length c0] w fun e w' => ∃ v0_ : Value, e = .returned (v0_) ∧ Kd.R Kd.string 9 w' w.heap.size (fun _ => True) v0_ r ∧ Below w.heap.size w w' := by
 have HR0 := zA hr0
 have HC0 := zA hc0
 clear hr0 hc0
 have HB := zA (zZ w.heap.size w)
 have H : (if 0 ≤ (l0.length : Int) then (if ((l0.length : Int) : Int).toNat ≤ 17592186044416 then (laws_toStringS.l0 k l0 (List.replicate ((l0.length : Int) : Int).toNat (⟨#[]⟩ : ByteArray)) 0) else (none)) else (none)) = some r := h
 clear h
 by_cases c2 : 0 ≤ (l0.length : Int)
 ·rw [if_pos c2] at H
  have c2b0 := eq_true c2
  have c2b1 : decide (0 ≤ (l0.length : Int)) = true := zJ c2
  clear c2
  by_cases c3 : ((l0.length : Int) : Int).toNat ≤ 17592186044416
  ·rw [if_pos c3] at H
   have c3b0 := eq_true c3
   have c3b1 : decide (((l0.length : Int) : Int).toNat ≤ 17592186044416) = true := zJ c3
   clear c3
   obtain ⟨y235, hy235⟩ : ∃ y_ : List ByteArray, y_ = (List.replicate ((l0.length : Int) : Int).toNat (⟨#[]⟩ : ByteArray)) := ⟨_, rfl⟩
   replace H : (laws_toStringS.l0 k l0 y235 0) = some r := wO hy235 H
   have Ny235 := zA hy235
   clear hy235
   have H' := zA H
   clear H
   go_enter Try.func90, Try.ntmps90
   go_wp2_with (first | ((with_reducible refine gate_dst (N := 7) rfl ?_); refine Kd.R_make Kd.string _ 9 rfl (N := 7) rfl 38 _ _ rfl (l0.length : Int) rfl rfl Try.underlying38 (.string ⟨#[]⟩) 16 info9 rfl (by decide) (by omega) (⟨#[]⟩ : ByteArray) (ok := fun _ => True) (okp := fun _ => True) rfl (fun _ hk => hk) trivial (zI wE) (yI (Nat.mul_le_mul_right _ (zI wE : (l0.length : Int).toNat ≤ 17592186044416)) (by omega)) (zZ _ _) (zY _) ?_; intro v236 w4 ho5 hb hg_ hnew_; clear hg_ hnew_; (first | rw [← Ny235.out] at ho5 | (simp only [Int.reduceToNat] at ho5; rw [← Ny235.out] at ho5)); have n0_ := zA (Kd.R_lower ho5 (zV wA)); have n1_ := zA (zU wA hb); clear HB; have HO237 := n0_; have HB := n1_; clear n0_ n1_; clear hb ho5))
   go_loopg [4] k (fun kq v4 w' => ∃ (x3_1 : List ByteArray) (x4_1 : Int), v4 = .int .i64 x4_1 ∧ Aside0 (laws_toStringS.l0 kq l0 x3_1 x4_1 = some r) ∧ Aside0 (kq ≤ k) ∧ Aside0 (Kd.R Kd.string 9 w' w.heap.size (fun _ => True) v236 x3_1) ∧ Aside0 (Below w.heap.size w w'))
   case atStart => exact ⟨(y235), (0), wF, H', ⟨zY _⟩, ⟨wK HO237.out⟩, ⟨wA⟩⟩
   case round =>
    clear H'
    try clear c2
    try clear c2b0
    try clear c2b1
    try clear p2
    try clear c3
    try clear c3b0
    try clear c3b1
    obtain ⟨x3_1, x4_1, rfl, HA, HK1, HO_3, HB⟩ := hrel
    cases gk with
    | zero => exact absurd HA.out (by simp [laws_toStringS.l0])
    | succ k1 =>
      have H := HA.out
      clear HA
      simp only [laws_toStringS.l0] at H
      by_cases c6 : x4_1 < (l0.length : Int)
      ·rw [if_pos c6] at H
       have c6b0 : decide (x4_1 < (l0.length : Int)) = true := zJ c6
       clear c6
       by_cases c7 : 0 ≤ x4_1
       ·rw [if_pos c7] at H
        have c7b0 : decide (0 ≤ x4_1) = true := zJ c7
        clear c7
        by_cases c8 : x4_1 < (x3_1.length : Int)
        ·rw [if_pos c8] at H
         have c8b0 : decide (x4_1 < (x3_1.length : Int)) = true := zJ c8
         clear c8
         obtain ⟨y239, hy239⟩ : ∃ y_ : List ByteArray, y_ = (x3_1.set (x4_1 : Int).toNat (rdOf ByteArray.empty l0 x4_1)) := ⟨_, rfl⟩
         replace H : (laws_toStringS.l0 k1 l0 y239 (wrap64 (x4_1 + 1))) = some r := wO hy239 H
         have Ny239 := zA hy239
         clear hy239
         have H' := zA H
         clear H
         have p238 : 0 ≤ (x4_1 : Int) := zI wE
         have q238 : x4_1 < (l0.length : Int) := zI wE
         obtain ⟨ad238, e238, hx238_0⟩ := Kd.at_string HR0.out x4_1 p238 q238
         cases e238
         replace hx238_0 := (HB.out.cell (zM w _ hx238_0)).trans hx238_0
         replace p238 := eq_true p238
         replace q238 := eq_true q238
         have p9 : 0 ≤ (x4_1 : Int) := zI wE
         have q9 : (x4_1 : Int) < ((x3_1.length : Int) : Int) := zI wE
         obtain ⟨go9, co9, eo9, gb9, gl9, cl9, HG9⟩ := Kd.R_form HO_3.out (by omega)
         (first | cases eo9 | (injection eo9 with ea_ en_ ec_; (first | subst ea_ | (injection ea_ with ea_; subst ea_)); subst ec_; clear en_))
         have GB9 := zA gb9
         have GG9 := zA HG9
         clear gb9 gl9 HG9
         obtain ⟨hx9_0, hf9_0⟩ := Kd.R_celln (⟨#[]⟩ : ByteArray) HO_3.out (x4_1 : Int) p9 q9
         replace p9 := eq_true p9
         replace q9 := eq_true q9
         have HP10 := Kd.R_putg HO_3.out (x4_1 : Int) (rdOf ByteArray.empty l0 x4_1)
         go_wp2_with (first | ((with_reducible refine gate_store (t := 9) (p := 20) rfl ?_); refine store_event (t := 9) (p := 20) (v := ?vo_w11) (w1 := (wr.setCell ⟨go9, (x4_1 : Int).toNat, none⟩ (.string (rdOf ByteArray.empty l0 x4_1)))) ?hg ?ho ?hn ?hr ?_; (case ho => rfl); (case hg => rfl); (case hn => rfl); (case hr => first | (go_simp; done) | (go_simp; rfl)); intro w11 hw; have hg : wr.grownBy w11 (some go9) := (by rw [hw]; exact HP10.2); have hp_ : Kd.R Kd.string 9 w11 w.heap.size (fun _ => True) (.slice (some ⟨go9, 0, none⟩) x3_1.length co9) y239 := (by rw [hw, Ny239.out]; exact HP10.1); clear HP10; have n0_ := zA (hp_); have n1_ := zA ((by rw [hw]; exact below_set (HB.out) GB9.out : Below w.heap.size w w11)); clear HO_3; clear HB; have HO_3 := n0_; have HB := n1_; clear n0_ n1_; clear hg hw hp_))
         go_roundg k1
         case measure => have := HK1.out; omega
         case rel => exact ⟨(y239), (wrap64 (x4_1 + 1)), wF, H', ⟨by have := HK1.out; omega⟩, ⟨wK HO_3.out⟩, ⟨wA⟩⟩
        ·rw [if_neg c8] at H
         exact absurd H (by simp)
       ·rw [if_neg c7] at H
        exact absurd H (by simp)
      ·rw [if_neg c6] at H
       have c6b0 : decide (x4_1 < (l0.length : Int)) = false := zK c6
       clear c6
       obtain rfl := zL H
       go_wp2
       go_ret
       exact ⟨_, wG, wK HO_3.out, wA⟩
  ·rw [if_neg c3] at H
   exact absurd H (by simp)
 ·rw [if_neg c2] at H
  exact absurd H (by simp)

/-! ### laws_toInt64S: function 91 -/
def laws_toInt64S.l0 : Nat → List Int → List Int → Int → Option (List Int)
 | 0, _, _, _ => none
 | k + 1, x0, x3, x4 => if x4 < (x0.length : Int) then (if 0 ≤ x4 then (if x4 < (x3.length : Int) then (laws_toInt64S.l0 k x0 (x3.set (x4 : Int).toNat (rd x0 x4)) (wrap64 (x4 + 1))) else (none)) else (none)) else (some x3)
def laws_toInt64S.f (k : Nat) (l0 : List Int) : Option (List Int) := if 0 ≤ (l0.length : Int) then (if ((l0.length : Int) : Int).toNat ≤ 35184372088832 then (laws_toInt64S.l0 k l0 (List.replicate ((l0.length : Int) : Int).toNat 0) 0) else (none)) else (none)
set_option maxHeartbeats 8000000 in
set_option maxRecDepth 100000 in
theorem laws_toInt64S.calls (k : Nat) (A0 : Option Addr) (c0 : Nat) (l0 : List Int) (r : List Int) (w : World) (hr0 : Kd.C (Kd.int .i64) w A0 l0.length l0) (hc0 : l0.length ≤ c0) (h : laws_toInt64S.f k l0 = some r) :
  Calls Try.prog 91 #[.slice A0 l0.length c0] w fun e w' => ∃ v0_ : Value, e = .returned (v0_) ∧ Kd.R (Kd.int .i64) 2 w' w.heap.size (fun _ => True) v0_ r ∧ Below w.heap.size w w' := by
 have HR0 := zA hr0
 have HC0 := zA hc0
 clear hr0 hc0
 have HB := zA (zZ w.heap.size w)
 have H : (if 0 ≤ (l0.length : Int) then (if ((l0.length : Int) : Int).toNat ≤ 35184372088832 then (laws_toInt64S.l0 k l0 (List.replicate ((l0.length : Int) : Int).toNat 0) 0) else (none)) else (none)) = some r := h
 clear h
 by_cases c2 : 0 ≤ (l0.length : Int)
 ·rw [if_pos c2] at H
  have c2b0 := eq_true c2
  have c2b1 : decide (0 ≤ (l0.length : Int)) = true := zJ c2
  clear c2
  by_cases c3 : ((l0.length : Int) : Int).toNat ≤ 35184372088832
  ·rw [if_pos c3] at H
   have c3b0 := eq_true c3
   have c3b1 : decide (((l0.length : Int) : Int).toNat ≤ 35184372088832) = true := zJ c3
   clear c3
   obtain ⟨y240, hy240⟩ : ∃ y_ : List Int, y_ = (List.replicate ((l0.length : Int) : Int).toNat 0) := ⟨_, rfl⟩
   replace H : (laws_toInt64S.l0 k l0 y240 0) = some r := wO hy240 H
   have Ny240 := zA hy240
   clear hy240
   have H' := zA H
   clear H
   go_enter Try.func91, Try.ntmps91
   go_wp2_with (first | ((with_reducible refine gate_dst (N := 7) rfl ?_); refine Kd.R_make (Kd.int .i64) _ 2 rfl (N := 7) rfl 88 _ _ rfl (l0.length : Int) rfl rfl Try.underlying88 (.int .i64 0) 8 info2 rfl (by decide) (by omega) 0 (ok := fun _ => True) (okp := fun _ => True) rfl (fun _ hk => hk) trivial (zI wE) (yI (Nat.mul_le_mul_right _ (zI wE : (l0.length : Int).toNat ≤ 35184372088832)) (by omega)) (zZ _ _) (zY _) ?_; intro v241 w4 ho5 hb hg_ hnew_; clear hg_ hnew_; (first | rw [← Ny240.out] at ho5 | (simp only [Int.reduceToNat] at ho5; rw [← Ny240.out] at ho5)); have n0_ := zA (Kd.R_lower ho5 (zV wA)); have n1_ := zA (zU wA hb); clear HB; have HO242 := n0_; have HB := n1_; clear n0_ n1_; clear hb ho5))
   go_loopg [4] k (fun kq v4 w' => ∃ (x3_1 : List Int) (x4_1 : Int), v4 = .int .i64 x4_1 ∧ Aside0 (laws_toInt64S.l0 kq l0 x3_1 x4_1 = some r) ∧ Aside0 (kq ≤ k) ∧ Aside0 (Kd.R (Kd.int .i64) 2 w' w.heap.size (fun _ => True) v241 x3_1) ∧ Aside0 (Below w.heap.size w w'))
   case atStart => exact ⟨(y240), (0), wF, H', ⟨zY _⟩, ⟨wK HO242.out⟩, ⟨wA⟩⟩
   case round =>
    clear H'
    try clear c2
    try clear c2b0
    try clear c2b1
    try clear p2
    try clear c3
    try clear c3b0
    try clear c3b1
    obtain ⟨x3_1, x4_1, rfl, HA, HK1, HO_3, HB⟩ := hrel
    cases gk with
    | zero => exact absurd HA.out (by simp [laws_toInt64S.l0])
    | succ k1 =>
      have H := HA.out
      clear HA
      simp only [laws_toInt64S.l0] at H
      by_cases c6 : x4_1 < (l0.length : Int)
      ·rw [if_pos c6] at H
       have c6b0 : decide (x4_1 < (l0.length : Int)) = true := zJ c6
       clear c6
       by_cases c7 : 0 ≤ x4_1
       ·rw [if_pos c7] at H
        have c7b0 : decide (0 ≤ x4_1) = true := zJ c7
        clear c7
        by_cases c8 : x4_1 < (x3_1.length : Int)
        ·rw [if_pos c8] at H
         have c8b0 : decide (x4_1 < (x3_1.length : Int)) = true := zJ c8
         clear c8
         obtain ⟨y244, hy244⟩ : ∃ y_ : List Int, y_ = (x3_1.set (x4_1 : Int).toNat (rd l0 x4_1)) := ⟨_, rfl⟩
         replace H : (laws_toInt64S.l0 k1 l0 y244 (wrap64 (x4_1 + 1))) = some r := wO hy244 H
         have Ny244 := zA hy244
         clear hy244
         have H' := zA H
         clear H
         have p243 : 0 ≤ (x4_1 : Int) := zI wE
         have q243 : x4_1 < (l0.length : Int) := zI wE
         obtain ⟨ad243, e243, hx243_0⟩ := Kd.at_int HR0.out x4_1 p243 q243
         cases e243
         replace hx243_0 := (HB.out.cell (zM w _ hx243_0)).trans hx243_0
         replace p243 := eq_true p243
         replace q243 := eq_true q243
         have p9 : 0 ≤ (x4_1 : Int) := zI wE
         have q9 : (x4_1 : Int) < ((x3_1.length : Int) : Int) := zI wE
         obtain ⟨go9, co9, eo9, gb9, gl9, cl9, HG9⟩ := Kd.R_form HO_3.out (by omega)
         (first | cases eo9 | (injection eo9 with ea_ en_ ec_; (first | subst ea_ | (injection ea_ with ea_; subst ea_)); subst ec_; clear en_))
         have GB9 := zA gb9
         have GG9 := zA HG9
         clear gb9 gl9 HG9
         obtain ⟨hx9_0, hf9_0⟩ := Kd.R_celln 0 HO_3.out (x4_1 : Int) p9 q9
         replace p9 := eq_true p9
         replace q9 := eq_true q9
         have HP10 := Kd.R_putg HO_3.out (x4_1 : Int) (rd l0 x4_1)
         go_wp2_with (first | ((with_reducible refine gate_store (t := 2) (p := 20) rfl ?_); refine store_event (t := 2) (p := 20) (v := ?vo_w11) (w1 := (wr.setCell ⟨go9, (x4_1 : Int).toNat, none⟩ (.int .i64 (rd l0 x4_1)))) ?hg ?ho ?hn ?hr ?_; (case ho => rfl); (case hg => rfl); (case hn => rfl); (case hr => first | (go_simp; done) | (go_simp; rfl)); intro w11 hw; have hg : wr.grownBy w11 (some go9) := (by rw [hw]; exact HP10.2); have hp_ : Kd.R (Kd.int .i64) 2 w11 w.heap.size (fun _ => True) (.slice (some ⟨go9, 0, none⟩) x3_1.length co9) y244 := (by rw [hw, Ny244.out]; exact HP10.1); clear HP10; have n0_ := zA (hp_); have n1_ := zA ((by rw [hw]; exact below_set (HB.out) GB9.out : Below w.heap.size w w11)); clear HO_3; clear HB; have HO_3 := n0_; have HB := n1_; clear n0_ n1_; clear hg hw hp_))
         go_roundg k1
         case measure => have := HK1.out; omega
         case rel => exact ⟨(y244), (wrap64 (x4_1 + 1)), wF, H', ⟨by have := HK1.out; omega⟩, ⟨wK HO_3.out⟩, ⟨wA⟩⟩
        ·rw [if_neg c8] at H
         exact absurd H (by simp)
       ·rw [if_neg c7] at H
        exact absurd H (by simp)
      ·rw [if_neg c6] at H
       have c6b0 : decide (x4_1 < (l0.length : Int)) = false := zK c6
       clear c6
       obtain rfl := zL H
       go_wp2
       go_ret
       exact ⟨_, wG, wK HO_3.out, wA⟩
  ·rw [if_neg c3] at H
   exact absurd H (by simp)
 ·rw [if_neg c2] at H
  exact absurd H (by simp)

/-! ### laws_toTNode: function 69 -/
def laws_toTNode.f (k : Nat) (a0_0 : Bool) (l0_1 : List ByteArray) (l0_2 : List Int) (a0_3 : Int) : Option (Bool × List ByteArray × List Int × Int) := (laws_toStringS.f k l0_1).bind fun t248 => ((laws_toInt64S.f k l0_2).bind fun t251 => (some (a0_0, t248, t251, a0_3)))
set_option maxHeartbeats 8000000 in
set_option maxRecDepth 100000 in
theorem laws_toTNode.calls (k : Nat) (a0_0 : Bool) (A0_1 : Option Addr) (c0_1 : Nat) (l0_1 : List ByteArray) (A0_2 : Option Addr) (c0_2 : Nat) (l0_2 : List Int) (a0_3 : Int) (r1 : Bool) (r2 : List ByteArray) (r3 : List Int) (r4 : Int) (w : World) (hr0_1 : Kd.C Kd.string w A0_1 l0_1.length l0_1) (hc0_1 : l0_1.length ≤ c0_1) (hr0_2 : Kd.C (Kd.int .i64) w A0_2 l0_2.length l0_2) (hc0_2 : l0_2.length ≤ c0_2) (h : laws_toTNode.f k a0_0 l0_1 l0_2 a0_3 = some (r1, r2, r3, r4)) :
  Calls Try.prog 69 #[.agg #[.bool a0_0, .slice A0_1 l0_1.length c0_1, .slice A0_2 l0_2.length c0_2, .int .i64 a0_3]] w fun e w' => ∃ v1_ v2_ : Value, e = .returned (.agg #[.bool r1, v1_, v2_, .int .i64 r4]) ∧ Kd.R Kd.string 9 w' w.heap.size (fun _ => True) v1_ r2 ∧ Kd.R (Kd.int .i64) 2 w' w.heap.size (fun _ => True) v2_ r3 ∧ Below w.heap.size w w' := by
 have hu98 := Try.underlying98
 have hu90 := Try.underlying90
 have HR0_1 := zA hr0_1
 have HC0_1 := zA hc0_1
 clear hr0_1 hc0_1
 have HR0_2 := zA hr0_2
 have HC0_2 := zA hc0_2
 clear hr0_2 hc0_2
 have HB := zA (zZ w.heap.size w)
 have H : ((laws_toStringS.f k l0_1).bind fun t248 => ((laws_toInt64S.f k l0_2).bind fun t251 => (some (a0_0, t248, t251, a0_3)))) = some (r1, r2, r3, r4) := h
 clear h
 replace H := Option.bind_eq_some_iff.mp H
 obtain ⟨t248, A20, H⟩ := H
 replace H : ((laws_toInt64S.f k l0_2).bind fun t251 => (some (a0_0, t248, t251, a0_3))) = some (r1, r2, r3, r4) := H
 have A2 := zA A20
 clear A20
 replace H := Option.bind_eq_some_iff.mp H
 obtain ⟨t251, A30, H⟩ := H
 replace H : (some (a0_0, t248, t251, a0_3)) = some (r1, r2, r3, r4) := H
 have A3 := zA A30
 clear A30
 simp only [Option.some.injEq, Prod.mk.injEq] at H
 obtain ⟨rfl, rfl, rfl, rfl⟩ := H
 go_enter Try.func69, Try.ntmps69
 go_wp2_with (first | ((with_reducible refine gate_dst (N := 1) rfl ?_); refine box_event ?hg (N := 1) ?hd (cs := #[.bool a0_0, .slice A0_1 l0_1.length c0_1, .slice A0_2 l0_2.length c0_2, .int .i64 a0_3]) (t := 98) ?hr ?_; (case hd => rfl); (case hg => rfl); (case hr => first | (go_simp; done) | (go_simp; rfl)); intro gb245 hg w4 hbox hb; have n0_ := zA (zU wA hb); have n1_ := zA (hbox); have n2_ := zA ((by rw [hg]; exact (zV wA) : w.heap.size ≤ gb245)); have n3_ := zA ((by rw [hg]; exact (zV wA) : w.heap.size ≤ gb245)); clear HB; have HB := n0_; have BK245 := n1_; have GW245 := n2_; have GE245 := n3_; clear n0_ n1_ n2_ n3_; clear hb hbox hg) | ((with_reducible refine gate_dst (N := 2) rfl ?_); refine box_event ?hg (N := 2) ?hd (cs := #[.bool false, .slice none 0 0, .slice none 0 0, .int .i64 0]) (t := 90) ?hr ?_; (case hd => rfl); (case hg => rfl); (case hr => first | (go_simp; done) | (go_simp; rfl)); intro gb246 hg w5 hbox hb; have n0_ := zA (zH (g := gb245) (o := .cells #[.bool a0_0, .slice A0_1 l0_1.length c0_1, .slice A0_2 l0_2.length c0_2, .int .i64 a0_3] 98 (0, 0)) (wJ BK245.out) hb); have n1_ := zA (zU (wB GE245.out) hb); have n2_ := zA (hbox); have n3_ := zA ((by rw [hg]; exact (zV (wB GE245.out)) : w.heap.size ≤ gb246)); have n4_ := zA ((by rw [hg]; exact (zV (wB GE245.out)) : w.heap.size ≤ gb246)); have n5_ := zA ((by rw [hg]; exact Nat.ne_of_lt (blk_lt (g := gb245) (o := .cells #[.bool a0_0, .slice A0_1 l0_1.length c0_1, .slice A0_2 l0_2.length c0_2, .int .i64 a0_3] 98 (0, 0)) (wJ BK245.out)) : gb245 ≠ gb246)); have n6_ := zA ((by rw [hg]; exact Nat.ne_of_gt (blk_lt (g := gb245) (o := .cells #[.bool a0_0, .slice A0_1 l0_1.length c0_1, .slice A0_2 l0_2.length c0_2, .int .i64 a0_3] 98 (0, 0)) (wJ BK245.out)) : gb246 ≠ gb245)); clear BK245; clear HB; have BK245 := n0_; have HB := n1_; have BK246 := n2_; have GW246 := n3_; have GE246 := n4_; have NB245_246 := n5_; have NB246_245 := n6_; clear n0_ n1_ n2_ n3_ n4_ n5_ n6_; clear hb hbox hg) | ((with_reducible refine gate_dst (N := 3) rfl ?_); refine box_event ?hg (N := 3) ?hd (cs := #[.bool false, .slice none 0 0, .slice none 0 0, .int .i64 0]) (t := 90) ?hr ?_; (case hd => rfl); (case hg => rfl); (case hr => first | (go_simp; done) | (go_simp; rfl)); intro gb247 hg w6 hbox hb; have n0_ := zA (zH (g := gb245) (o := .cells #[.bool a0_0, .slice A0_1 l0_1.length c0_1, .slice A0_2 l0_2.length c0_2, .int .i64 a0_3] 98 (0, 0)) (wJ BK245.out) hb); have n1_ := zA (zH (g := gb246) (o := .cells #[.bool false, .slice none 0 0, .slice none 0 0, .int .i64 0] 90 (0, 0)) (wJ BK246.out) hb); have n2_ := zA (zU (wC GE245.out GE246.out) hb); have n3_ := zA (hbox); have n4_ := zA ((by rw [hg]; exact (zV (wC GE245.out GE246.out)) : w.heap.size ≤ gb247)); have n5_ := zA ((by rw [hg]; exact (zV (wC GE245.out GE246.out)) : w.heap.size ≤ gb247)); have n6_ := zA ((by rw [hg]; exact Nat.ne_of_lt (blk_lt (g := gb245) (o := .cells #[.bool a0_0, .slice A0_1 l0_1.length c0_1, .slice A0_2 l0_2.length c0_2, .int .i64 a0_3] 98 (0, 0)) (wJ BK245.out)) : gb245 ≠ gb247)); have n7_ := zA ((by rw [hg]; exact Nat.ne_of_gt (blk_lt (g := gb245) (o := .cells #[.bool a0_0, .slice A0_1 l0_1.length c0_1, .slice A0_2 l0_2.length c0_2, .int .i64 a0_3] 98 (0, 0)) (wJ BK245.out)) : gb247 ≠ gb245)); have n8_ := zA ((by rw [hg]; exact Nat.ne_of_lt (blk_lt (g := gb246) (o := .cells #[.bool false, .slice none 0 0, .slice none 0 0, .int .i64 0] 90 (0, 0)) (wJ BK246.out)) : gb246 ≠ gb247)); have n9_ := zA ((by rw [hg]; exact Nat.ne_of_gt (blk_lt (g := gb246) (o := .cells #[.bool false, .slice none 0 0, .slice none 0 0, .int .i64 0] 90 (0, 0)) (wJ BK246.out)) : gb247 ≠ gb246)); clear BK245; clear BK246; clear HB; have BK245 := n0_; have BK246 := n1_; have HB := n2_; have BK247 := n3_; have GW247 := n4_; have GE247 := n5_; have NB245_247 := n6_; have NB247_245 := n7_; have NB246_247 := n8_; have NB247_246 := n9_; clear n0_ n1_ n2_ n3_ n4_ n5_ n6_ n7_ n8_ n9_; clear hb hbox hg; have hnb7 := NB245_246.out; have hnc7 := NB246_245.out; have hnb8 := NB245_247.out; have hnc8 := NB247_245.out; have hcz9_0 : w6.cell? ⟨gb245, 0, none⟩ = some (.bool a0_0) := (blk_cell BK245.out 0).trans rfl; have hcz9_1 : w6.cell? ⟨gb245, 1, none⟩ = some (.slice A0_1 l0_1.length c0_1) := (blk_cell BK245.out 1).trans rfl; have hcz9_2 : w6.cell? ⟨gb245, 2, none⟩ = some (.slice A0_2 l0_2.length c0_2) := (blk_cell BK245.out 2).trans rfl; have hcz9_3 : w6.cell? ⟨gb245, 3, none⟩ = some (.int .i64 a0_3) := (blk_cell BK245.out 3).trans rfl; have hfz9_0 := zG BK245.out 0; have hfz9_1 := zG BK245.out 1; have hfz9_2 := zG BK245.out 2; have hfz9_3 := zG BK245.out 3; have hnb10 := NB247_246.out; have hnc10 := NB246_247.out; have hcz11_0 : w6.cell? ⟨gb247, 0, none⟩ = some (.bool false) := (blk_cell BK247.out 0).trans rfl; have hcz11_1 : w6.cell? ⟨gb247, 1, none⟩ = some (.slice none 0 0) := (blk_cell BK247.out 1).trans rfl; have hcz11_2 : w6.cell? ⟨gb247, 2, none⟩ = some (.slice none 0 0) := (blk_cell BK247.out 2).trans rfl; have hcz11_3 : w6.cell? ⟨gb247, 3, none⟩ = some (.int .i64 0) := (blk_cell BK247.out 3).trans rfl; have hfz11_0 := zG BK247.out 0; have hfz11_1 := zG BK247.out 1; have hfz11_2 := zG BK247.out 2; have hfz11_3 := zG BK247.out 3) | ((with_reducible refine gate_callee (f := 90) rfl ?_); refine goesL_ (some 9) rfl rfl Try.func90 (by kernel_rfl) rfl #[.slice A0_1 l0_1.length c0_1] rfl wH ?_; (with_reducible refine (laws_toStringS.calls k _ _ l0_1 t248 _ ?side1 ?side2 A2.out).mono ?_); (case side1 => exact zQ HR0_1.out (wD GE245.out GE246.out GE247.out)); (case side2 => exact HC0_1.out); rintro e w12 ⟨v249, rfl, ho0, hb⟩; refine ⟨_, rfl, ?_⟩; have n0_ := zA (Kd.R_lower ho0 (zV (wD GE245.out GE246.out GE247.out))); have n1_ := zA (zH (g := gb245) (o := .cells #[.bool a0_0, .slice A0_1 l0_1.length c0_1, .slice A0_2 l0_2.length c0_2, .int .i64 a0_3] 98 (0, 0)) (by (with_reducible repeat (first | refine zD ?_ _ | refine zE ?_ | refine zF ?_ _)); refine blk_far ?_ NB245_247.out _; (with_reducible repeat (first | refine zD ?_ _ | refine zE ?_ | refine zF ?_ _)); exact BK245.out) hb); have n2_ := zA (zH (g := gb246) (o := .cells #[.bool false, .slice none 0 0, .slice none 0 0, .int .i64 0] 90 (0, 0)) (by (with_reducible repeat (first | refine zD ?_ _ | refine zE ?_ | refine zF ?_ _)); refine blk_far ?_ NB246_247.out _; (with_reducible repeat (first | refine zD ?_ _ | refine zE ?_ | refine zF ?_ _)); exact BK246.out) hb); have n3_ := zA (zH (g := gb247) (o := .cells #[.bool a0_0, .slice none 0 0, .slice none 0 0, .int .i64 0] 90 (0, 0)) (by (with_reducible repeat (first | refine zD ?_ _ | refine zE ?_ | refine zF ?_ _)); refine blk_put (cs := #[.bool false, .slice none 0 0, .slice none 0 0, .int .i64 0]) ?_ 0 _ rfl; (with_reducible repeat (first | refine zD ?_ _ | refine zE ?_ | refine zF ?_ _)); exact BK247.out) hb); have n4_ := zA (zU (wD GE245.out GE246.out GE247.out) hb); clear BK245; clear BK246; clear BK247; clear HB; have HO250 := n0_; have BK245 := n1_; have BK246 := n2_; have BK247 := n3_; have HB := n4_; clear n0_ n1_ n2_ n3_ n4_; (try clear hb); (try clear hb2); (try clear hk); (try clear hi); (try clear ho0); obtain ⟨Ao13, co13, eo13⟩ := Kd.R_slice HO250.out; subst eo13; have hcz14_0 : w12.cell? ⟨gb247, 0, none⟩ = some (.bool a0_0) := (blk_cell BK247.out 0).trans rfl; have hcz14_1 : w12.cell? ⟨gb247, 1, none⟩ = some (.slice none 0 0) := (blk_cell BK247.out 1).trans rfl; have hcz14_2 : w12.cell? ⟨gb247, 2, none⟩ = some (.slice none 0 0) := (blk_cell BK247.out 2).trans rfl; have hcz14_3 : w12.cell? ⟨gb247, 3, none⟩ = some (.int .i64 0) := (blk_cell BK247.out 3).trans rfl; have hfz14_0 := zG BK247.out 0; have hfz14_1 := zG BK247.out 1; have hfz14_2 := zG BK247.out 2; have hfz14_3 := zG BK247.out 3; have hcz15_0 : w12.cell? ⟨gb245, 0, none⟩ = some (.bool a0_0) := (blk_cell BK245.out 0).trans rfl; have hcz15_1 : w12.cell? ⟨gb245, 1, none⟩ = some (.slice A0_1 l0_1.length c0_1) := (blk_cell BK245.out 1).trans rfl; have hcz15_2 : w12.cell? ⟨gb245, 2, none⟩ = some (.slice A0_2 l0_2.length c0_2) := (blk_cell BK245.out 2).trans rfl; have hcz15_3 : w12.cell? ⟨gb245, 3, none⟩ = some (.int .i64 a0_3) := (blk_cell BK245.out 3).trans rfl; have hfz15_0 := zG BK245.out 0; have hfz15_1 := zG BK245.out 1; have hfz15_2 := zG BK245.out 2; have hfz15_3 := zG BK245.out 3) | ((with_reducible refine gate_callee (f := 91) rfl ?_); refine goesL_ (some 13) rfl rfl Try.func91 (by kernel_rfl) rfl #[.slice A0_2 l0_2.length c0_2] rfl wH ?_; (with_reducible refine (laws_toInt64S.calls k _ _ l0_2 t251 _ ?side1 ?side2 A3.out).mono ?_); (case side1 => exact zQ HR0_2.out (wD GE245.out GE246.out GE247.out)); (case side2 => exact HC0_2.out); rintro e w16 ⟨v252, rfl, ho0, hb⟩; refine ⟨_, rfl, ?_⟩; have n0_ := zA (Kd.R_below (by (with_reducible repeat (first | apply Kd.R_alloc | apply Kd.R_drewN | apply Kd.R_drew)); exact (yA (Kd.R_far (p := ⟨gb247, 1, none⟩) (Kd.R_types HO250.out BK247.out (by decide)) (fun _ hk => hk.2) (.slice Ao13 t248.length co13)) (fun _ h_ => h_.1))) hb); have n1_ := zA (Kd.R_lower ho0 (zV (wD GE245.out GE246.out GE247.out))); have n2_ := zA (zH (g := gb245) (o := .cells #[.bool a0_0, .slice A0_1 l0_1.length c0_1, .slice A0_2 l0_2.length c0_2, .int .i64 a0_3] 98 (0, 0)) (by (with_reducible repeat (first | refine zD ?_ _ | refine zE ?_ | refine zF ?_ _)); refine blk_far ?_ NB245_247.out _; (with_reducible repeat (first | refine zD ?_ _ | refine zE ?_ | refine zF ?_ _)); exact BK245.out) hb); have n3_ := zA (zH (g := gb246) (o := .cells #[.bool false, .slice none 0 0, .slice none 0 0, .int .i64 0] 90 (0, 0)) (by (with_reducible repeat (first | refine zD ?_ _ | refine zE ?_ | refine zF ?_ _)); refine blk_far ?_ NB246_247.out _; (with_reducible repeat (first | refine zD ?_ _ | refine zE ?_ | refine zF ?_ _)); exact BK246.out) hb); have n4_ := zA (zH (g := gb247) (o := .cells #[.bool a0_0, .slice Ao13 t248.length co13, .slice none 0 0, .int .i64 0] 90 (0, 0)) (by (with_reducible repeat (first | refine zD ?_ _ | refine zE ?_ | refine zF ?_ _)); refine blk_put (cs := #[.bool a0_0, .slice none 0 0, .slice none 0 0, .int .i64 0]) ?_ 1 _ rfl; (with_reducible repeat (first | refine zD ?_ _ | refine zE ?_ | refine zF ?_ _)); exact BK247.out) hb); have n5_ := zA (zU (wD GE245.out GE246.out GE247.out) hb); clear HO250; clear BK245; clear BK246; clear BK247; clear HB; have HO250 := n0_; have HO253 := n1_; have BK245 := n2_; have BK246 := n3_; have BK247 := n4_; have HB := n5_; clear n0_ n1_ n2_ n3_ n4_ n5_; (try clear hb); (try clear hb2); (try clear hk); (try clear hi); (try clear ho0); obtain ⟨Ao17, co17, eo17⟩ := Kd.R_slice HO253.out; subst eo17; have hcz18_0 : w16.cell? ⟨gb247, 0, none⟩ = some (.bool a0_0) := (blk_cell BK247.out 0).trans rfl; have hcz18_1 : w16.cell? ⟨gb247, 1, none⟩ = some (.slice Ao13 t248.length co13) := (blk_cell BK247.out 1).trans rfl; have hcz18_2 : w16.cell? ⟨gb247, 2, none⟩ = some (.slice none 0 0) := (blk_cell BK247.out 2).trans rfl; have hcz18_3 : w16.cell? ⟨gb247, 3, none⟩ = some (.int .i64 0) := (blk_cell BK247.out 3).trans rfl; have hfz18_0 := zG BK247.out 0; have hfz18_1 := zG BK247.out 1; have hfz18_2 := zG BK247.out 2; have hfz18_3 := zG BK247.out 3; have hcz19_0 : w16.cell? ⟨gb245, 0, none⟩ = some (.bool a0_0) := (blk_cell BK245.out 0).trans rfl; have hcz19_1 : w16.cell? ⟨gb245, 1, none⟩ = some (.slice A0_1 l0_1.length c0_1) := (blk_cell BK245.out 1).trans rfl; have hcz19_2 : w16.cell? ⟨gb245, 2, none⟩ = some (.slice A0_2 l0_2.length c0_2) := (blk_cell BK245.out 2).trans rfl; have hcz19_3 : w16.cell? ⟨gb245, 3, none⟩ = some (.int .i64 a0_3) := (blk_cell BK245.out 3).trans rfl; have hfz19_0 := zG BK245.out 0; have hfz19_1 := zG BK245.out 1; have hfz19_2 := zG BK245.out 2; have hfz19_3 := zG BK245.out 3; have hcz20_0 : w16.cell? ⟨gb246, 0, none⟩ = some (.bool false) := (blk_cell BK246.out 0).trans rfl; have hcz20_1 : w16.cell? ⟨gb246, 1, none⟩ = some (.slice none 0 0) := (blk_cell BK246.out 1).trans rfl; have hcz20_2 : w16.cell? ⟨gb246, 2, none⟩ = some (.slice none 0 0) := (blk_cell BK246.out 2).trans rfl; have hcz20_3 : w16.cell? ⟨gb246, 3, none⟩ = some (.int .i64 0) := (blk_cell BK246.out 3).trans rfl; have hfz20_0 := zG BK246.out 0; have hfz20_1 := zG BK246.out 1; have hfz20_2 := zG BK246.out 2; have hfz20_3 := zG BK246.out 3))
 refine bodyPost_ret (yK rfl _ _ gb246 90 #[.bool a0_0, .slice Ao13 t248.length co13, .slice Ao17 t251.length co17, .int .i64 a0_3] (0, 0) _ rfl (by (with_reducible repeat (first | refine zD ?_ _ | refine zE ?_ | refine zF ?_ _)); refine blk_put (cs := #[.bool a0_0, .slice Ao13 t248.length co13, .slice Ao17 t251.length co17, .int .i64 0]) ?_ 3 _ rfl; (with_reducible repeat (first | refine zD ?_ _ | refine zE ?_ | refine zF ?_ _)); refine blk_put (cs := #[.bool a0_0, .slice Ao13 t248.length co13, .slice none 0 0, .int .i64 0]) ?_ 2 _ rfl; (with_reducible repeat (first | refine zD ?_ _ | refine zE ?_ | refine zF ?_ _)); refine blk_put (cs := #[.bool a0_0, .slice none 0 0, .slice none 0 0, .int .i64 0]) ?_ 1 _ rfl; (with_reducible repeat (first | refine zD ?_ _ | refine zE ?_ | refine zF ?_ _)); refine blk_put (cs := #[.bool false, .slice none 0 0, .slice none 0 0, .int .i64 0]) ?_ 0 _ rfl; (with_reducible repeat (first | refine zD ?_ _ | refine zE ?_ | refine zF ?_ _)); refine blk_far ?_ NB246_247.out _; (with_reducible repeat (first | refine zD ?_ _ | refine zE ?_ | refine zF ?_ _)); refine blk_far ?_ NB246_247.out _; (with_reducible repeat (first | refine zD ?_ _ | refine zE ?_ | refine zF ?_ _)); exact BK246.out) Try.underlying90 rfl (by kernel_rfl)) rfl ?_
 exact ⟨_, _, wG, by (with_reducible repeat (first | apply Kd.R_alloc | apply Kd.R_drewN | apply Kd.R_drew)); exact yA (Kd.R_far (p := ⟨gb246, 3, none⟩) (Kd.R_far (p := ⟨gb246, 2, none⟩) (Kd.R_far (p := ⟨gb246, 1, none⟩) (Kd.R_far (p := ⟨gb246, 0, none⟩) (Kd.R_far (p := ⟨gb247, 3, none⟩) (Kd.R_far (p := ⟨gb247, 2, none⟩) (Kd.R_types (Kd.R_types HO250.out BK247.out (by decide)) BK246.out (by decide)) (fun _ hk => hk.1.2) (.slice Ao17 t251.length co17)) (fun _ hk => hk.1.2) (.int .i64 a0_3)) (fun _ hk => hk.2) (.bool a0_0)) (fun _ hk => hk.2) (.slice Ao13 t248.length co13)) (fun _ hk => hk.2) (.slice Ao17 t251.length co17)) (fun _ hk => hk.2) (.int .i64 a0_3)) (fun _ hk => trivial), by (with_reducible repeat (first | apply Kd.R_alloc | apply Kd.R_drewN | apply Kd.R_drew)); exact yA (Kd.R_far (p := ⟨gb246, 3, none⟩) (Kd.R_far (p := ⟨gb246, 2, none⟩) (Kd.R_far (p := ⟨gb246, 1, none⟩) (Kd.R_far (p := ⟨gb246, 0, none⟩) (Kd.R_far (p := ⟨gb247, 3, none⟩) (Kd.R_far (p := ⟨gb247, 2, none⟩) (Kd.R_types (Kd.R_types HO253.out BK247.out (by decide)) BK246.out (by decide)) (fun _ hk => hk.1.2) (.slice Ao17 t251.length co17)) (fun _ hk => hk.1.2) (.int .i64 a0_3)) (fun _ hk => hk.2) (.bool a0_0)) (fun _ hk => hk.2) (.slice Ao13 t248.length co13)) (fun _ hk => hk.2) (.slice Ao17 t251.length co17)) (fun _ hk => hk.2) (.int .i64 a0_3)) (fun _ hk => trivial), wD GE245.out GE246.out GE247.out⟩

/-! ### laws_toTNodeS: function 45 -/
def laws_toTNodeS.l0 : Nat → List (S98) → List (S90) → Int → Option ((List (S90)))
 | 0, _, _, _ => none
 | k + 1, x0, x3, x4 => if x4 < (x0.length : Int) then (if 0 ≤ x4 then ((laws_toTNode.f k ((rd_T98 x0 x4).f0) ((rd_T98 x0 x4).f1) ((rd_T98 x0 x4).f2) ((rd_T98 x0 x4).f3)).bind fun bt258 => (if x4 < (x3.length : Int) then (laws_toTNodeS.l0 k x0 (x3.set (x4 : Int).toNat (⟨bt258.1, bt258.2.1, bt258.2.2.1, bt258.2.2.2⟩ : S90)) (wrap64 (x4 + 1))) else (none))) else (none)) else (some x3)
def laws_toTNodeS.f (k : Nat) (l0 : List (S98)) : Option ((List (S90))) := if 0 ≤ (l0.length : Int) then (if ((l0.length : Int) : Int).toNat ≤ 4398046511104 then (laws_toTNodeS.l0 k l0 (List.replicate ((l0.length : Int) : Int).toNat z90) 0) else (none)) else (none)
set_option maxHeartbeats 8000000 in
set_option maxRecDepth 100000 in
theorem laws_toTNodeS.calls (k : Nat) (A0 : Option Addr) (c0 : Nat) (l0 : List (S98)) (r : List (S90)) (w : World) (hr0 : Kd.C k98 w A0 l0.length l0) (hc0 : l0.length ≤ c0) (h : laws_toTNodeS.f k l0 = some r) :
  Calls Try.prog 45 #[.slice A0 l0.length c0] w fun e w' => ∃ v0_ : Value, e = .returned (v0_) ∧ Kd.S k90 90 w' w.heap.size (fun _ => True) v0_ r ∧ Below w.heap.size w w' := by
 have hu98 := Try.underlying98
 have hu90 := Try.underlying90
 have HR0 := zA hr0
 have HC0 := zA hc0
 clear hr0 hc0
 have HB := zA (zZ w.heap.size w)
 have H : (if 0 ≤ (l0.length : Int) then (if ((l0.length : Int) : Int).toNat ≤ 4398046511104 then (laws_toTNodeS.l0 k l0 (List.replicate ((l0.length : Int) : Int).toNat z90) 0) else (none)) else (none)) = some r := h
 clear h
 by_cases c2 : 0 ≤ (l0.length : Int)
 ·rw [if_pos c2] at H
  have c2b0 := eq_true c2
  have c2b1 : decide (0 ≤ (l0.length : Int)) = true := zJ c2
  clear c2
  by_cases c3 : ((l0.length : Int) : Int).toNat ≤ 4398046511104
  ·rw [if_pos c3] at H
   have c3b0 := eq_true c3
   have c3b1 : decide (((l0.length : Int) : Int).toNat ≤ 4398046511104) = true := zJ c3
   clear c3
   obtain ⟨y254, hy254⟩ : ∃ y_ : List (S90), y_ = (List.replicate ((l0.length : Int) : Int).toNat z90) := ⟨_, rfl⟩
   replace H : (laws_toTNodeS.l0 k l0 y254 0) = some r := wO hy254 H
   have Ny254 := zA hy254
   clear hy254
   have H' := zA H
   clear H
   go_enter Try.func45, Try.ntmps45
   go_wp2_with (first | ((with_reducible refine gate_dst (N := 7) rfl ?_); refine Kd.S_make k90 _ 90 rfl (N := 7) rfl 22 _ _ rfl (l0.length : Int) rfl rfl Try.underlying22 (.agg #[(.bool false), (.slice none 0 0), (.slice none 0 0), (.int .i64 0)]) 64 info90 rfl (by decide) (by omega) z90 (ok := fun _ => True) (okp := fun _ => True) (k90_mkM _ _ _ z90 (Kd.R_nil _ _ _ _ _) (Kd.R_nil _ _ _ _ _)) (fun _ hk => hk) trivial (zI wE) (yI (Nat.mul_le_mul_right _ (zI wE : (l0.length : Int).toNat ≤ 4398046511104)) (by omega)) (zZ _ _) (zY _) ?_; intro v255 w4 ho5 hb hg_ hnew_; clear hg_ hnew_; (first | rw [← Ny254.out] at ho5 | (simp only [Int.reduceToNat] at ho5; rw [← Ny254.out] at ho5)); have n0_ := zA (Kd.S_lower ho5 (zV wA)); have n1_ := zA (zU wA hb); clear HB; have HO256 := n0_; have HB := n1_; clear n0_ n1_; clear hb ho5))
   go_loopg [4] k (fun kq v4 w' => ∃ (x3_1 : List (S90)) (x4_1 : Int), v4 = .int .i64 x4_1 ∧ Aside0 (laws_toTNodeS.l0 kq l0 x3_1 x4_1 = some r) ∧ Aside0 (kq ≤ k) ∧ Aside0 (Kd.S k90 90 w' w.heap.size (fun _ => True) v255 x3_1) ∧ Aside0 (Below w.heap.size w w'))
   case atStart => exact ⟨(y254), (0), wF, H', ⟨zY _⟩, ⟨wM HO256.out⟩, ⟨wA⟩⟩
   case round =>
    clear H'
    try clear c2
    try clear c2b0
    try clear c2b1
    try clear p2
    try clear c3
    try clear c3b0
    try clear c3b1
    try clear c4
    obtain ⟨x3_1, x4_1, rfl, HA, HK1, HO_3, HB⟩ := hrel
    cases gk with
    | zero => exact absurd HA.out (by simp [laws_toTNodeS.l0])
    | succ k1 =>
      have H := HA.out
      clear HA
      simp only [laws_toTNodeS.l0] at H
      by_cases c6 : x4_1 < (l0.length : Int)
      ·rw [if_pos c6] at H
       have c6b0 : decide (x4_1 < (l0.length : Int)) = true := zJ c6
       clear c6
       by_cases c7 : 0 ≤ x4_1
       ·rw [if_pos c7] at H
        have c7b0 : decide (0 ≤ x4_1) = true := zJ c7
        clear c7
        replace H := Option.bind_eq_some_iff.mp H
        obtain ⟨⟨t258, t259, t262, t265⟩, A80, H⟩ := H
        replace H : (if x4_1 < (x3_1.length : Int) then (laws_toTNodeS.l0 k1 l0 (x3_1.set (x4_1 : Int).toNat (⟨t258, t259, t262, t265⟩ : S90)) (wrap64 (x4_1 + 1))) else (none)) = some r := H
        have A8 := zA A80
        clear A80
        by_cases c9 : x4_1 < (x3_1.length : Int)
        ·rw [if_pos c9] at H
         have c9b0 : decide (x4_1 < (x3_1.length : Int)) = true := zJ c9
         clear c9
         obtain ⟨y266, hy266⟩ : ∃ y_ : List (S90), y_ = (x3_1.set (x4_1 : Int).toNat (⟨t258, t259, t262, t265⟩ : S90)) := ⟨_, rfl⟩
         replace H : (laws_toTNodeS.l0 k1 l0 y266 (wrap64 (x4_1 + 1))) = some r := wO hy266 H
         have Ny266 := zA hy266
         clear hy266
         have H' := zA H
         clear H
         have p257 : 0 ≤ (x4_1 : Int) := zI wE
         have q257 : x4_1 < (l0.length : Int) := zI wE
         obtain ⟨ad257, A257_1, c257_1, A257_2, c257_2, e257, hx257_0, hx257_1, hx257_2, hx257_3, hl257_1, hi257_1, hl257_2, hi257_2⟩ := at_T98 HR0.out x4_1 p257 q257
         cases e257
         replace hx257_0 := (HB.out.cell (zM w _ hx257_0)).trans hx257_0
         replace hx257_1 := (HB.out.cell (zM w _ hx257_1)).trans hx257_1
         replace hx257_2 := (HB.out.cell (zM w _ hx257_2)).trans hx257_2
         replace hx257_3 := (HB.out.cell (zM w _ hx257_3)).trans hx257_3
         have HR257_1 := zA hi257_1
         have HC257_1 := zA hl257_1
         clear hi257_1 hl257_1
         have HR257_2 := zA hi257_2
         have HC257_2 := zA hl257_2
         clear hi257_2 hl257_2
         replace p257 := eq_true p257
         replace q257 := eq_true q257
         go_wp2_with (first | ((with_reducible refine gate_callee (f := 69) rfl ?_); refine goesL_ (some 20) rfl rfl Try.func69 (by kernel_rfl) rfl #[.agg #[.bool ((rd_T98 l0 x4_1).f0), .slice A257_1 ((rd_T98 l0 x4_1).f1).length c257_1, .slice A257_2 ((rd_T98 l0 x4_1).f2).length c257_2, .int .i64 ((rd_T98 l0 x4_1).f3)]] rfl wH ?_; (with_reducible refine (laws_toTNode.calls k1 ((rd_T98 l0 x4_1).f0) _ _ ((rd_T98 l0 x4_1).f1) _ _ ((rd_T98 l0 x4_1).f2) ((rd_T98 l0 x4_1).f3) t258 t259 t262 t265 _ ?side1 ?side2 ?side3 ?side4 A8.out).mono ?_); (case side1 => repeat (first | exact (zQ HR257_1.out HB.out) | (with_reducible refine zR ?_ _) | (with_reducible refine zS ?_ _) | (with_reducible refine zT ?_))); (case side2 => exact HC257_1.out); (case side3 => repeat (first | exact (zQ HR257_2.out HB.out) | (with_reducible refine zR ?_ _) | (with_reducible refine zS ?_ _) | (with_reducible refine zT ?_))); (case side4 => exact HC257_2.out); rintro e w11 ⟨v260, v263, rfl, ho0, ho1, hb⟩; refine ⟨_, rfl, ?_⟩; have n0_ := zA (yB (Kd.S_told (Kd.S_told (Kd.S_old (wM HO_3.out) hb) (Kd.R_base ho0)) (Kd.R_base ho1)) (fun _ h_ => h_.1)); have n1_ := zA (Kd.R_lower ho0 (zV wA)); have n2_ := zA (Kd.R_lower ho1 (zV wA)); have n3_ := zA (zU wA hb); clear HO_3; clear HB; have HO_3 := n0_; have HO261 := n1_; have HO264 := n2_; have HB := n3_; clear n0_ n1_ n2_ n3_; (try clear hb); (try clear hb2); (try clear hk); (try clear hi); (try clear ho0); (try clear ho1); have p10 : 0 ≤ (x4_1 : Int) := zI wE; have q10 : (x4_1 : Int) < ((x3_1.length : Int) : Int) := zI wE; obtain ⟨go10, co10, eo10, gb10, gl10, cl10, HG10⟩ := Kd.S_form HO_3.out (by omega); (first | cases eo10 | (injection eo10 with ea_ en_ ec_; (first | subst ea_ | (injection ea_ with ea_; subst ea_)); subst ec_; clear en_)); have GB10 := zA gb10; have GG10 := zA HG10; clear gb10 gl10 HG10; obtain ⟨_, ce10, hcl10, hM10, hcc10, hfr10, _, _⟩ := Kd.S_elem HO_3.out z90 (x4_1 : Int) p10 q10; obtain ⟨ve10_1, ve10_2, rfl, ge10_1, ge10_2⟩ := k90_openM hM10; have hx10_0 : w11.cell? ⟨go10, (x4_1 : Int).toNat * 4, none⟩ = some (.bool ((rd_T90 x3_1 x4_1).f0)) := hcc10 0 _ rfl; have hx10_1 : w11.cell? ⟨go10, (x4_1 : Int).toNat * 4 + 1, none⟩ = some (ve10_1) := hcc10 1 _ rfl; have hx10_2 : w11.cell? ⟨go10, (x4_1 : Int).toNat * 4 + 2, none⟩ = some (ve10_2) := hcc10 2 _ rfl; have hx10_3 : w11.cell? ⟨go10, (x4_1 : Int).toNat * 4 + 3, none⟩ = some (.int .i64 ((rd_T90 x3_1 x4_1).f3)) := hcc10 3 _ rfl; have hf10_0 : w11.frozen? ⟨go10, (x4_1 : Int).toNat * 4, none⟩ = false := hfr10 0; have hf10_1 : w11.frozen? ⟨go10, (x4_1 : Int).toNat * 4 + 1, none⟩ = false := hfr10 1; have hf10_2 : w11.frozen? ⟨go10, (x4_1 : Int).toNat * 4 + 2, none⟩ = false := hfr10 2; have hf10_3 : w11.frozen? ⟨go10, (x4_1 : Int).toNat * 4 + 3, none⟩ = false := hfr10 3; clear hcl10 hcc10 hfr10 hM10; replace p10 := eq_true p10; replace q10 := eq_true q10; have n_ := zA (yB (ok' := (fun k_ => some k_ ≠ (v260 : Value).ownBlock ∧ some k_ ≠ (v263 : Value).ownBlock)) HO_3.out (fun k_ hk => ⟨hk.1.2, hk.2⟩)); clear HO_3; have HO_3 := n_; clear n_; have HX12 := zA (show Kd.S k90 90 w11 w.heap.size (fun k_ => ((fun _ => True)) k_ ∧ ¬ ((fun k_ => some k_ = (v260 : Value).ownBlock ∨ some k_ = (v263 : Value).ownBlock)) k_) (.slice (some ⟨go10, 0, none⟩) x3_1.length co10) x3_1 from (by (with_reducible repeat (first | apply Kd.S_alloc | apply Kd.S_drewN | apply Kd.S_drew)); exact yB HO_3.out (fun k_ hk => ⟨trivial, fun e_ => e_.elim (fun h_ => hk.1 h_) (fun h_ => hk.2 h_)⟩))); obtain ⟨oki12, ce12, hcl12, hM12, hcc12, hfr12, hoki12, hH12⟩ := Kd.S_elem HX12.out z90 (x4_1 : Int) (zI wE) (by have h_ : (x4_1 : Int) < ((x3_1.length : Int) : Int) := zI wE; first | exact h_ | (have e_ := (Kd.S_reads' HO_3.out).1; omega) | simpa using h_); obtain ⟨ve12_1, ve12_2, rfl, ge12_1, ge12_2⟩ := k90_openM hM12; have HP12 := Kd.S_seg hH12 (zI wE) (by have h_ : (x4_1 : Int) < ((x3_1.length : Int) : Int) := zI wE; first | exact h_ | (have e_ := (Kd.S_reads' HO_3.out).1; omega) | simpa using h_) (seg := [.bool t258, v260, v263, .int .i64 t265]) (j := 0) (show 4 ≤ 4 from by decide) (x' := (⟨t258, t259, t262, t265⟩ : S90)) (k90_mkM _ _ _ (⟨t258, t259, t262, t265⟩ : S90) (yA (Kd.R_tight rfl (yA (ok' := fun k_ => ((fun _ => True)) k_ ∧ k_ ≠ go10) (Kd.R_apart' (HO261.out) (Kd.S_typed HO_3.out) (by decide)) (fun k_ hk => ⟨trivial, fun e_ => (hk.2) (by rw [e_]; rfl)⟩))) (fun _ h_ => Or.inr (Or.inl h_))) (yA (Kd.R_tight rfl (yA (ok' := fun k_ => ((fun _ => True)) k_ ∧ k_ ≠ go10) (Kd.R_apart' (HO264.out) (Kd.S_typed HO_3.out) (by decide)) (fun k_ hk => ⟨trivial, fun e_ => (hk.2) (by rw [e_]; rfl)⟩))) (fun _ h_ => Or.inr (Or.inr (h_))))) (fun _ hk => hk) (fun k_ hk_ => hk_.elim (fun h_ => ((yA (ok' := fun k_ => ((fun _ => True)) k_ ∧ k_ ≠ go10) (Kd.R_apart' (HO261.out) (Kd.S_typed HO_3.out) (by decide)) (fun k_ hk => ⟨trivial, fun e_ => (hk.2) (by rw [e_]; rfl)⟩))).1 k_ h_.symm) (fun h_ => ((yA (ok' := fun k_ => ((fun _ => True)) k_ ∧ k_ ≠ go10) (Kd.R_apart' (HO264.out) (Kd.S_typed HO_3.out) (by decide)) (fun k_ hk => ⟨trivial, fun e_ => (hk.2) (by rw [e_]; rfl)⟩))).1 k_ h_.symm)); have hx12_0 := hcc12 0 _ rfl; (try simp only [show (k90).sz = 4 from rfl, Nat.mul_one, Nat.add_zero] at hx12_0); have hf12_0 := hfr12 0; (try simp only [show (k90).sz = 4 from rfl, Nat.mul_one, Nat.add_zero] at hf12_0); have hx12_1 := hcc12 1 _ rfl; (try simp only [show (k90).sz = 4 from rfl, Nat.mul_one, Nat.add_zero] at hx12_1); have hf12_1 := hfr12 1; (try simp only [show (k90).sz = 4 from rfl, Nat.mul_one, Nat.add_zero] at hf12_1); have hx12_2 := hcc12 2 _ rfl; (try simp only [show (k90).sz = 4 from rfl, Nat.mul_one, Nat.add_zero] at hx12_2); have hf12_2 := hfr12 2; (try simp only [show (k90).sz = 4 from rfl, Nat.mul_one, Nat.add_zero] at hf12_2); have hx12_3 := hcc12 3 _ rfl; (try simp only [show (k90).sz = 4 from rfl, Nat.mul_one, Nat.add_zero] at hx12_3); have hf12_3 := hfr12 3; (try simp only [show (k90).sz = 4 from rfl, Nat.mul_one, Nat.add_zero] at hf12_3); clear hcl12 hcc12 hfr12 hM12 hoki12 hH12) | ((with_reducible refine gate_store (t := 90) (p := 21) rfl ?_); refine store_event (t := 90) (p := 21) (v := ?vo_w13) (w1 := ((((w11.setCell ⟨go10, (x4_1 : Int).toNat * 4, none⟩ (.bool t258)).setCell ⟨go10, (x4_1 : Int).toNat * 4 + 1, none⟩ (v260)).setCell ⟨go10, (x4_1 : Int).toNat * 4 + 2, none⟩ (v263)).setCell ⟨go10, (x4_1 : Int).toNat * 4 + 3, none⟩ (.int .i64 t265))) ?hg ?ho ?hn ?hr ?_; (case ho => rfl); (case hg => rfl); (case hn => rfl); (case hr => first | (go_simp; done) | (go_simp; rfl) | (obtain ⟨_, _, ev_⟩ := Kd.R_slice HO261.out; subst ev_; go_simp; done) | (obtain ⟨_, _, ev_⟩ := Kd.R_slice HO264.out; subst ev_; go_simp; done) | (obtain ⟨_, _, ev_⟩ := Kd.R_slice HO261.out; obtain ⟨_, _, ew_⟩ := Kd.R_slice HO264.out; subst ev_; subst ew_; go_simp; done)); intro w13 hw; have hg : w11.grownBy w13 (some go10) := (by rw [hw]; exact HP12.2); have hp_ : Kd.S k90 90 w13 w.heap.size (fun _ => True) (.slice (some ⟨go10, 0, none⟩) x3_1.length co10) y266 := (by rw [hw, Ny266.out]; exact HP12.1); clear HP12; have n0_ := zA (hp_); have n1_ := zA ((by rw [hw]; exact below_set (below_set (below_set (below_set (HB.out) GB10.out) GB10.out) GB10.out) GB10.out : Below w.heap.size w w13)); clear HO_3; clear HB; clear HO261; clear HO264; have HO_3 := n0_; have HB := n1_; clear n0_ n1_; clear hg hw hp_))
         go_roundg k1
         case measure => have := HK1.out; omega
         case rel => exact ⟨(y266), (wrap64 (x4_1 + 1)), wF, H', ⟨by have := HK1.out; omega⟩, ⟨wM HO_3.out⟩, ⟨wA⟩⟩
        ·rw [if_neg c9] at H
         exact absurd H (by simp)
       ·rw [if_neg c7] at H
        exact absurd H (by simp)
      ·rw [if_neg c6] at H
       have c6b0 : decide (x4_1 < (l0.length : Int)) = false := zK c6
       clear c6
       obtain rfl := zL H
       go_wp2
       go_ret
       exact ⟨_, wG, wM HO_3.out, wA⟩
  ·rw [if_neg c3] at H
   exact absurd H (by simp)
 ·rw [if_neg c2] at H
  exact absurd H (by simp)

/-! ### laws_toTree: function 17 -/
def laws_toTree.f (k : Nat) (l0_0 : List (S98)) : Option ((List (S90))) := (laws_toTNodeS.f k l0_0).bind fun t270 => (some t270)
set_option maxHeartbeats 4000000 in
set_option maxRecDepth 100000 in
theorem laws_toTree.calls (k : Nat) (A0_0 : Option Addr) (c0_0 : Nat) (l0_0 : List (S98)) (r : List (S90)) (w : World) (hr0_0 : Kd.C k98 w A0_0 l0_0.length l0_0) (hc0_0 : l0_0.length ≤ c0_0) (h : laws_toTree.f k l0_0 = some r) :
  Calls Try.prog 17 #[.agg #[.slice A0_0 l0_0.length c0_0]] w fun e w' => ∃ v0_ : Value, e = .returned (.agg #[v0_]) ∧ Kd.S k90 90 w' w.heap.size (fun _ => True) v0_ r ∧ Below w.heap.size w w' := by
 have hu := Try.underlying31
 have hu2 := Try.underlying24
 have hb0 : Below w.heap.size w (((w.alloc (.cells #[.slice A0_0 l0_0.length c0_0] 31)).alloc (.cells #[.slice none 0 0] 24)).alloc (.cells #[.slice none 0 0] 24)) := below_alloc (below_alloc (below_alloc (zZ _ _) _) _) _
 have K0 := zA (zF (zF (blk_new w (.cells #[.slice A0_0 l0_0.length c0_0] 31)) (.cells #[.slice none 0 0] 24)) (.cells #[.slice none 0 0] 24))
 have K1 := zA (zF (blk_new (w.alloc (.cells #[.slice A0_0 l0_0.length c0_0] 31)) (.cells #[.slice none 0 0] 24)) (.cells #[.slice none 0 0] 24))
 have K2 := zA (blk_new ((w.alloc (.cells #[.slice A0_0 l0_0.length c0_0] 31)).alloc (.cells #[.slice none 0 0] 24)) (.cells #[.slice none 0 0] 24))
 rw [show (w.alloc (.cells #[.slice A0_0 l0_0.length c0_0] 31)).heap.size = w.heap.size + 1 by simp] at K1
 rw [show ((w.alloc (.cells #[.slice A0_0 l0_0.length c0_0] 31)).alloc (.cells #[.slice none 0 0] 24)).heap.size = w.heap.size + 1 + 1 by simp] at K2
 have HZ := zA (show w.heap.size + 3 ≤ (((w.alloc (.cells #[.slice A0_0 l0_0.length c0_0] 31)).alloc (.cells #[.slice none 0 0] 24)).alloc (.cells #[.slice none 0 0] 24)).heap.size by simp)
 have HB := zA hb0
 have C0 := zA (And.intro (zQ hr0_0 hb0) hc0_0)
 unfold laws_toTree.f at h
 obtain ⟨t1, e1, h⟩ := Option.bind_eq_some_iff.mp h
 injection h with h
 subst h
 have E1 := zA e1
 clear hb0 hr0_0 hc0_0 e1
 go_enter Try.func17, Try.ntmps17
 go_upto_region 2 with (fail)
 generalize (((w.alloc (.cells #[.slice A0_0 l0_0.length c0_0] 31)).alloc (.cells #[.slice none 0 0] 24)).alloc (.cells #[.slice none 0 0] 24)) = W2 at *
 have x0 : W2.cell? ⟨w.heap.size, 0, none⟩ = some (.slice A0_0 l0_0.length c0_0) := (blk_cell K0.out 0).trans rfl
 go_wp2_with fail
 refine (laws_toTNodeS.calls k _ _ _ t1 W2 C0.out.1 C0.out.2 E1.out).mono ?_
 rintro e W3 ⟨v, rfl, hS, hb⟩
 obtain ⟨A3, c3, rfl⟩ := Kd.S_slice hS
 have HS := zA (Kd.S_lower (yB (ok' := fun k => w.heap.size + 3 ≤ k) (Kd.S_bound hS) (fun k hk => yI HZ.out hk.2.1)) (show w.heap.size ≤ _ from HB.out.size))
 have HB3 := zA (HB.out.trans ⟨hb.os, hb.tape, hb.output, hb.size, fun k hk => hb.block k (yJ hk HB.out.size)⟩)
 have K13 := zA (zH K1.out hb)
 have K23 := zA (zH K2.out hb)
 clear hS hb x0
 obtain ⟨y0, u0⟩ : W3.cell? ⟨w.heap.size + 1, 0, none⟩ = some (.slice none 0 0) ∧ W3.frozen? ⟨w.heap.size + 1, 0, none⟩ = false := ⟨(blk_cell K13.out 0).trans rfl, zG K13.out 0⟩
 obtain ⟨z0, v0⟩ : W3.cell? ⟨w.heap.size + 1 + 1, 0, none⟩ = some (.slice none 0 0) ∧ W3.frozen? ⟨w.heap.size + 1 + 1, 0, none⟩ = false := ⟨(blk_cell K23.out 0).trans rfl, zG K23.out 0⟩
 have ne1 : w.heap.size + 1 ≠ w.heap.size + 1 + 1 := by omega
 go_wp2_with fail
 refine bodyPost_ret (yK rfl _ _ (w.heap.size + 1) 24 #[.slice A3 t1.length c3] (0, 0) _ rfl (blk_put (blk_far (p := ⟨w.heap.size + 1 + 1, 0, none⟩) K13.out (show w.heap.size + 1 ≠ w.heap.size + 1 + 1 by omega) _) 0 _ rfl) hu2 rfl (by kernel_rfl)) rfl ⟨_, rfl, ?_, ?_⟩
 ·exact yB (Kd.S_far (p := ⟨w.heap.size + 1, 0, none⟩) (Kd.S_far (p := ⟨w.heap.size + 1 + 1, 0, none⟩) HS.out (fun k hk => by show k ≠ w.heap.size + 1 + 1; omega) _) (fun k hk => by show k ≠ w.heap.size + 1; omega) _) (fun _ _ => trivial)
 ·exact (HB3.out.setCell (show w.heap.size ≤ w.heap.size + 1 + 1 by omega) _).setCell (show w.heap.size ≤ w.heap.size + 1 by omega) _

/-! ### cmp_isNaN_string: function 102 -/
def cmp_isNaN_string.f (a0 : ByteArray) : Option (Bool) := some (a0.toList != a0.toList)
set_option maxHeartbeats 8000000 in
set_option maxRecDepth 100000 in
theorem cmp_isNaN_string.calls (a0 : ByteArray) (r : Bool) (w : World) (h : cmp_isNaN_string.f a0 = some r) :
  Calls Try.prog 102 #[.string a0] w fun e w' => e = .returned (.bool r) ∧ Drawn0 w w' := by
 have H : (some (a0.toList != a0.toList)) = some r := h
 clear h
 obtain rfl := zL H
 go_enter Try.func102, Try.ntmps102
 go_wp2
 go_ret
 exact ⟨wF, wI⟩

/-! ### cmp_Less_string: function 92 -/
def cmp_Less_string.f (a0 : ByteArray) (a1 : ByteArray) : Option (Bool) := (cmp_isNaN_string.f a0).bind fun t281 => (if t281 = true then ((cmp_isNaN_string.f a1).bind fun t282 => (if t282 = true then (some (Op.bytesLess a0.toList a1.toList)) else (some true))) else (some (Op.bytesLess a0.toList a1.toList)))
set_option maxHeartbeats 8000000 in
set_option maxRecDepth 100000 in
theorem cmp_Less_string.calls (a0 : ByteArray) (a1 : ByteArray) (r : Bool) (w : World) (h : cmp_Less_string.f a0 a1 = some r) :
  Calls Try.prog 92 #[.string a0, .string a1] w fun e w' => e = .returned (.bool r) ∧ Drawn0 w w' := by
 have H : ((cmp_isNaN_string.f a0).bind fun t281 => (if t281 = true then ((cmp_isNaN_string.f a1).bind fun t282 => (if t282 = true then (some (Op.bytesLess a0.toList a1.toList)) else (some true))) else (some (Op.bytesLess a0.toList a1.toList)))) = some r := h
 clear h
 replace H := Option.bind_eq_some_iff.mp H
 obtain ⟨t281, A30, H⟩ := H
 replace H : (if t281 = true then ((cmp_isNaN_string.f a1).bind fun t282 => (if t282 = true then (some (Op.bytesLess a0.toList a1.toList)) else (some true))) else (some (Op.bytesLess a0.toList a1.toList))) = some r := H
 have A3 := zA A30
 clear A30
 by_cases c4 : t281 = true
 ·subst c4
  have H1 : ((cmp_isNaN_string.f a1).bind fun t282 => (if t282 = true then (some (Op.bytesLess a0.toList a1.toList)) else (some true))) = some r := by rw [if_pos rfl] at H; exact H
  clear H
  have H := H1
  clear H1
  replace H := Option.bind_eq_some_iff.mp H
  obtain ⟨t282, A50, H⟩ := H
  replace H : (if t282 = true then (some (Op.bytesLess a0.toList a1.toList)) else (some true)) = some r := H
  have A5 := zA A50
  clear A50
  by_cases c6 : t282 = true
  ·subst c6
   have H1 : (some (Op.bytesLess a0.toList a1.toList)) = some r := by rw [if_pos rfl] at H; exact H
   clear H
   have H := H1
   clear H1
   obtain rfl := zL H
   go_enter Try.func92, Try.ntmps92
   go_wp2_with (first | ((with_reducible refine gate_callee (f := 102) rfl ?_); refine goesL_ (some 6) rfl rfl Try.func102 (by kernel_rfl) rfl #[.string a0] rfl wH ?_; (with_reducible refine (cmp_isNaN_string.calls a0 true _ A3.out).mono ?_); rintro e w' ⟨rfl, ⟨nd, rfl⟩⟩; refine ⟨_, rfl, ?_⟩) | (go_at_call 102; (with_reducible refine (cmp_isNaN_string.calls a1 true _ A5.out).mono ?_); rintro e w' ⟨rfl, ⟨nd, rfl⟩⟩))
   go_ret
   exact ⟨wF, wI⟩
  ·replace c6 := Bool.eq_false_iff.mpr c6
   subst c6
   have H1 : (some true) = some r := by rw [if_neg (show ¬ (false = true) by decide)] at H; exact H
   clear H
   have H := H1
   clear H1
   obtain rfl := zL H
   go_enter Try.func92, Try.ntmps92
   go_wp2_with (first | ((with_reducible refine gate_callee (f := 102) rfl ?_); refine goesL_ (some 6) rfl rfl Try.func102 (by kernel_rfl) rfl #[.string a0] rfl wH ?_; (with_reducible refine (cmp_isNaN_string.calls a0 true _ A3.out).mono ?_); rintro e w' ⟨rfl, ⟨nd, rfl⟩⟩; refine ⟨_, rfl, ?_⟩) | (go_at_call 102; (with_reducible refine (cmp_isNaN_string.calls a1 false _ A5.out).mono ?_); rintro e w' ⟨rfl, ⟨nd, rfl⟩⟩))
   go_ret
   exact ⟨wF, wI⟩
 ·replace c4 := Bool.eq_false_iff.mpr c4
  subst c4
  have H1 : (some (Op.bytesLess a0.toList a1.toList)) = some r := by rw [if_neg (show ¬ (false = true) by decide)] at H; exact H
  clear H
  have H := H1
  clear H1
  obtain rfl := zL H
  go_enter Try.func92, Try.ntmps92
  go_wp2_with (first | ((with_reducible refine gate_callee (f := 102) rfl ?_); refine goesL_ (some 6) rfl rfl Try.func102 (by kernel_rfl) rfl #[.string a0] rfl wH ?_; (with_reducible refine (cmp_isNaN_string.calls a0 false _ A3.out).mono ?_); rintro e w' ⟨rfl, ⟨nd, rfl⟩⟩; refine ⟨_, rfl, ?_⟩))
  go_ret
  exact ⟨wF, wI⟩

/-! ### slices_isNaN_string: function 93 -/
def slices_isNaN_string.f (a0 : ByteArray) : Option (Bool) := some (a0.toList != a0.toList)
set_option maxHeartbeats 8000000 in
set_option maxRecDepth 100000 in
theorem slices_isNaN_string.calls (a0 : ByteArray) (r : Bool) (w : World) (h : slices_isNaN_string.f a0 = some r) :
  Calls Try.prog 93 #[.string a0] w fun e w' => e = .returned (.bool r) ∧ Drawn0 w w' := by
 have H : (some (a0.toList != a0.toList)) = some r := h
 clear h
 obtain rfl := zL H
 go_enter Try.func93, Try.ntmps93
 go_wp2
 go_ret
 exact ⟨wF, wI⟩

/-! ### slices_BinarySearch_string_string: function 72 -/
def slices_BinarySearch_string_string.l0 : Nat → List ByteArray → ByteArray → Int → Int → Int → Option (Int × Bool)
 | 0, _, _, _, _, _ => none
 | k + 1, x0, x1, x6, x7, x8 => if x7 < x8 then (if 0 ≤ (wrap64 ((IntKind.u64.wrap (wrap64 (x7 + x8))) / 2)) then (if (wrap64 ((IntKind.u64.wrap (wrap64 (x7 + x8))) / 2)) < (x0.length : Int) then ((cmp_Less_string.f (rdOf ByteArray.empty x0 (wrap64 ((IntKind.u64.wrap (wrap64 (x7 + x8))) / 2))) x1).bind fun t284 => (if t284 = true then (slices_BinarySearch_string_string.l0 k x0 x1 x6 (wrap64 ((wrap64 ((IntKind.u64.wrap (wrap64 (x7 + x8))) / 2)) + 1)) x8) else (slices_BinarySearch_string_string.l0 k x0 x1 x6 x7 (wrap64 ((IntKind.u64.wrap (wrap64 (x7 + x8))) / 2))))) else (none)) else (none)) else (if x7 < x6 then (if 0 ≤ x7 then (if x7 < (x0.length : Int) then (if (rdOf ByteArray.empty x0 x7).toList = x1.toList then (some (x7, true)) else ((slices_isNaN_string.f (rdOf ByteArray.empty x0 x7)).bind fun t287 => (if t287 = true then ((slices_isNaN_string.f x1).bind fun t288 => (some (x7, t288))) else (some (x7, false))))) else (none)) else (none)) else (some (x7, false)))
def slices_BinarySearch_string_string.f (k : Nat) (l0 : List ByteArray) (a1 : ByteArray) : Option (Int × Bool) := slices_BinarySearch_string_string.l0 k l0 a1 (l0.length : Int) 0 (l0.length : Int)
set_option maxHeartbeats 8000000 in
set_option maxRecDepth 100000 in
theorem slices_BinarySearch_string_string.calls (k : Nat) (A0 : Option Addr) (c0 : Nat) (l0 : List ByteArray) (a1 : ByteArray) (r1 : Int) (r2 : Bool) (w : World) (hr0 : Kd.C Kd.string w A0 l0.length l0) (hc0 : l0.length ≤ c0) (h : slices_BinarySearch_string_string.f k l0 a1 = some (r1, r2)) :
  Calls Try.prog 72 #[.slice A0 l0.length c0, .string a1] w fun e w' => e = .returned (.tuple #[.int .i64 r1, .bool r2]) ∧ Drawn0 w w' := by
 have HR0 := zA hr0
 have HC0 := zA hc0
 clear hr0 hc0
 have H : (slices_BinarySearch_string_string.l0 k l0 a1 (l0.length : Int) 0 (l0.length : Int)) = some (r1, r2) := h
 clear h
 have H' := zA H
 clear H
 go_enter Try.func72, Try.ntmps72
 go_wp2
 go_loopg [7, 8] k (fun kq v7 v8 w' => ∃ (x7_1 : Int) (x8_1 : Int), v7 = .int .i64 x7_1 ∧ v8 = .int .i64 x8_1 ∧ Aside0 (slices_BinarySearch_string_string.l0 kq l0 a1 (l0.length : Int) x7_1 x8_1 = some (r1, r2)) ∧ Aside0 (kq ≤ k) ∧ Drawn0 w w')
 case atStart => exact ⟨(0), ((l0.length : Int)), wF, wF, H', ⟨zY _⟩, wI⟩
 case round =>
  clear H'
  try clear p2
  obtain ⟨x7_1, x8_1, rfl, rfl, HA, HK1, ⟨m1, rfl⟩⟩ := hrel
  cases gk with
  | zero => exact absurd HA.out (by simp [slices_BinarySearch_string_string.l0])
  | succ k1 =>
    have H := HA.out
    clear HA
    simp only [slices_BinarySearch_string_string.l0] at H
    by_cases c3 : x7_1 < x8_1
    ·rw [if_pos c3] at H
     have c3b0 : decide (x7_1 < x8_1) = true := zJ c3
     clear c3
     obtain ⟨ji4, hji4⟩ : ∃ j_ : Int, (wrap64 ((IntKind.u64.wrap (wrap64 (x7_1 + x8_1))) / 2)) = j_ := ⟨_, rfl⟩
     replace H : (if 0 ≤ (ji4) then (if (ji4) < (l0.length : Int) then ((cmp_Less_string.f (rdOf ByteArray.empty l0 (ji4)) a1).bind fun t284 => (if t284 = true then (slices_BinarySearch_string_string.l0 k1 l0 a1 (l0.length : Int) (wrap64 ((ji4) + 1)) x8_1) else (slices_BinarySearch_string_string.l0 k1 l0 a1 (l0.length : Int) x7_1 ji4))) else (none)) else (none)) = some (r1, r2) := by first | (rw [hji4] at H; exact H) | (simp only [hji4] at H ⊢; exact H)
     have hji4w : (IntKind.i64.wrap ((IntKind.u64.wrap (wrap64 (x7_1 + x8_1))) / 2)) = ji4 := (i64_w _).trans hji4
     by_cases c5 : 0 ≤ (ji4)
     ·rw [if_pos c5] at H
      have c5b0 : decide (0 ≤ (ji4)) = true := zJ c5
      clear c5
      by_cases c6 : (ji4) < (l0.length : Int)
      ·rw [if_pos c6] at H
       have c6b0 : decide ((ji4) < (l0.length : Int)) = true := zJ c6
       clear c6
       replace H := Option.bind_eq_some_iff.mp H
       obtain ⟨t284, A70, H⟩ := H
       replace H : (if t284 = true then (slices_BinarySearch_string_string.l0 k1 l0 a1 (l0.length : Int) (wrap64 ((ji4) + 1)) x8_1) else (slices_BinarySearch_string_string.l0 k1 l0 a1 (l0.length : Int) x7_1 ji4)) = some (r1, r2) := H
       have A7 := zA A70
       clear A70
       by_cases c8 : t284 = true
       ·subst c8
        have H1 : (slices_BinarySearch_string_string.l0 k1 l0 a1 (l0.length : Int) (wrap64 ((ji4) + 1)) x8_1) = some (r1, r2) := by rw [if_pos rfl] at H; exact H
        clear H
        have H := H1
        clear H1
        have H' := zA H
        clear H
        have p283 : 0 ≤ ((ji4) : Int) := zI wE
        have q283 : (ji4) < (l0.length : Int) := zI wE
        obtain ⟨ad283, e283, hx283_0⟩ := Kd.at_string HR0.out (ji4) p283 q283
        cases e283
        replace p283 := eq_true p283
        replace q283 := eq_true q283
        go_wp2_with (first | ((with_reducible refine gate_callee (f := 92) rfl ?_); refine goesL_ (some 27) rfl rfl Try.func92 (by kernel_rfl) rfl #[.string (rdOf ByteArray.empty l0 (ji4)), .string a1] rfl (by (try simp only [yG, yH, List.map_nil]); first | done | (simp only [hji4]; rfl) | rfl | (simp only [zX, zW]; rfl)) ?_; (with_reducible refine (cmp_Less_string.calls (rdOf ByteArray.empty l0 (ji4)) a1 true _ A7.out).mono ?_); rintro e w' ⟨rfl, ⟨nd, rfl⟩⟩; refine ⟨_, rfl, ?_⟩))
        go_roundg k1
        case measure => have := HK1.out; omega
        case rel => exact ⟨(wrap64 ((ji4) + 1)), (x8_1), (by first | rfl | (simp; done) | (simp only [← hji4] <;> (first | rfl | simp)) | (simp [*]; done)), wF, H', ⟨by have := HK1.out; omega⟩, wI⟩
       ·replace c8 := Bool.eq_false_iff.mpr c8
        subst c8
        have H1 : (slices_BinarySearch_string_string.l0 k1 l0 a1 (l0.length : Int) x7_1 ji4) = some (r1, r2) := by rw [if_neg (show ¬ (false = true) by decide)] at H; exact H
        clear H
        have H := H1
        clear H1
        have H' := zA H
        clear H
        have p283 : 0 ≤ ((ji4) : Int) := zI wE
        have q283 : (ji4) < (l0.length : Int) := zI wE
        obtain ⟨ad283, e283, hx283_0⟩ := Kd.at_string HR0.out (ji4) p283 q283
        cases e283
        replace p283 := eq_true p283
        replace q283 := eq_true q283
        go_wp2_with (first | ((with_reducible refine gate_callee (f := 92) rfl ?_); refine goesL_ (some 27) rfl rfl Try.func92 (by kernel_rfl) rfl #[.string (rdOf ByteArray.empty l0 (ji4)), .string a1] rfl (by (try simp only [yG, yH, List.map_nil]); first | done | (simp only [hji4]; rfl) | rfl | (simp only [zX, zW]; rfl)) ?_; (with_reducible refine (cmp_Less_string.calls (rdOf ByteArray.empty l0 (ji4)) a1 false _ A7.out).mono ?_); rintro e w' ⟨rfl, ⟨nd, rfl⟩⟩; refine ⟨_, rfl, ?_⟩))
        go_roundg k1
        case measure => have := HK1.out; omega
        case rel => exact ⟨(x7_1), (ji4), wF, (by first | rfl | (simp; done) | (simp only [← hji4] <;> (first | rfl | simp)) | (simp [*]; done)), H', ⟨by have := HK1.out; omega⟩, wI⟩
      ·rw [if_neg c6] at H
       exact absurd H (by simp)
     ·rw [if_neg c5] at H
      exact absurd H (by simp)
    ·rw [if_neg c3] at H
     have c3b0 : decide (x7_1 < x8_1) = false := zK c3
     clear c3
     by_cases c9 : x7_1 < (l0.length : Int)
     ·rw [if_pos c9] at H
      have c9b0 : decide (x7_1 < (l0.length : Int)) = true := zJ c9
      clear c9
      by_cases c10 : 0 ≤ x7_1
      ·rw [if_pos c10] at H
       have c10b0 : decide (0 ≤ x7_1) = true := zJ c10
       clear c10
       by_cases c11 : x7_1 < (l0.length : Int)
       ·rw [if_pos c11] at H
        have c11b0 : decide (x7_1 < (l0.length : Int)) = true := zJ c11
        clear c11
        by_cases c12 : (rdOf ByteArray.empty l0 x7_1).toList = a1.toList
        ·rw [if_pos c12] at H
         have c12b0 : ((rdOf ByteArray.empty l0 x7_1).toList == a1.toList) = true := beq_iff_eq.mpr c12
         have c12b1 : ((rdOf ByteArray.empty l0 x7_1).toList != a1.toList) = false := bne_eq_false_iff_eq.mpr c12
         clear c12
         simp only [Option.some.injEq, Prod.mk.injEq] at H
         obtain ⟨rfl, rfl⟩ := H
         have p285 : 0 ≤ (x7_1 : Int) := zI wE
         have q285 : x7_1 < (l0.length : Int) := zI wE
         obtain ⟨ad285, e285, hx285_0⟩ := Kd.at_string HR0.out x7_1 p285 q285
         cases e285
         replace p285 := eq_true p285
         replace q285 := eq_true q285
         go_wp2
         go_ret2
         exact ⟨wF, wI⟩
        ·rw [if_neg c12] at H
         have c12b0 : ((rdOf ByteArray.empty l0 x7_1).toList == a1.toList) = false := beq_eq_false_iff_ne.mpr c12
         have c12b1 : ((rdOf ByteArray.empty l0 x7_1).toList != a1.toList) = true := bne_iff_ne.mpr c12
         replace H := Option.bind_eq_some_iff.mp H
         obtain ⟨t287, A130, H⟩ := H
         replace H : (if t287 = true then ((slices_isNaN_string.f a1).bind fun t288 => (some (x7_1, t288))) else (some (x7_1, false))) = some (r1, r2) := H
         have A13 := zA A130
         clear A130
         by_cases c14 : t287 = true
         ·subst c14
          have H1 : ((slices_isNaN_string.f a1).bind fun t288 => (some (x7_1, t288))) = some (r1, r2) := by rw [if_pos rfl] at H; exact H
          clear H
          have H := H1
          clear H1
          replace H := Option.bind_eq_some_iff.mp H
          obtain ⟨t288, A150, H⟩ := H
          replace H : (some (x7_1, t288)) = some (r1, r2) := H
          have A15 := zA A150
          clear A150
          simp only [Option.some.injEq, Prod.mk.injEq] at H
          obtain ⟨rfl, rfl⟩ := H
          have p285 : 0 ≤ (x7_1 : Int) := zI wE
          have q285 : x7_1 < (l0.length : Int) := zI wE
          obtain ⟨ad285, e285, hx285_0⟩ := Kd.at_string HR0.out x7_1 p285 q285
          cases e285
          replace p285 := eq_true p285
          replace q285 := eq_true q285
          have p286 : 0 ≤ (x7_1 : Int) := zI wE
          have q286 : x7_1 < (l0.length : Int) := zI wE
          obtain ⟨ad286, e286, hx286_0⟩ := Kd.at_string HR0.out x7_1 p286 q286
          obtain rfl : ad285 = ad286 := (by injection e286)
          replace p286 := eq_true p286
          replace q286 := eq_true q286
          go_wp2_with (first | (go_at_call 93; (with_reducible refine (slices_isNaN_string.calls (rdOf ByteArray.empty l0 x7_1) true _ A13.out).mono ?_); rintro e w' ⟨rfl, ⟨nd, rfl⟩⟩) | (go_at_call 93; (with_reducible refine (slices_isNaN_string.calls a1 t288 _ A15.out).mono ?_); rintro e w' ⟨rfl, ⟨nd, rfl⟩⟩))
          go_ret2
          exact ⟨wF, wI⟩
         ·replace c14 := Bool.eq_false_iff.mpr c14
          subst c14
          have H1 : (some (x7_1, false)) = some (r1, r2) := by rw [if_neg (show ¬ (false = true) by decide)] at H; exact H
          clear H
          have H := H1
          clear H1
          simp only [Option.some.injEq, Prod.mk.injEq] at H
          obtain ⟨rfl, rfl⟩ := H
          have p285 : 0 ≤ (x7_1 : Int) := zI wE
          have q285 : x7_1 < (l0.length : Int) := zI wE
          obtain ⟨ad285, e285, hx285_0⟩ := Kd.at_string HR0.out x7_1 p285 q285
          cases e285
          replace p285 := eq_true p285
          replace q285 := eq_true q285
          have p286 : 0 ≤ (x7_1 : Int) := zI wE
          have q286 : x7_1 < (l0.length : Int) := zI wE
          obtain ⟨ad286, e286, hx286_0⟩ := Kd.at_string HR0.out x7_1 p286 q286
          obtain rfl : ad285 = ad286 := (by injection e286)
          replace p286 := eq_true p286
          replace q286 := eq_true q286
          go_wp2_with (first | (go_at_call 93; (with_reducible refine (slices_isNaN_string.calls (rdOf ByteArray.empty l0 x7_1) false _ A13.out).mono ?_); rintro e w' ⟨rfl, ⟨nd, rfl⟩⟩))
          go_ret2
          exact ⟨wF, wI⟩
       ·rw [if_neg c11] at H
        exact absurd H (by simp)
      ·rw [if_neg c10] at H
       exact absurd H (by simp)
     ·rw [if_neg c9] at H
      have c9b0 : decide (x7_1 < (l0.length : Int)) = false := zK c9
      clear c9
      simp only [Option.some.injEq, Prod.mk.injEq] at H
      obtain ⟨rfl, rfl⟩ := H
      go_wp2
      go_ret2
      exact ⟨wF, wI⟩

/-! ### laws_markText: function 51 -/
def laws_markText.l0 : Nat → Int → ByteArray → Option (ByteArray)
 | 0, _, _ => none
 | k + 1, x0, x3 => if x0 > 0 then ((some (([(wrap64 (48 + (Int.tmod x0 10))) % 256] : List Int) : List Int)).bind fun y295 => (if (strOfNums y295).size + x3.size ≤ 9223372036854775807 then (laws_markText.l0 k (wrap64 (Int.tdiv x0 10)) ((strOfNums y295) ++ x3)) else (none))) else (if 1 + x3.size ≤ 9223372036854775807 then (some ((⟨#[109]⟩ : ByteArray) ++ x3)) else (none))
def laws_markText.f (k : Nat) (a0 : Int) : Option (ByteArray) := if a0 ≤ 0 then (some (⟨#[109, 48]⟩ : ByteArray)) else (laws_markText.l0 k a0 (⟨#[]⟩ : ByteArray))
set_option maxHeartbeats 8000000 in
set_option maxRecDepth 100000 in
theorem laws_markText.calls (k : Nat) (a0 : Int) (r : ByteArray) (w : World) (h : laws_markText.f k a0 = some r) :
  Calls Try.prog 51 #[.int .i64 a0] w fun e w' => e = .returned (.string r) ∧ Below w.heap.size w w' := by
 have HB := zA (zZ w.heap.size w)
 have H : (if a0 ≤ 0 then (some (⟨#[109, 48]⟩ : ByteArray)) else (laws_markText.l0 k a0 (⟨#[]⟩ : ByteArray))) = some r := h
 clear h
 by_cases c2 : a0 ≤ 0
 ·rw [if_pos c2] at H
  have c2b0 : decide (a0 ≤ 0) = true := zJ c2
  clear c2
  obtain rfl := zL H
  go_enter Try.func51, Try.ntmps51
  go_wp2
  go_ret
  exact ⟨wG, wA⟩
 ·rw [if_neg c2] at H
  have c2b0 : decide (a0 ≤ 0) = false := zK c2
  clear c2
  have H' := zA H
  clear H
  go_enter Try.func51, Try.ntmps51
  go_wp2
  go_loopg [0, 3] k (fun kq v0 v3 w' => ∃ (x0_1 : Int) (x3_1 : ByteArray), v0 = .int .i64 x0_1 ∧ v3 = .string x3_1 ∧ Aside0 (laws_markText.l0 kq x0_1 x3_1 = some r) ∧ Aside0 (kq ≤ k) ∧ Aside0 (Below w.heap.size w w'))
  case atStart => exact ⟨(a0), ((⟨#[]⟩ : ByteArray)), wF, wF, H', ⟨zY _⟩, ⟨wA⟩⟩
  case round =>
   clear H'
   try clear c2
   try clear c2b0
   try clear p2
   obtain ⟨x0_1, x3_1, rfl, rfl, HA, HK1, HB⟩ := hrel
   cases gk with
   | zero => exact absurd HA.out (by simp [laws_markText.l0])
   | succ k1 =>
     have H := HA.out
     clear HA
     simp only [laws_markText.l0] at H
     by_cases c3 : x0_1 > 0
     ·rw [if_pos c3] at H
      have c3b0 : decide (0 < x0_1) = true := zJ c3
      clear c3
      obtain ⟨y295, hy295⟩ : ∃ y_ : List Int, y_ = (([(wrap64 (48 + (Int.tmod x0_1 10))) % 256] : List Int)) := ⟨_, rfl⟩
      replace H : (if (strOfNums y295).size + x3_1.size ≤ 9223372036854775807 then (laws_markText.l0 k1 (wrap64 (Int.tdiv x0_1 10)) ((strOfNums y295) ++ x3_1)) else (none)) = some r := wO hy295 H
      have Ny295 := zA hy295
      clear hy295
      by_cases c4 : (strOfNums y295).size + x3_1.size ≤ 9223372036854775807
      ·rw [if_pos c4] at H
       have c4b0 := eq_true c4
       have c4b1 : decide ((strOfNums y295).size + x3_1.size ≤ 9223372036854775807) = true := zJ c4
       try have c4b2 : (9223372036854775807 < (strOfNums y295).size + x3_1.size) = False := eq_false (Nat.not_lt.2 c4)
       have H' := zA H
       clear H
       go_wp2_with (first | ((with_reducible refine gate_dst (N := 12) rfl ?_); refine Kd.R_lit (Kd.int .u8) _ 5 ?hg (N := 12) ?hd (xs := ([(wrap64 (48 + (Int.tmod x0_1 10))) % 256] : List Int)) (inner := [.int .u8 ((wrap64 (48 + (Int.tmod x0_1 10))) % 256)]) (ok := fun _ => True) (okp := fun _ => True) ?hr ?hp (fun _ hk => hk) trivial (zZ _ _) (zY _) (by simp) ?_; (case hd => rfl); (case hg => rfl); (case hr => first | (go_simp; done) | (go_simp; rfl)); (case hp => exact (Reps.one (show Kd.M (Kd.int .u8) _ _ _ ((wrap64 (48 + (Int.tmod x0_1 10))) % 256) [.int .u8 ((wrap64 (48 + (Int.tmod x0_1 10))) % 256)] from rfl) (Reps.none _ _))); intro v296 w5 ho6 hb hg_ hnew_; clear hg_ hnew_; (first | rw [← Ny295.out] at ho6 | (simp only [Int.reduceToNat] at ho6; rw [← Ny295.out] at ho6)); have n0_ := zA (Kd.R_lower ho6 (zV wA)); have n1_ := zA (zU wA hb); clear HB; have HO297 := n0_; have HB := n1_; clear n0_ n1_; clear hb ho6; have hcv7 := own_string (P := Try.prog) Try.underlying48 Try.underlying5 Try.underlying9 (Kd.own_of_R HO297.out)))
       go_roundg k1
       case measure => have := HK1.out; omega
       case rel => exact ⟨(wrap64 (Int.tdiv x0_1 10)), ((strOfNums y295) ++ x3_1), wF, wF, H', ⟨by have := HK1.out; omega⟩, ⟨wA⟩⟩
      ·rw [if_neg c4] at H
       exact absurd H (by simp)
     ·rw [if_neg c3] at H
      have c3b0 : decide (0 < x0_1) = false := zK c3
      clear c3
      by_cases c8 : 1 + x3_1.size ≤ 9223372036854775807
      ·rw [if_pos c8] at H
       have c8b0 := eq_true c8
       have c8b1 : decide (1 + x3_1.size ≤ 9223372036854775807) = true := zJ c8
       try have c8b2 : (9223372036854775807 < 1 + x3_1.size) = False := eq_false (Nat.not_lt.2 c8)
       obtain rfl := zL H
       go_wp2
       go_ret
       exact ⟨wG, wA⟩
      ·rw [if_neg c8] at H
       exact absurd H (by simp)

/-! ### laws_markStringS: function 24 -/
def laws_markStringS.l0 : Nat → List ByteArray → Int → Int → Option (Int × List ByteArray)
 | 0, _, _, _ => none
 | k + 1, x0, x1, x5 => if x5 < (x0.length : Int) then ((laws_markText.f k x1).bind fun t298 => (if 0 ≤ x5 then (laws_markStringS.l0 k (x0.set (x5 : Int).toNat t298) (wrap64 (x1 + 1)) (wrap64 (x5 + 1))) else (none))) else (some (x1, x0))
def laws_markStringS.f (k : Nat) (l0 : List ByteArray) (a1 : Int) : Option (Int × List ByteArray) := laws_markStringS.l0 k l0 a1 0
set_option maxHeartbeats 8000000 in
set_option maxRecDepth 100000 in
theorem laws_markStringS.calls (k : Nat) (P0_ : Nat → Prop) (u9000_ : Value) (l0 : List ByteArray) (a1 : Int) (r1 : Int) (r2 : List ByteArray) (w0 w : World) (hB : Below w0.heap.size w0 w) (ho0 : Kd.R Kd.string 9 w w0.heap.size P0_ u9000_ l0) (h : laws_markStringS.f k l0 a1 = some (r1, r2)) :
  Calls Try.prog 24 #[u9000_, .int .i64 a1] w fun e w' => e = .returned (.int .i64 r1) ∧ Kd.R Kd.string 9 w' w0.heap.size (fun k_ => (P0_ k_ ∨ w.heap.size ≤ k_)) u9000_ r2 ∧ Below w0.heap.size w0 w' ∧ Kept w w' (fun k_ => P0_ k_) := by
 have HO0 := zA (show Kd.R Kd.string 9 w w0.heap.size (fun k_ => (P0_ k_ ∨ w.heap.size ≤ k_)) u9000_ l0 from yA ho0 (fun k_ hk => (.inl hk)))
 have HK := zA (Kept.refl w (fun k_ => P0_ k_))
 have HW0 := zA hB.size
 have HB := zA hB
 clear hB
 have H : (laws_markStringS.l0 k l0 a1 0) = some (r1, r2) := h
 clear h
 have H' := zA H
 clear H
 go_enter Try.func24, Try.ntmps24
 go_wp2
 go_loopg [1, 5] k (fun kq v1 v5 w' => ∃ (x0_1 : List ByteArray) (x1_1 : Int) (x5_1 : Int), v1 = .int .i64 x1_1 ∧ v5 = .int .i64 x5_1 ∧ Aside0 (laws_markStringS.l0 kq x0_1 x1_1 x5_1 = some (r1, r2)) ∧ Aside0 (kq ≤ k) ∧ Aside0 (Kd.R Kd.string 9 w' w0.heap.size (fun k_ => (P0_ k_ ∨ w.heap.size ≤ k_)) u9000_ x0_1) ∧ Aside0 (Kept w w' (fun k_ => P0_ k_)) ∧ Aside0 (Below w0.heap.size w0 w'))
 case atStart => exact ⟨(l0), (a1), (0), wF, wF, H', ⟨zY _⟩, ⟨wK HO0.out⟩, ⟨by repeat (first | (with_reducible first | exact HK.out | apply Kept.alloc | apply Kept.drewN | apply Kept.drew) | exact HK.out)⟩, ⟨wA⟩⟩
 case round =>
  clear H'
  try clear c2
  try clear p2
  obtain ⟨x0_1, x1_1, x5_1, rfl, rfl, HA, HK1, HO_0, HK, HB⟩ := hrel
  cases gk with
  | zero => exact absurd HA.out (by simp [laws_markStringS.l0])
  | succ k1 =>
    have H := HA.out
    clear HA
    simp only [laws_markStringS.l0] at H
    by_cases c3 : x5_1 < (x0_1.length : Int)
    ·rw [if_pos c3] at H
     have c3b0 : decide (x5_1 < (x0_1.length : Int)) = true := zJ c3
     clear c3
     replace H := Option.bind_eq_some_iff.mp H
     obtain ⟨t298, A40, H⟩ := H
     replace H : (if 0 ≤ x5_1 then (laws_markStringS.l0 k1 (x0_1.set (x5_1 : Int).toNat t298) (wrap64 (x1_1 + 1)) (wrap64 (x5_1 + 1))) else (none)) = some (r1, r2) := H
     have A4 := zA A40
     clear A40
     by_cases c5 : 0 ≤ x5_1
     ·rw [if_pos c5] at H
      have c5b0 : decide (0 ≤ x5_1) = true := zJ c5
      clear c5
      obtain ⟨y299, hy299⟩ : ∃ y_ : List ByteArray, y_ = (x0_1.set (x5_1 : Int).toNat t298) := ⟨_, rfl⟩
      replace H : (laws_markStringS.l0 k1 y299 (wrap64 (x1_1 + 1)) (wrap64 (x5_1 + 1))) = some (r1, r2) := wO hy299 H
      have Ny299 := zA hy299
      clear hy299
      have H' := zA H
      clear H
      obtain ⟨Ao7, co7, eo7⟩ := Kd.R_slice HO_0.out
      subst eo7
      go_wp2_with (first | ((with_reducible refine gate_callee (f := 51) rfl ?_); refine goesL_ (some 15) rfl rfl Try.func51 (by kernel_rfl) rfl #[.int .i64 x1_1] rfl wH ?_; (with_reducible refine (laws_markText.calls k1 x1_1 t298 _ A4.out).mono ?_); rintro e w8 ⟨rfl, hb⟩; refine ⟨_, rfl, ?_⟩; have n0_ := zA (Kd.R_below (wK HO_0.out) hb); have n1_ := zA (Kept.below (S := (fun k_ => P0_ k_)) (by repeat (first | (with_reducible first | exact HK.out | apply Kept.alloc | apply Kept.drewN | apply Kept.drew) | exact HK.out)) hb); have n2_ := zA (zU wA hb); clear HO_0; clear HK; clear HB; have HO_0 := n0_; have HK := n1_; have HB := n2_; clear n0_ n1_ n2_; (try clear hb); (try clear hb2); (try clear hk); (try clear hi); have p6 : 0 ≤ (x5_1 : Int) := zI wE; have q6 : (x5_1 : Int) < ((x0_1.length : Int) : Int) := zI wE; obtain ⟨go6, co6, eo6, gb6, gl6, cl6, HG6⟩ := Kd.R_form HO_0.out (by omega); (first | cases eo6 | (injection eo6 with ea_ en_ ec_; (first | subst ea_ | (injection ea_ with ea_; subst ea_)); subst ec_; clear en_)); have GB6 := zA gb6; have GG6 := zA HG6; clear gb6 gl6 HG6; have HMgo6 := zA (show (P0_ go6 ∨ w.heap.size ≤ go6) from (HO_0.out.1 _ rfl)); obtain ⟨hx6_0, hf6_0⟩ := Kd.R_celln (⟨#[]⟩ : ByteArray) HO_0.out (x5_1 : Int) p6 q6; replace p6 := eq_true p6; replace q6 := eq_true q6; obtain ⟨hy9_, hz9_⟩ := Kd.R_celln (⟨#[]⟩ : ByteArray) HO_0.out (x5_1 : Int) (zI wE) (zI wE); have HP9 := Kd.R_putg HO_0.out (x5_1 : Int) t298) | ((with_reducible refine gate_store (t := 9) (p := 16) rfl ?_); refine store_event (t := 9) (p := 16) (v := ?vo_w10) (w1 := (w8.setCell ⟨go6, (x5_1 : Int).toNat, none⟩ (.string t298))) ?hg ?ho ?hn ?hr ?_; (case ho => rfl); (case hg => rfl); (case hn => rfl); (case hr => first | (go_simp; done) | (go_simp; rfl)); intro w10 hw; have hg : w8.grownBy w10 (some go6) := (by rw [hw]; exact HP9.2); have hp_ : Kd.R Kd.string 9 w10 w0.heap.size (fun k_ => (P0_ k_ ∨ w.heap.size ≤ k_)) (.slice (some ⟨go6, 0, none⟩) x0_1.length co7) y299 := (by rw [hw, Ny299.out]; exact HP9.1); clear HP9; have n0_ := zA (hp_); have n1_ := zA ((by rw [hw]; exact below_set (HB.out) GB6.out : Below w0.heap.size w0 w10)); have n2_ := zA (Kept.of_grown (S := (fun k_ => P0_ k_)) hg (by repeat (first | (with_reducible first | exact HK.out | apply Kept.alloc | apply Kept.drewN | apply Kept.drew) | exact HK.out)) (fun k_ e_ => (HO_0.out.1 k_ e_))); clear HO_0; clear HB; clear HK; have HO_0 := n0_; have HB := n1_; have HK := n2_; clear n0_ n1_ n2_; clear hg hw hp_))
      go_roundg k1
      case measure => have := HK1.out; omega
      case rel => exact ⟨(y299), (wrap64 (x1_1 + 1)), (wrap64 (x5_1 + 1)), wF, wF, H', ⟨by have := HK1.out; omega⟩, ⟨wK HO_0.out⟩, ⟨by repeat (first | (with_reducible first | exact HK.out | apply Kept.alloc | apply Kept.drewN | apply Kept.drew) | exact HK.out)⟩, ⟨wA⟩⟩
     ·rw [if_neg c5] at H
      exact absurd H (by simp)
    ·rw [if_neg c3] at H
     have c3b0 : decide (x5_1 < (x0_1.length : Int)) = false := zK c3
     clear c3
     simp only [Option.some.injEq, Prod.mk.injEq] at H
     obtain ⟨rfl, rfl⟩ := H
     obtain ⟨Ao11, co11, eo11⟩ := Kd.R_slice HO_0.out
     subst eo11
     go_wp2
     go_ret
     exact ⟨wG, wK HO_0.out, wA, by repeat (first | (with_reducible first | exact HK.out | apply Kept.alloc | apply Kept.drewN | apply Kept.drew) | exact HK.out)⟩
end Go.Proofs.Ytfjcfklgnlmjjaa.PB
