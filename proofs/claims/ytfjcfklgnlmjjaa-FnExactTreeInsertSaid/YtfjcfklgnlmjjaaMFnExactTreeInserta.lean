-- Made by this session's programs out of the translation and of its own texts.
import Derived.Test.YtfjcfklgnlmjjaaVBx0
import Derived.BigQuiet
import Derived.Deep.RegionLaw
import Derived.Deep.RegionWith
import Derived.Laws.ResultCell
import Derived.Lib.SliceRun
import Derived.Shelf.Spec.SlicesInsertGrow
import Derived.StillTailTactics
import Derived.WalkLawsBesides
namespace Go.Proofs.Ytfjcfklgnlmjjaa.PB
open Go.RowKit Go.Proofs.YtfjcfklgnlmjjaaW.PrintWords Go.Proofs.YtfjcfklgnlmjjaaW.PrintLast Go.Proofs.YtfjcfklgnlmjjaaW.PrintMore
attribute [local go_sem] max2_int min2_int max_two min_two max_three min_three max_four min_four   -- for this text's walks alone
set_option linter.unusedVariables false
set_option linter.unusedSimpArgs false
theorem zA : type_of% @Aside0.mk := @Aside0.mk
theorem zB : type_of% @pw_below_drewN := @pw_below_drewN
theorem zC : type_of% @below_drew1 := @below_drew1
theorem zD : type_of% @blk_drewN := @blk_drewN
theorem zE : type_of% @blk_drew := @blk_drew
theorem zF : type_of% @blk_alloc := @blk_alloc
theorem zG : type_of% @blk_frozen := @blk_frozen
theorem zH : type_of% @blk_below := @blk_below
theorem zI : type_of% @of_decide_eq_true := @of_decide_eq_true
theorem zJ : type_of% @decide_eq_true := @decide_eq_true
theorem zK : type_of% @decide_eq_false := @decide_eq_false
theorem zL : type_of% @Option.some.inj := @Option.some.inj
theorem zM : type_of% @World.block_lt_of_cell? := @World.block_lt_of_cell?
theorem zN : type_of% @List.setIfInBounds_toArray := @List.setIfInBounds_toArray
theorem zO : type_of% @List.set_cons_zero := @List.set_cons_zero
theorem zP : type_of% @List.set_cons_succ := @List.set_cons_succ
theorem zQ : type_of% @Kd.C_below := @Kd.C_below
theorem zR : type_of% @Kd.C_alloc := @Kd.C_alloc
theorem zS : type_of% @Kd.C_drewN := @Kd.C_drewN
theorem zT : type_of% @Kd.C_drew := @Kd.C_drew
theorem zU : type_of% @below_step := @below_step
theorem zV : type_of% @below_size := @below_size
theorem zW : type_of% @List.length_take := @List.length_take
theorem zX : type_of% @List.length_drop := @List.length_drop
theorem zY : type_of% @Nat.le_refl := @Nat.le_refl
theorem zZ : type_of% @Below.refl := @Below.refl
theorem yA : type_of% @Kd.R_mono := @Kd.R_mono
theorem yB : type_of% @Kd.S_mono := @Kd.S_mono
theorem yC : type_of% @Kd.N_mono := @Kd.N_mono
theorem yD : type_of% @Kd.FK_mono := @Kd.FK_mono
theorem yE : type_of% @Kd.FK_below := @Kd.FK_below
theorem yF : type_of% @Kd.F_below := @Kd.F_below
theorem yG : type_of% @List.map_toArray := @List.map_toArray
theorem yH : type_of% @List.map_cons := @List.map_cons
theorem yI : type_of% @Nat.le_trans := @Nat.le_trans
theorem yJ : type_of% @Nat.lt_of_lt_of_le := @Nat.lt_of_lt_of_le
theorem yK : type_of% @results_cell_row := @results_cell_row
theorem yL : type_of% @take_ofW := @take_ofW
theorem yM : type_of% @any_of := @any_of
theorem yN : type_of% @one_of := @one_of
theorem wA {P : Prop} (h : P := by repeat (first | (with_reducible first | exact HB.out | apply below_alloc | apply zB | apply zC) | exact HB.out)) : P := h
theorem wB {P Q0 : Prop} (g0 : Q0) (f : Q0 → P := by intro e0; repeat (first | (with_reducible first | exact HB.out | apply below_alloc | apply zB | apply zC | refine below_set ?_ e0) | exact HB.out)) : P := f g0
theorem wC {P Q0 Q1 : Prop} (g0 : Q0) (g1 : Q1) (f : Q0 → Q1 → P := by intro e0 e1; repeat (first | (with_reducible first | exact HB.out | apply below_alloc | apply zB | apply zC | refine below_set ?_ e0 | refine below_set ?_ e1) | exact HB.out)) : P := f g0 g1
theorem wD {P Q0 Q1 Q2 : Prop} (g0 : Q0) (g1 : Q1) (g2 : Q2) (f : Q0 → Q1 → Q2 → P := by intro e0 e1 e2; repeat (first | (with_reducible first | exact HB.out | apply below_alloc | apply zB | apply zC | refine below_set ?_ e0 | refine below_set ?_ e1 | refine below_set ?_ e2) | exact HB.out)) : P := f g0 g1 g2
theorem wE {P : Prop} (h : P := by first | (with_reducible assumption) | assumption) : P := h
theorem wF {P : Prop} (h : P := by first | rfl | (simp; done) | (simp [*]; done)) : P := h
theorem wG {P : Prop} (h : P := by first | rfl | (simp [errW_none, errW_some] <;> rfl) | (simp [*, errW_none, errW_some] <;> rfl)) : P := h
theorem wH {P : Prop} (h : P := by (try simp only [yG, yH, List.map_nil]); first | done | rfl | (simp only [zX, zW]; rfl)) : P := h
theorem wI {P : Prop} (h : P := by repeat (first | exact Drawn0.refl _ | apply Drawn0.step)) : P := h
theorem wJ {P Q : Prop} (h : Q) (f : Q → P := by intro e0; (with_reducible repeat (first | refine zD ?_ _ | refine zE ?_ | refine zF ?_ _)); exact e0) : P := f h
theorem wK {P Q : Prop} (h : Q) (f : Q → P := by intro e0; (with_reducible repeat (first | apply Kd.R_alloc | apply Kd.R_drewN | apply Kd.R_drew)); exact e0) : P := f h
theorem wL {P Q : Prop} (h : Q) (f : Q → P := by intro e0; (with_reducible repeat (first | apply Kd.V_alloc | apply Kd.V_drewN | apply Kd.V_drew)); exact e0) : P := f h
theorem wM {P Q : Prop} (h : Q) (f : Q → P := by intro e0; (with_reducible repeat (first | apply Kd.S_alloc | apply Kd.S_drewN | apply Kd.S_drew)); exact e0) : P := f h
theorem wN {P Q : Prop} (h : Q) (f : Q → P := by intro e0; (with_reducible repeat (first | apply Kd.N_alloc | apply Kd.N_drewN | apply Kd.N_drew)); exact e0) : P := f h
theorem wO {α : Type _} {a b : α} {P Q : Prop} (h : a = b) (g : Q) (f : a = b → Q → P := by intro e0 H; first | (rw [e0]; with_reducible exact H) | (have H2_ := (Option.bind_some _ _).symm.trans H; rw [e0]; with_reducible exact H2_) | (have H2_ := (Option.bind_some _ _).symm.trans H; with_reducible exact H2_) | with_reducible exact H | (rw [e0]; exact H) | exact H) : P := f h g

/-! ### laws_eqStringS: function 23 -/
def laws_eqStringS.l0 : Nat → List ByteArray → List ByteArray → Int → Option (Bool)
 | 0, _, _, _ => none
 | k + 1, x0, x1, x5 => if x5 < (x0.length : Int) then (if 0 ≤ x5 then (if x5 < (x1.length : Int) then (if (rdOf ByteArray.empty x0 x5).toList = (rdOf ByteArray.empty x1 x5).toList then (laws_eqStringS.l0 k x0 x1 (wrap64 (x5 + 1))) else (some false)) else (none)) else (none)) else (some true)
def laws_eqStringS.f (k : Nat) (l0 : List ByteArray) (l1 : List ByteArray) : Option (Bool) := if (l0.length : Int) = (l1.length : Int) then (laws_eqStringS.l0 k l0 l1 0) else (some false)
set_option maxHeartbeats 8000000 in
set_option maxRecDepth 100000 in
theorem laws_eqStringS.calls (k : Nat) (A0 : Option Addr) (c0 : Nat) (l0 : List ByteArray) (A1 : Option Addr) (c1 : Nat) (l1 : List ByteArray) (r : Bool) (w : World) (hr0 : Kd.C Kd.string w A0 l0.length l0) (hc0 : l0.length ≤ c0) (hr1 : Kd.C Kd.string w A1 l1.length l1) (hc1 : l1.length ≤ c1) (h : laws_eqStringS.f k l0 l1 = some r) :
  Calls Try.prog 23 #[.slice A0 l0.length c0, .slice A1 l1.length c1] w fun e w' => e = .returned (.bool r) ∧ Drawn0 w w' := by
 have HR0 := zA hr0
 have HC0 := zA hc0
 clear hr0 hc0
 have HR1 := zA hr1
 have HC1 := zA hc1
 clear hr1 hc1
 have H : (if (l0.length : Int) = (l1.length : Int) then (laws_eqStringS.l0 k l0 l1 0) else (some false)) = some r := h
 clear h
 by_cases c3 : (l0.length : Int) = (l1.length : Int)
 ·rw [if_pos c3] at H
  have c3b0 : ((l0.length : Int) == (l1.length : Int)) = true := beq_iff_eq.mpr c3
  have c3b1 : ((l0.length : Int) != (l1.length : Int)) = false := bne_eq_false_iff_eq.mpr c3
  have c3b2 : (l0.length == l1.length) = true := by first | simpa using c3 | (simp at c3 ⊢; omega)
  clear c3
  have H' := zA H
  clear H
  go_enter Try.func23, Try.ntmps23
  go_wp2
  repeat (go_quiet (fail); try go_wp2)
  go_loopg [5] k (fun kq v5 w' => ∃ (x5_1 : Int), v5 = .int .i64 x5_1 ∧ Aside0 (laws_eqStringS.l0 kq l0 l1 x5_1 = some r) ∧ Aside0 (kq ≤ k) ∧ Drawn0 w w')
  case atStart => exact ⟨(0), wF, H', ⟨zY _⟩, wI⟩
  case round =>
   clear H'
   try clear c1
   try clear c2
   try clear p2
   try clear c3
   try clear c3b0
   try clear c3b1
   try clear c3b2
   obtain ⟨x5_1, rfl, HA, HK1, ⟨m1, rfl⟩⟩ := hrel
   cases gk with
   | zero => exact absurd HA.out (by simp [laws_eqStringS.l0])
   | succ k1 =>
     have H := HA.out
     clear HA
     simp only [laws_eqStringS.l0] at H
     by_cases c4 : x5_1 < (l0.length : Int)
     ·rw [if_pos c4] at H
      have c4b0 : decide (x5_1 < (l0.length : Int)) = true := zJ c4
      clear c4
      by_cases c5 : 0 ≤ x5_1
      ·rw [if_pos c5] at H
       have c5b0 : decide (0 ≤ x5_1) = true := zJ c5
       clear c5
       by_cases c6 : x5_1 < (l1.length : Int)
       ·rw [if_pos c6] at H
        have c6b0 : decide (x5_1 < (l1.length : Int)) = true := zJ c6
        clear c6
        by_cases c7 : (rdOf ByteArray.empty l0 x5_1).toList = (rdOf ByteArray.empty l1 x5_1).toList
        ·rw [if_pos c7] at H
         have c7b0 : ((rdOf ByteArray.empty l0 x5_1).toList == (rdOf ByteArray.empty l1 x5_1).toList) = true := beq_iff_eq.mpr c7
         have c7b1 : ((rdOf ByteArray.empty l0 x5_1).toList != (rdOf ByteArray.empty l1 x5_1).toList) = false := bne_eq_false_iff_eq.mpr c7
         clear c7
         have H' := zA H
         clear H
         have p101 : 0 ≤ (x5_1 : Int) := zI wE
         have q101 : x5_1 < (l0.length : Int) := zI wE
         obtain ⟨ad101, e101, hx101_0⟩ := Kd.at_string HR0.out x5_1 p101 q101
         cases e101
         replace p101 := eq_true p101
         replace q101 := eq_true q101
         have p102 : 0 ≤ (x5_1 : Int) := zI wE
         have q102 : x5_1 < (l1.length : Int) := zI wE
         obtain ⟨ad102, e102, hx102_0⟩ := Kd.at_string HR1.out x5_1 p102 q102
         cases e102
         replace p102 := eq_true p102
         replace q102 := eq_true q102
         go_wp2
         repeat (go_quiet (fail); try go_wp2)
         go_roundg k1
         case measure => have := HK1.out; omega
         case rel => exact ⟨(wrap64 (x5_1 + 1)), wF, H', ⟨by have := HK1.out; omega⟩, wI⟩
        ·rw [if_neg c7] at H
         have c7b0 : ((rdOf ByteArray.empty l0 x5_1).toList == (rdOf ByteArray.empty l1 x5_1).toList) = false := beq_eq_false_iff_ne.mpr c7
         have c7b1 : ((rdOf ByteArray.empty l0 x5_1).toList != (rdOf ByteArray.empty l1 x5_1).toList) = true := bne_iff_ne.mpr c7
         obtain rfl := zL H
         have p101 : 0 ≤ (x5_1 : Int) := zI wE
         have q101 : x5_1 < (l0.length : Int) := zI wE
         obtain ⟨ad101, e101, hx101_0⟩ := Kd.at_string HR0.out x5_1 p101 q101
         cases e101
         replace p101 := eq_true p101
         replace q101 := eq_true q101
         have p102 : 0 ≤ (x5_1 : Int) := zI wE
         have q102 : x5_1 < (l1.length : Int) := zI wE
         obtain ⟨ad102, e102, hx102_0⟩ := Kd.at_string HR1.out x5_1 p102 q102
         cases e102
         replace p102 := eq_true p102
         replace q102 := eq_true q102
         go_wp2
         repeat (go_quiet (fail); try go_wp2)
         go_ret
         exact ⟨wF, wI⟩
       ·rw [if_neg c6] at H
        exact absurd H (by simp)
      ·rw [if_neg c5] at H
       exact absurd H (by simp)
     ·rw [if_neg c4] at H
      have c4b0 : decide (x5_1 < (l0.length : Int)) = false := zK c4
      clear c4
      obtain rfl := zL H
      go_wp2
      repeat (go_quiet (fail); try go_wp2)
      go_ret
      exact ⟨wF, wI⟩
 ·rw [if_neg c3] at H
  have c3b0 : ((l0.length : Int) == (l1.length : Int)) = false := beq_eq_false_iff_ne.mpr c3
  have c3b1 : ((l0.length : Int) != (l1.length : Int)) = true := bne_iff_ne.mpr c3
  have c3b2 : (l0.length == l1.length) = false := by first | simpa using c3 | (simp at c3 ⊢; omega)
  obtain rfl := zL H
  go_enter Try.func23, Try.ntmps23
  go_wp2
  repeat (go_quiet (fail); try go_wp2)
  go_ret
  exact ⟨wF, wI⟩

/-! ### laws_eqInt64S: function 87 -/
def laws_eqInt64S.l0 : Nat → List Int → List Int → Int → Option (Bool)
 | 0, _, _, _ => none
 | k + 1, x0, x1, x5 => if x5 < (x0.length : Int) then (if 0 ≤ x5 then (if x5 < (x1.length : Int) then (if (rd x0 x5) = (rd x1 x5) then (laws_eqInt64S.l0 k x0 x1 (wrap64 (x5 + 1))) else (some false)) else (none)) else (none)) else (some true)
def laws_eqInt64S.f (k : Nat) (l0 : List Int) (l1 : List Int) : Option (Bool) := if (l0.length : Int) = (l1.length : Int) then (laws_eqInt64S.l0 k l0 l1 0) else (some false)
set_option maxHeartbeats 8000000 in
set_option maxRecDepth 100000 in
theorem laws_eqInt64S.calls (k : Nat) (A0 : Option Addr) (c0 : Nat) (l0 : List Int) (A1 : Option Addr) (c1 : Nat) (l1 : List Int) (r : Bool) (w : World) (hr0 : Kd.C (Kd.int .i64) w A0 l0.length l0) (hc0 : l0.length ≤ c0) (hr1 : Kd.C (Kd.int .i64) w A1 l1.length l1) (hc1 : l1.length ≤ c1) (h : laws_eqInt64S.f k l0 l1 = some r) :
  Calls Try.prog 87 #[.slice A0 l0.length c0, .slice A1 l1.length c1] w fun e w' => e = .returned (.bool r) ∧ Drawn0 w w' := by
 have HR0 := zA hr0
 have HC0 := zA hc0
 clear hr0 hc0
 have HR1 := zA hr1
 have HC1 := zA hc1
 clear hr1 hc1
 have H : (if (l0.length : Int) = (l1.length : Int) then (laws_eqInt64S.l0 k l0 l1 0) else (some false)) = some r := h
 clear h
 by_cases c3 : (l0.length : Int) = (l1.length : Int)
 ·rw [if_pos c3] at H
  have c3b0 : ((l0.length : Int) == (l1.length : Int)) = true := beq_iff_eq.mpr c3
  have c3b1 : ((l0.length : Int) != (l1.length : Int)) = false := bne_eq_false_iff_eq.mpr c3
  have c3b2 : (l0.length == l1.length) = true := by first | simpa using c3 | (simp at c3 ⊢; omega)
  clear c3
  have H' := zA H
  clear H
  go_enter Try.func87, Try.ntmps87
  go_wp2
  repeat (go_quiet (fail); try go_wp2)
  go_loopg [5] k (fun kq v5 w' => ∃ (x5_1 : Int), v5 = .int .i64 x5_1 ∧ Aside0 (laws_eqInt64S.l0 kq l0 l1 x5_1 = some r) ∧ Aside0 (kq ≤ k) ∧ Drawn0 w w')
  case atStart => exact ⟨(0), wF, H', ⟨zY _⟩, wI⟩
  case round =>
   clear H'
   try clear c1
   try clear p2
   try clear c3
   try clear c3b0
   try clear c3b1
   try clear c3b2
   obtain ⟨x5_1, rfl, HA, HK1, ⟨m1, rfl⟩⟩ := hrel
   cases gk with
   | zero => exact absurd HA.out (by simp [laws_eqInt64S.l0])
   | succ k1 =>
     have H := HA.out
     clear HA
     simp only [laws_eqInt64S.l0] at H
     by_cases c4 : x5_1 < (l0.length : Int)
     ·rw [if_pos c4] at H
      have c4b0 : decide (x5_1 < (l0.length : Int)) = true := zJ c4
      clear c4
      by_cases c5 : 0 ≤ x5_1
      ·rw [if_pos c5] at H
       have c5b0 : decide (0 ≤ x5_1) = true := zJ c5
       clear c5
       by_cases c6 : x5_1 < (l1.length : Int)
       ·rw [if_pos c6] at H
        have c6b0 : decide (x5_1 < (l1.length : Int)) = true := zJ c6
        clear c6
        by_cases c7 : (rd l0 x5_1) = (rd l1 x5_1)
        ·rw [if_pos c7] at H
         have c7b0 : ((rd l0 x5_1) == (rd l1 x5_1)) = true := beq_iff_eq.mpr c7
         have c7b1 : ((rd l0 x5_1) != (rd l1 x5_1)) = false := bne_eq_false_iff_eq.mpr c7
         clear c7
         have H' := zA H
         clear H
         have p103 : 0 ≤ (x5_1 : Int) := zI wE
         have q103 : x5_1 < (l0.length : Int) := zI wE
         obtain ⟨ad103, e103, hx103_0⟩ := Kd.at_int HR0.out x5_1 p103 q103
         cases e103
         replace p103 := eq_true p103
         replace q103 := eq_true q103
         have p104 : 0 ≤ (x5_1 : Int) := zI wE
         have q104 : x5_1 < (l1.length : Int) := zI wE
         obtain ⟨ad104, e104, hx104_0⟩ := Kd.at_int HR1.out x5_1 p104 q104
         cases e104
         replace p104 := eq_true p104
         replace q104 := eq_true q104
         go_wp2
         repeat (go_quiet (fail); try go_wp2)
         go_roundg k1
         case measure => have := HK1.out; omega
         case rel => exact ⟨(wrap64 (x5_1 + 1)), wF, H', ⟨by have := HK1.out; omega⟩, wI⟩
        ·rw [if_neg c7] at H
         have c7b0 : ((rd l0 x5_1) == (rd l1 x5_1)) = false := beq_eq_false_iff_ne.mpr c7
         have c7b1 : ((rd l0 x5_1) != (rd l1 x5_1)) = true := bne_iff_ne.mpr c7
         obtain rfl := zL H
         have p103 : 0 ≤ (x5_1 : Int) := zI wE
         have q103 : x5_1 < (l0.length : Int) := zI wE
         obtain ⟨ad103, e103, hx103_0⟩ := Kd.at_int HR0.out x5_1 p103 q103
         cases e103
         replace p103 := eq_true p103
         replace q103 := eq_true q103
         have p104 : 0 ≤ (x5_1 : Int) := zI wE
         have q104 : x5_1 < (l1.length : Int) := zI wE
         obtain ⟨ad104, e104, hx104_0⟩ := Kd.at_int HR1.out x5_1 p104 q104
         cases e104
         replace p104 := eq_true p104
         replace q104 := eq_true q104
         go_wp2
         repeat (go_quiet (fail); try go_wp2)
         go_ret
         exact ⟨wF, wI⟩
       ·rw [if_neg c6] at H
        exact absurd H (by simp)
      ·rw [if_neg c5] at H
       exact absurd H (by simp)
     ·rw [if_neg c4] at H
      have c4b0 : decide (x5_1 < (l0.length : Int)) = false := zK c4
      clear c4
      obtain rfl := zL H
      go_wp2
      repeat (go_quiet (fail); try go_wp2)
      go_ret
      exact ⟨wF, wI⟩
 ·rw [if_neg c3] at H
  have c3b0 : ((l0.length : Int) == (l1.length : Int)) = false := beq_eq_false_iff_ne.mpr c3
  have c3b1 : ((l0.length : Int) != (l1.length : Int)) = true := bne_iff_ne.mpr c3
  have c3b2 : (l0.length == l1.length) = false := by first | simpa using c3 | (simp at c3 ⊢; omega)
  obtain rfl := zL H
  go_enter Try.func87, Try.ntmps87
  go_wp2
  repeat (go_quiet (fail); try go_wp2)
  go_ret
  exact ⟨wF, wI⟩

/-! ### laws_eqTNode: function 62 -/
def laws_eqTNode.f (k : Nat) (a0_0 : Bool) (l0_1 : List ByteArray) (l0_2 : List Int) (a0_3 : Int) (a1_0 : Bool) (l1_1 : List ByteArray) (l1_2 : List Int) (a1_3 : Int) : Option (Bool) := if (a0_0 != a1_0) = true then (some false) else ((laws_eqStringS.f k l0_1 l1_1).bind fun t107 => (if t107 = true then ((laws_eqInt64S.f k l0_2 l1_2).bind fun t108 => (if t108 = true then (if a0_3 = a1_3 then (some true) else (some false)) else (some false))) else (some false)))
set_option maxHeartbeats 4000000 in
set_option maxRecDepth 100000 in
theorem laws_eqTNode.calls (k : Nat) (a0_0 : Bool) (A0_1 : Option Addr) (c0_1 : Nat) (l0_1 : List ByteArray) (A0_2 : Option Addr) (c0_2 : Nat) (l0_2 : List Int) (a0_3 : Int) (a1_0 : Bool) (A1_1 : Option Addr) (c1_1 : Nat) (l1_1 : List ByteArray) (A1_2 : Option Addr) (c1_2 : Nat) (l1_2 : List Int) (a1_3 : Int) (r : Bool) (w : World) (hr0_1 : Kd.C Kd.string w A0_1 l0_1.length l0_1) (hc0_1 : l0_1.length ≤ c0_1) (hr0_2 : Kd.C (Kd.int .i64) w A0_2 l0_2.length l0_2) (hc0_2 : l0_2.length ≤ c0_2) (hr1_1 : Kd.C Kd.string w A1_1 l1_1.length l1_1) (hc1_1 : l1_1.length ≤ c1_1) (hr1_2 : Kd.C (Kd.int .i64) w A1_2 l1_2.length l1_2) (hc1_2 : l1_2.length ≤ c1_2) (h : laws_eqTNode.f k a0_0 l0_1 l0_2 a0_3 a1_0 l1_1 l1_2 a1_3 = some r) :
  Calls Try.prog 62 #[.agg #[.bool a0_0, .slice A0_1 l0_1.length c0_1, .slice A0_2 l0_2.length c0_2, .int .i64 a0_3], .agg #[.bool a1_0, .slice A1_1 l1_1.length c1_1, .slice A1_2 l1_2.length c1_2, .int .i64 a1_3]] w fun e w' => e = .returned (.bool r) ∧ Below w.heap.size w w' := by
 have hu := Try.underlying90
 have hb0 : Below w.heap.size w ((w.alloc (.cells #[.bool a0_0, .slice A0_1 l0_1.length c0_1, .slice A0_2 l0_2.length c0_2, .int .i64 a0_3] 90)).alloc (.cells #[.bool a1_0, .slice A1_1 l1_1.length c1_1, .slice A1_2 l1_2.length c1_2, .int .i64 a1_3] 90)) := below_alloc (below_alloc (zZ _ _) _) _
 have K0 := zF (blk_new w (.cells #[.bool a0_0, .slice A0_1 l0_1.length c0_1, .slice A0_2 l0_2.length c0_2, .int .i64 a0_3] 90)) (.cells #[.bool a1_0, .slice A1_1 l1_1.length c1_1, .slice A1_2 l1_2.length c1_2, .int .i64 a1_3] 90)
 have K1 := blk_new (w.alloc (.cells #[.bool a0_0, .slice A0_1 l0_1.length c0_1, .slice A0_2 l0_2.length c0_2, .int .i64 a0_3] 90)) (.cells #[.bool a1_0, .slice A1_1 l1_1.length c1_1, .slice A1_2 l1_2.length c1_2, .int .i64 a1_3] 90)
 rw [show (w.alloc (.cells #[.bool a0_0, .slice A0_1 l0_1.length c0_1, .slice A0_2 l0_2.length c0_2, .int .i64 a0_3] 90)).heap.size = w.heap.size + 1 by simp] at K1
 have HK := zA K0
 have HK1 := zA K1
 have HB := zA hb0
 have C01 := zA (And.intro (zQ hr0_1 hb0) hc0_1)
 have C02 := zA (And.intro (zQ hr0_2 hb0) hc0_2)
 have C11 := zA (And.intro (zQ hr1_1 hb0) hc1_1)
 have C12 := zA (And.intro (zQ hr1_2 hb0) hc1_2)
 unfold laws_eqTNode.f at h
 have HH := zA h
 clear hb0 K0 K1 hr0_1 hc0_1 hr0_2 hc0_2 hr1_1 hc1_1 hr1_2 hc1_2 h
 go_enter Try.func62, Try.ntmps62
 go_upto_region 1 with (fail)
 generalize (w.alloc (.cells #[.bool a0_0, .slice A0_1 l0_1.length c0_1, .slice A0_2 l0_2.length c0_2, .int .i64 a0_3] 90)).alloc (.cells #[.bool a1_0, .slice A1_1 l1_1.length c1_1, .slice A1_2 l1_2.length c1_2, .int .i64 a1_3] 90) = W2 at *
 have x0 : W2.cell? ⟨w.heap.size, 0, none⟩ = some (.bool a0_0) := (blk_cell HK.out 0).trans rfl
 have x1 : W2.cell? ⟨w.heap.size, 1, none⟩ = some (.slice A0_1 l0_1.length c0_1) := (blk_cell HK.out 1).trans rfl
 have x2 : W2.cell? ⟨w.heap.size, 2, none⟩ = some (.slice A0_2 l0_2.length c0_2) := (blk_cell HK.out 2).trans rfl
 have x3 : W2.cell? ⟨w.heap.size, 3, none⟩ = some (.int .i64 a0_3) := (blk_cell HK.out 3).trans rfl
 have y0 : W2.cell? ⟨w.heap.size + 1, 0, none⟩ = some (.bool a1_0) := (blk_cell HK1.out 0).trans rfl
 have y1 : W2.cell? ⟨w.heap.size + 1, 1, none⟩ = some (.slice A1_1 l1_1.length c1_1) := (blk_cell HK1.out 1).trans rfl
 have y2 : W2.cell? ⟨w.heap.size + 1, 2, none⟩ = some (.slice A1_2 l1_2.length c1_2) := (blk_cell HK1.out 2).trans rfl
 have y3 : W2.cell? ⟨w.heap.size + 1, 3, none⟩ = some (.int .i64 a1_3) := (blk_cell HK1.out 3).trans rfl
 have h := HH.out
 clear HH
 by_cases c0 : (a0_0 != a1_0) = true
 ·rw [if_pos c0] at h
  injection h with h
  subst h
  have c2 : a0_0 ≠ a1_0 := by simpa using c0
  clear c0
  cases a0_0 <;> cases a1_0 <;> first | exact absurd rfl c2 | (clear c2; go_wp2_with fail; go_ret; exact ⟨rfl, HB.out⟩)
 ·rw [if_neg c0] at h
  have c1 : (a0_0 != a1_0) = false := by simpa using c0
  have c2 : a0_0 = a1_0 := by simpa using c0
  subst c2
  obtain ⟨t1, e1, h⟩ := Option.bind_eq_some_iff.mp h
  have E1 := zA e1
  have HH := zA h
  clear e1 h c0
  go_wp2_with fail
  refine (laws_eqStringS.calls k _ _ _ _ _ _ t1 W2 C01.out.1 C01.out.2 C11.out.1 C11.out.2 E1.out).mono ?_
  rintro e W3 ⟨rfl, hdr⟩
  have hb := hdr.below
  have HB3 := zA (HB.out.trans ⟨hb.os, hb.tape, hb.output, hb.size, fun k hk => hb.block k (yJ hk HB.out.size)⟩)
  have HK3 := zA (zH HK.out hb)
  have HK13 := zA (zH HK1.out hb)
  have C023 := zA (zQ C02.out.1 hb)
  have C123 := zA (zQ C12.out.1 hb)
  clear hdr hb x0 x1 x2 x3 y0 y1 y2 y3
  have x0 : W3.cell? ⟨w.heap.size, 0, none⟩ = some (.bool a0_0) := (blk_cell HK3.out 0).trans rfl
  have x1 : W3.cell? ⟨w.heap.size, 1, none⟩ = some (.slice A0_1 l0_1.length c0_1) := (blk_cell HK3.out 1).trans rfl
  have x2 : W3.cell? ⟨w.heap.size, 2, none⟩ = some (.slice A0_2 l0_2.length c0_2) := (blk_cell HK3.out 2).trans rfl
  have x3 : W3.cell? ⟨w.heap.size, 3, none⟩ = some (.int .i64 a0_3) := (blk_cell HK3.out 3).trans rfl
  have y0 : W3.cell? ⟨w.heap.size + 1, 0, none⟩ = some (.bool a0_0) := (blk_cell HK13.out 0).trans rfl
  have y1 : W3.cell? ⟨w.heap.size + 1, 1, none⟩ = some (.slice A1_1 l1_1.length c1_1) := (blk_cell HK13.out 1).trans rfl
  have y2 : W3.cell? ⟨w.heap.size + 1, 2, none⟩ = some (.slice A1_2 l1_2.length c1_2) := (blk_cell HK13.out 2).trans rfl
  have y3 : W3.cell? ⟨w.heap.size + 1, 3, none⟩ = some (.int .i64 a1_3) := (blk_cell HK13.out 3).trans rfl
  have h := HH.out
  clear HH
  cases t1 with
  | false =>
    injection h with h
    subst h
    go_wp2_with fail
    go_ret
    exact ⟨rfl, HB3.out⟩
  | true =>
    rw [if_pos rfl] at h
    obtain ⟨t2, e2, h⟩ := Option.bind_eq_some_iff.mp h
    have E2 := zA e2
    have HH := zA h
    clear e2 h
    go_wp2_with fail
    refine (laws_eqInt64S.calls k _ _ _ _ _ _ t2 W3 C023.out C02.out.2 C123.out C12.out.2 E2.out).mono ?_
    rintro e W4 ⟨rfl, hdr⟩
    have hb := hdr.below
    have HB4 := zA (HB3.out.trans ⟨hb.os, hb.tape, hb.output, hb.size, fun k hk => hb.block k (yJ hk HB3.out.size)⟩)
    have HK4 := zA (zH HK3.out hb)
    have HK14 := zA (zH HK13.out hb)
    clear hdr hb x0 x1 x2 x3 y0 y1 y2 y3
    have x0 : W4.cell? ⟨w.heap.size, 0, none⟩ = some (.bool a0_0) := (blk_cell HK4.out 0).trans rfl
    have x1 : W4.cell? ⟨w.heap.size, 1, none⟩ = some (.slice A0_1 l0_1.length c0_1) := (blk_cell HK4.out 1).trans rfl
    have x2 : W4.cell? ⟨w.heap.size, 2, none⟩ = some (.slice A0_2 l0_2.length c0_2) := (blk_cell HK4.out 2).trans rfl
    have x3 : W4.cell? ⟨w.heap.size, 3, none⟩ = some (.int .i64 a0_3) := (blk_cell HK4.out 3).trans rfl
    have y0 : W4.cell? ⟨w.heap.size + 1, 0, none⟩ = some (.bool a0_0) := (blk_cell HK14.out 0).trans rfl
    have y1 : W4.cell? ⟨w.heap.size + 1, 1, none⟩ = some (.slice A1_1 l1_1.length c1_1) := (blk_cell HK14.out 1).trans rfl
    have y2 : W4.cell? ⟨w.heap.size + 1, 2, none⟩ = some (.slice A1_2 l1_2.length c1_2) := (blk_cell HK14.out 2).trans rfl
    have y3 : W4.cell? ⟨w.heap.size + 1, 3, none⟩ = some (.int .i64 a1_3) := (blk_cell HK14.out 3).trans rfl
    have h := HH.out
    clear HH
    cases t2 with
    | false =>
      injection h with h
      subst h
      go_wp2_with fail
      go_ret
      exact ⟨rfl, HB4.out⟩
    | true =>
      rw [if_pos rfl] at h
      by_cases c3 : a0_3 = a1_3
      ·rw [if_pos c3] at h
       injection h with h
       subst h
       subst c3
       go_wp2_with fail
       go_ret
       exact ⟨rfl, HB4.out⟩
      ·rw [if_neg c3] at h
       injection h with h
       subst h
       have c4 : (a0_3 != a1_3) = true := by simpa using c3
       have c5 : decide (a0_3 = a1_3) = false := zK c3
       have c6 : (a0_3 == a1_3) = false := by simpa using c3
       go_wp2_with fail
       go_ret
       exact ⟨rfl, HB4.out⟩

/-! ### laws_eqTNodeS: function 40 -/
def laws_eqTNodeS.l0 : Nat → List (S90) → List (S90) → Int → Option (Bool)
 | 0, _, _, _ => none
 | k + 1, x0, x1, x5 => if x5 < (x0.length : Int) then (if 0 ≤ x5 then (if x5 < (x1.length : Int) then ((laws_eqTNode.f k ((rd_T90 x0 x5).f0) ((rd_T90 x0 x5).f1) ((rd_T90 x0 x5).f2) ((rd_T90 x0 x5).f3) ((rd_T90 x1 x5).f0) ((rd_T90 x1 x5).f1) ((rd_T90 x1 x5).f2) ((rd_T90 x1 x5).f3)).bind fun t111 => (if t111 = true then (laws_eqTNodeS.l0 k x0 x1 (wrap64 (x5 + 1))) else (some false))) else (none)) else (none)) else (some true)
def laws_eqTNodeS.f (k : Nat) (l0 : List (S90)) (l1 : List (S90)) : Option (Bool) := if (l0.length : Int) = (l1.length : Int) then (laws_eqTNodeS.l0 k l0 l1 0) else (some false)
def laws_eqTNodeS.T6 : Bool × List (List Nat × List Nat) := (true, [([], []), ([], []), ([0, 1], [0, 1]), ([2], [2]), ([], []), ([], []), ([4, 5], [4, 5]), ([6], [6]), ([3, 7], [3, 7]), ([8], [8])])
def laws_eqTNodeS.B6 : List Nat := [0, 0, 3, 7, 0, 0, 48, 112, 255, 511]
theorem laws_eqTNodeS.tab6 : rtab .any (opsOf Try.f40 6) = laws_eqTNodeS.T6 := by kernel_rfl
theorem laws_eqTNodeS.bits6 : waitsOk laws_eqTNodeS.T6.2 laws_eqTNodeS.B6 = true := by kernel_rfl
set_option maxHeartbeats 8000000 in
set_option maxRecDepth 100000 in
theorem laws_eqTNodeS.calls (k : Nat) (A0 : Option Addr) (c0 : Nat) (l0 : List (S90)) (A1 : Option Addr) (c1 : Nat) (l1 : List (S90)) (r : Bool) (w : World) (hr0 : Kd.C k90 w A0 l0.length l0) (hc0 : l0.length ≤ c0) (hr1 : Kd.C k90 w A1 l1.length l1) (hc1 : l1.length ≤ c1) (h : laws_eqTNodeS.f k l0 l1 = some r) :
  Calls Try.prog 40 #[.slice A0 l0.length c0, .slice A1 l1.length c1] w fun e w' => e = .returned (.bool r) ∧ Below w.heap.size w w' := by
 have hu90 := Try.underlying90
 have HR0 := zA hr0
 have HC0 := zA hc0
 clear hr0 hc0
 have HR1 := zA hr1
 have HC1 := zA hc1
 clear hr1 hc1
 have HB := zA (zZ w.heap.size w)
 have H : (if (l0.length : Int) = (l1.length : Int) then (laws_eqTNodeS.l0 k l0 l1 0) else (some false)) = some r := h
 clear h
 by_cases c3 : (l0.length : Int) = (l1.length : Int)
 ·rw [if_pos c3] at H
  have c3b0 : ((l0.length : Int) == (l1.length : Int)) = true := beq_iff_eq.mpr c3
  have c3b1 : ((l0.length : Int) != (l1.length : Int)) = false := bne_eq_false_iff_eq.mpr c3
  have c3b2 : (l0.length == l1.length) = true := by first | simpa using c3 | (simp at c3 ⊢; omega)
  clear c3
  have H' := zA H
  clear H
  go_enter Try.func40, Try.ntmps40
  go_wp2
  go_loopg [5] k (fun kq v5 w' => ∃ (x5_1 : Int), v5 = .int .i64 x5_1 ∧ Aside0 (laws_eqTNodeS.l0 kq l0 l1 x5_1 = some r) ∧ Aside0 (kq ≤ k) ∧ Aside0 (Below w.heap.size w w'))
  case atStart => exact ⟨(0), wF, H', ⟨zY _⟩, ⟨wA⟩⟩
  case round =>
   clear H'
   try clear c1
   try clear p2
   try clear c3
   try clear c3b0
   try clear c3b1
   try clear c3b2
   obtain ⟨x5_1, rfl, HA, HK1, HB⟩ := hrel
   cases gk with
   | zero => exact absurd HA.out (by simp [laws_eqTNodeS.l0])
   | succ k1 =>
     have H := HA.out
     clear HA
     simp only [laws_eqTNodeS.l0] at H
     by_cases c4 : x5_1 < (l0.length : Int)
     ·rw [if_pos c4] at H
      have c4b0 : decide (x5_1 < (l0.length : Int)) = true := zJ c4
      clear c4
      by_cases c5 : 0 ≤ x5_1
      ·rw [if_pos c5] at H
       have c5b0 : decide (0 ≤ x5_1) = true := zJ c5
       clear c5
       by_cases c6 : x5_1 < (l1.length : Int)
       ·rw [if_pos c6] at H
        have c6b0 : decide (x5_1 < (l1.length : Int)) = true := zJ c6
        clear c6
        replace H := Option.bind_eq_some_iff.mp H
        obtain ⟨t111, A70, H⟩ := H
        replace H : (if t111 = true then (laws_eqTNodeS.l0 k1 l0 l1 (wrap64 (x5_1 + 1))) else (some false)) = some r := H
        have A7 := zA A70
        clear A70
        by_cases c8 : t111 = true
        ·subst c8
         have H1 : (laws_eqTNodeS.l0 k1 l0 l1 (wrap64 (x5_1 + 1))) = some r := by rw [if_pos rfl] at H; exact H
         clear H
         have H := H1
         clear H1
         have H' := zA H
         clear H
         try go_wp2
         have n0_ := zA (zC HB.out)
         clear HB
         have HB := n0_
         clear n0_
         have p109 : 0 ≤ (x5_1 : Int) := zI wE
         have q109 : x5_1 < (l0.length : Int) := zI wE
         obtain ⟨ad109, A109_1, c109_1, A109_2, c109_2, e109, hx109_0, hx109_1, hx109_2, hx109_3, hl109_1, hi109_1, hl109_2, hi109_2⟩ := at_T90 HR0.out x5_1 p109 q109
         have hw109_3 := hx109_3
         have hw109_2 := hx109_2
         have hw109_1 := hx109_1
         have hw109_0 := hx109_0
         cases e109
         replace hx109_0 := (HB.out.cell (zM w _ hx109_0)).trans hx109_0
         replace hx109_1 := (HB.out.cell (zM w _ hx109_1)).trans hx109_1
         replace hx109_2 := (HB.out.cell (zM w _ hx109_2)).trans hx109_2
         replace hx109_3 := (HB.out.cell (zM w _ hx109_3)).trans hx109_3
         have HR109_1 := zA hi109_1
         have HC109_1 := zA hl109_1
         clear hi109_1 hl109_1
         have HR109_2 := zA hi109_2
         have HC109_2 := zA hl109_2
         clear hi109_2 hl109_2
         replace p109 := eq_true p109
         replace q109 := eq_true q109
         have p110 : 0 ≤ (x5_1 : Int) := zI wE
         have q110 : x5_1 < (l1.length : Int) := zI wE
         obtain ⟨ad110, A110_1, c110_1, A110_2, c110_2, e110, hx110_0, hx110_1, hx110_2, hx110_3, hl110_1, hi110_1, hl110_2, hi110_2⟩ := at_T90 HR1.out x5_1 p110 q110
         have hw110_3 := hx110_3
         have hw110_2 := hx110_2
         have hw110_1 := hx110_1
         have hw110_0 := hx110_0
         cases e110
         replace hx110_0 := (HB.out.cell (zM w _ hx110_0)).trans hx110_0
         replace hx110_1 := (HB.out.cell (zM w _ hx110_1)).trans hx110_1
         replace hx110_2 := (HB.out.cell (zM w _ hx110_2)).trans hx110_2
         replace hx110_3 := (HB.out.cell (zM w _ hx110_3)).trans hx110_3
         have HR110_1 := zA hi110_1
         have HC110_1 := zA hl110_1
         clear hi110_1 hl110_1
         have HR110_2 := zA hi110_2
         have HC110_2 := zA hl110_2
         clear hi110_2 hl110_2
         replace p110 := eq_true p110
         replace q110 := eq_true q110
         refine start_ (n := 10) (S := fun w' => w'.cell? (ad109.add ((x5_1).toNat * 4)) = some (.bool ((rd_T90 l0 x5_1).f0)) ∧ w'.cell? ⟨(ad109.add ((x5_1).toNat * 4)).block, (ad109.add ((x5_1).toNat * 4)).off + 1, none⟩ = some (.slice A109_1 ((rd_T90 l0 x5_1).f1).length c109_1) ∧ w'.cell? ⟨(ad109.add ((x5_1).toNat * 4)).block, (ad109.add ((x5_1).toNat * 4)).off + 2, none⟩ = some (.slice A109_2 ((rd_T90 l0 x5_1).f2).length c109_2) ∧ w'.cell? ⟨(ad109.add ((x5_1).toNat * 4)).block, (ad109.add ((x5_1).toNat * 4)).off + 3, none⟩ = some (.int .i64 ((rd_T90 l0 x5_1).f3)) ∧ w'.cell? (ad110.add ((x5_1).toNat * 4)) = some (.bool ((rd_T90 l1 x5_1).f0)) ∧ w'.cell? ⟨(ad110.add ((x5_1).toNat * 4)).block, (ad110.add ((x5_1).toNat * 4)).off + 1, none⟩ = some (.slice A110_1 ((rd_T90 l1 x5_1).f1).length c110_1) ∧ w'.cell? ⟨(ad110.add ((x5_1).toNat * 4)).block, (ad110.add ((x5_1).toNat * 4)).off + 2, none⟩ = some (.slice A110_2 ((rd_T90 l1 x5_1).f2).length c110_2) ∧ w'.cell? ⟨(ad110.add ((x5_1).toNat * 4)).block, (ad110.add ((x5_1).toNat * 4)).off + 3, none⟩ = some (.int .i64 ((rd_T90 l1 x5_1).f3))) (ds := []) #[false, false, false, false, false, false, false, false, false, false] (by kernel_rfl) rfl rfl ⟨((HB.out.cell (zM w _ hw109_0)).trans hw109_0), ((HB.out.cell (zM w _ hw109_1)).trans hw109_1), ((HB.out.cell (zM w _ hw109_2)).trans hw109_2), ((HB.out.cell (zM w _ hw109_3)).trans hw109_3), ((HB.out.cell (zM w _ hw110_0)).trans hw110_0), ((HB.out.cell (zM w _ hw110_1)).trans hw110_1), ((HB.out.cell (zM w _ hw110_2)).trans hw110_2), ((HB.out.cell (zM w _ hw110_3)).trans hw110_3)⟩ (fun hHeld => ?_); refine with_tabW laws_eqTNodeS.tab6 laws_eqTNodeS.bits6 (fun HT_ HW_ => ?_)
         generalize wr.drew = w9 at HB HR109_1 HR109_2 HR110_1 HR110_2 hx109_0 hx109_1 hx109_2 hx109_3 hx110_0 hx110_1 hx110_2 hx110_3 hHeld ⊢
         refine pure_ (i := 0) (N := some 17) (v := ?_) (a' := ?_) #[true, false, false, false, false, false, false, false, false, false] rfl rfl (yM HT_.out (by kernel_rfl)) (fun _ _ _ h => h) (Or.inl ⟨by rfl, ?_⟩) ?_ ?_
         rotate_left
         · intro w'
           go_simp
           with_reducible rfl
         rotate_left
         · simp only [Act.put, zN, zO, zP, i64_w, i32_w]
           rfl
         refine pure_ (i := 1) (N := some 18) (v := ?_) (a' := ?_) #[true, true, false, false, false, false, false, false, false, false] rfl rfl (yM HT_.out (by kernel_rfl)) (fun _ _ _ h => h) (Or.inl ⟨by rfl, ?_⟩) ?_ ?_
         rotate_left
         · intro w'
           go_simp
           with_reducible rfl
         rotate_left
         · simp only [Act.put, zN, zO, zP, i64_w, i32_w]
           rfl
         refine pure_ (i := 2) (N := some 19) (v := ?_) (a' := ?_) #[true, true, true, false, false, false, false, false, false, false] rfl rfl (yM HT_.out (by kernel_rfl)) (fun _ _ _ h => h) (Or.inl ⟨by rfl, ?_⟩) ?_ ?_
         rotate_left
         · intro w'
           go_simp
           with_reducible rfl
         rotate_left
         · simp only [Act.put, zN, zO, zP, i64_w, i32_w]
           rfl
         refine pure_ (i := 4) (N := some 21) (v := ?_) (a' := ?_) #[true, true, true, false, true, false, false, false, false, false] rfl rfl (yM HT_.out (by kernel_rfl)) (fun _ _ _ h => h) (Or.inl ⟨by rfl, ?_⟩) ?_ ?_
         rotate_left
         · intro w'
           go_simp
           with_reducible rfl
         rotate_left
         · simp only [Act.put, zN, zO, zP, i64_w, i32_w]
           rfl
         refine pure_ (i := 5) (N := some 22) (v := ?_) (a' := ?_) #[true, true, true, false, true, true, false, false, false, false] rfl rfl (yM HT_.out (by kernel_rfl)) (fun _ _ _ h => h) (Or.inl ⟨by rfl, ?_⟩) ?_ ?_
         rotate_left
         · intro w'
           go_simp
           with_reducible rfl
         rotate_left
         · simp only [Act.put, zN, zO, zP, i64_w, i32_w]
           rfl
         refine pure_ (i := 6) (N := some 23) (v := ?_) (a' := ?_) #[true, true, true, false, true, true, true, false, false, false] rfl rfl (yM HT_.out (by kernel_rfl)) (fun _ _ _ h => h) (Or.inl ⟨by rfl, ?_⟩) ?_ ?_
         rotate_left
         · intro w'
           go_simp
           with_reducible rfl
         rotate_left
         · simp only [Act.put, zN, zO, zP, i64_w, i32_w]
           rfl
         refine take_ (i := 3) (N := some 20) (v := ?_) (a' := ?_) #[true, true, true, true, true, true, true, false, false, false] rfl rfl (yL HT_.out HW_.out (by kernel_rfl)) (fun _ _ _ h => h) (Or.inl ⟨by rfl, ?_⟩) hHeld ?_ ?_
         rotate_left
         · rintro w' ⟨s0, s1, s2, s3, s4, s5, s6, s7⟩
           go_simp
           with_reducible rfl
         rotate_left
         · simp only [Act.put, zN, zO, zP, i64_w, i32_w]
           rfl
         refine take_ (i := 7) (N := some 24) (v := ?_) (a' := ?_) #[true, true, true, true, true, true, true, true, false, false] rfl rfl (yL HT_.out HW_.out (by kernel_rfl)) (fun _ _ _ h => h) (Or.inl ⟨by rfl, ?_⟩) hHeld ?_ ?_
         rotate_left
         · rintro w' ⟨s0, s1, s2, s3, s4, s5, s6, s7⟩
           go_simp
           with_reducible rfl
         rotate_left
         · simp only [Act.put, zN, zO, zP, i64_w, i32_w]
           rfl
         refine one_ (i := 8) (N := some 25) #[true, true, true, true, true, true, true, true, true, false] rfl rfl (yN HT_.out (by kernel_rfl)) (by decide) (fun K hK => ?_)
         refine goes_ Try.func62 (by kernel_rfl) rfl #[.agg #[.bool ((rd_T90 l0 x5_1).f0), .slice A109_1 ((rd_T90 l0 x5_1).f1).length c109_1, .slice A109_2 ((rd_T90 l0 x5_1).f2).length c109_2, .int .i64 ((rd_T90 l0 x5_1).f3)], .agg #[.bool ((rd_T90 l1 x5_1).f0), .slice A110_1 ((rd_T90 l1 x5_1).f1).length c110_1, .slice A110_2 ((rd_T90 l1 x5_1).f2).length c110_2, .int .i64 ((rd_T90 l1 x5_1).f3)]] (by rfl) rfl rfl wH ?_
         with_reducible refine (laws_eqTNode.calls k1 ((rd_T90 l0 x5_1).f0) _ _ ((rd_T90 l0 x5_1).f1) _ _ ((rd_T90 l0 x5_1).f2) ((rd_T90 l0 x5_1).f3) ((rd_T90 l1 x5_1).f0) _ _ ((rd_T90 l1 x5_1).f1) _ _ ((rd_T90 l1 x5_1).f2) ((rd_T90 l1 x5_1).f3) true _ ?side1 ?side2 ?side3 ?side4 ?side5 ?side6 ?side7 ?side8 A7.out).mono ?_
         (case side1 => repeat (first | exact (zQ HR109_1.out HB.out) | (with_reducible refine zR ?_ _) | (with_reducible refine zS ?_ _) | (with_reducible refine zT ?_)))
         (case side2 => exact HC109_1.out)
         (case side3 => repeat (first | exact (zQ HR109_2.out HB.out) | (with_reducible refine zR ?_ _) | (with_reducible refine zS ?_ _) | (with_reducible refine zT ?_)))
         (case side4 => exact HC109_2.out)
         (case side5 => repeat (first | exact (zQ HR110_1.out HB.out) | (with_reducible refine zR ?_ _) | (with_reducible refine zS ?_ _) | (with_reducible refine zT ?_)))
         (case side6 => exact HC110_1.out)
         (case side7 => repeat (first | exact (zQ HR110_2.out HB.out) | (with_reducible refine zR ?_ _) | (with_reducible refine zS ?_ _) | (with_reducible refine zT ?_)))
         (case side8 => exact HC110_2.out)
         rintro e w10 ⟨rfl, hb⟩
         refine ⟨_, rfl, ?_⟩
         have n0_ := zA (zU wA hb)
         clear HB
         have HB := n0_
         clear n0_
         (try clear hb)
         (try clear hb2)
         (try clear hk)
         (try clear hi)
         refine hK.out _ _ ⟨((HB.out.cell (zM w _ hw109_0)).trans hw109_0), ((HB.out.cell (zM w _ hw109_1)).trans hw109_1), ((HB.out.cell (zM w _ hw109_2)).trans hw109_2), ((HB.out.cell (zM w _ hw109_3)).trans hw109_3), ((HB.out.cell (zM w _ hw110_0)).trans hw110_0), ((HB.out.cell (zM w _ hw110_1)).trans hw110_1), ((HB.out.cell (zM w _ hw110_2)).trans hw110_2), ((HB.out.cell (zM w _ hw110_3)).trans hw110_3)⟩ (fun hHeld => ?_)
         clear hK K
         refine norm_ (a' := ?_) ?_ ?_
         rotate_left
         · show Act.put _ (some 25) _ = _
           simp only [Act.put, zN, zO, zP, i64_w, i32_w]
           rfl
         refine pure_ (i := 9) (N := some 26) (v := ?_) (a' := ?_) #[true, true, true, true, true, true, true, true, true, true] rfl rfl (yM HT_.out (by kernel_rfl)) (fun _ _ _ h => h) (Or.inl ⟨by rfl, ?_⟩) ?_ ?_
         rotate_left
         · intro w'
           go_simp
           with_reducible rfl
         rotate_left
         · simp only [Act.put, zN, zO, zP, i64_w, i32_w]
           rfl
         refine done_ (done_of HT_.out (by kernel_rfl)) ?_
         try go_wp2
         go_roundg k1
         case measure => have := HK1.out; omega
         case rel => exact ⟨(wrap64 (x5_1 + 1)), wF, H', ⟨by have := HK1.out; omega⟩, ⟨wA⟩⟩
        ·replace c8 := Bool.eq_false_iff.mpr c8
         subst c8
         have H1 : (some false) = some r := by rw [if_neg (show ¬ (false = true) by decide)] at H; exact H
         clear H
         have H := H1
         clear H1
         obtain rfl := zL H
         try go_wp2
         have n0_ := zA (zC HB.out)
         clear HB
         have HB := n0_
         clear n0_
         have p109 : 0 ≤ (x5_1 : Int) := zI wE
         have q109 : x5_1 < (l0.length : Int) := zI wE
         obtain ⟨ad109, A109_1, c109_1, A109_2, c109_2, e109, hx109_0, hx109_1, hx109_2, hx109_3, hl109_1, hi109_1, hl109_2, hi109_2⟩ := at_T90 HR0.out x5_1 p109 q109
         have hw109_3 := hx109_3
         have hw109_2 := hx109_2
         have hw109_1 := hx109_1
         have hw109_0 := hx109_0
         cases e109
         replace hx109_0 := (HB.out.cell (zM w _ hx109_0)).trans hx109_0
         replace hx109_1 := (HB.out.cell (zM w _ hx109_1)).trans hx109_1
         replace hx109_2 := (HB.out.cell (zM w _ hx109_2)).trans hx109_2
         replace hx109_3 := (HB.out.cell (zM w _ hx109_3)).trans hx109_3
         have HR109_1 := zA hi109_1
         have HC109_1 := zA hl109_1
         clear hi109_1 hl109_1
         have HR109_2 := zA hi109_2
         have HC109_2 := zA hl109_2
         clear hi109_2 hl109_2
         replace p109 := eq_true p109
         replace q109 := eq_true q109
         have p110 : 0 ≤ (x5_1 : Int) := zI wE
         have q110 : x5_1 < (l1.length : Int) := zI wE
         obtain ⟨ad110, A110_1, c110_1, A110_2, c110_2, e110, hx110_0, hx110_1, hx110_2, hx110_3, hl110_1, hi110_1, hl110_2, hi110_2⟩ := at_T90 HR1.out x5_1 p110 q110
         have hw110_3 := hx110_3
         have hw110_2 := hx110_2
         have hw110_1 := hx110_1
         have hw110_0 := hx110_0
         cases e110
         replace hx110_0 := (HB.out.cell (zM w _ hx110_0)).trans hx110_0
         replace hx110_1 := (HB.out.cell (zM w _ hx110_1)).trans hx110_1
         replace hx110_2 := (HB.out.cell (zM w _ hx110_2)).trans hx110_2
         replace hx110_3 := (HB.out.cell (zM w _ hx110_3)).trans hx110_3
         have HR110_1 := zA hi110_1
         have HC110_1 := zA hl110_1
         clear hi110_1 hl110_1
         have HR110_2 := zA hi110_2
         have HC110_2 := zA hl110_2
         clear hi110_2 hl110_2
         replace p110 := eq_true p110
         replace q110 := eq_true q110
         refine start_ (n := 10) (S := fun w' => w'.cell? (ad109.add ((x5_1).toNat * 4)) = some (.bool ((rd_T90 l0 x5_1).f0)) ∧ w'.cell? ⟨(ad109.add ((x5_1).toNat * 4)).block, (ad109.add ((x5_1).toNat * 4)).off + 1, none⟩ = some (.slice A109_1 ((rd_T90 l0 x5_1).f1).length c109_1) ∧ w'.cell? ⟨(ad109.add ((x5_1).toNat * 4)).block, (ad109.add ((x5_1).toNat * 4)).off + 2, none⟩ = some (.slice A109_2 ((rd_T90 l0 x5_1).f2).length c109_2) ∧ w'.cell? ⟨(ad109.add ((x5_1).toNat * 4)).block, (ad109.add ((x5_1).toNat * 4)).off + 3, none⟩ = some (.int .i64 ((rd_T90 l0 x5_1).f3)) ∧ w'.cell? (ad110.add ((x5_1).toNat * 4)) = some (.bool ((rd_T90 l1 x5_1).f0)) ∧ w'.cell? ⟨(ad110.add ((x5_1).toNat * 4)).block, (ad110.add ((x5_1).toNat * 4)).off + 1, none⟩ = some (.slice A110_1 ((rd_T90 l1 x5_1).f1).length c110_1) ∧ w'.cell? ⟨(ad110.add ((x5_1).toNat * 4)).block, (ad110.add ((x5_1).toNat * 4)).off + 2, none⟩ = some (.slice A110_2 ((rd_T90 l1 x5_1).f2).length c110_2) ∧ w'.cell? ⟨(ad110.add ((x5_1).toNat * 4)).block, (ad110.add ((x5_1).toNat * 4)).off + 3, none⟩ = some (.int .i64 ((rd_T90 l1 x5_1).f3))) (ds := []) #[false, false, false, false, false, false, false, false, false, false] (by kernel_rfl) rfl rfl ⟨((HB.out.cell (zM w _ hw109_0)).trans hw109_0), ((HB.out.cell (zM w _ hw109_1)).trans hw109_1), ((HB.out.cell (zM w _ hw109_2)).trans hw109_2), ((HB.out.cell (zM w _ hw109_3)).trans hw109_3), ((HB.out.cell (zM w _ hw110_0)).trans hw110_0), ((HB.out.cell (zM w _ hw110_1)).trans hw110_1), ((HB.out.cell (zM w _ hw110_2)).trans hw110_2), ((HB.out.cell (zM w _ hw110_3)).trans hw110_3)⟩ (fun hHeld => ?_); refine with_tabW laws_eqTNodeS.tab6 laws_eqTNodeS.bits6 (fun HT_ HW_ => ?_)
         generalize wr.drew = w11 at HB HR109_1 HR109_2 HR110_1 HR110_2 hx109_0 hx109_1 hx109_2 hx109_3 hx110_0 hx110_1 hx110_2 hx110_3 hHeld ⊢
         refine pure_ (i := 0) (N := some 17) (v := ?_) (a' := ?_) #[true, false, false, false, false, false, false, false, false, false] rfl rfl (yM HT_.out (by kernel_rfl)) (fun _ _ _ h => h) (Or.inl ⟨by rfl, ?_⟩) ?_ ?_
         rotate_left
         · intro w'
           go_simp
           with_reducible rfl
         rotate_left
         · simp only [Act.put, zN, zO, zP, i64_w, i32_w]
           rfl
         refine pure_ (i := 1) (N := some 18) (v := ?_) (a' := ?_) #[true, true, false, false, false, false, false, false, false, false] rfl rfl (yM HT_.out (by kernel_rfl)) (fun _ _ _ h => h) (Or.inl ⟨by rfl, ?_⟩) ?_ ?_
         rotate_left
         · intro w'
           go_simp
           with_reducible rfl
         rotate_left
         · simp only [Act.put, zN, zO, zP, i64_w, i32_w]
           rfl
         refine pure_ (i := 2) (N := some 19) (v := ?_) (a' := ?_) #[true, true, true, false, false, false, false, false, false, false] rfl rfl (yM HT_.out (by kernel_rfl)) (fun _ _ _ h => h) (Or.inl ⟨by rfl, ?_⟩) ?_ ?_
         rotate_left
         · intro w'
           go_simp
           with_reducible rfl
         rotate_left
         · simp only [Act.put, zN, zO, zP, i64_w, i32_w]
           rfl
         refine pure_ (i := 4) (N := some 21) (v := ?_) (a' := ?_) #[true, true, true, false, true, false, false, false, false, false] rfl rfl (yM HT_.out (by kernel_rfl)) (fun _ _ _ h => h) (Or.inl ⟨by rfl, ?_⟩) ?_ ?_
         rotate_left
         · intro w'
           go_simp
           with_reducible rfl
         rotate_left
         · simp only [Act.put, zN, zO, zP, i64_w, i32_w]
           rfl
         refine pure_ (i := 5) (N := some 22) (v := ?_) (a' := ?_) #[true, true, true, false, true, true, false, false, false, false] rfl rfl (yM HT_.out (by kernel_rfl)) (fun _ _ _ h => h) (Or.inl ⟨by rfl, ?_⟩) ?_ ?_
         rotate_left
         · intro w'
           go_simp
           with_reducible rfl
         rotate_left
         · simp only [Act.put, zN, zO, zP, i64_w, i32_w]
           rfl
         refine pure_ (i := 6) (N := some 23) (v := ?_) (a' := ?_) #[true, true, true, false, true, true, true, false, false, false] rfl rfl (yM HT_.out (by kernel_rfl)) (fun _ _ _ h => h) (Or.inl ⟨by rfl, ?_⟩) ?_ ?_
         rotate_left
         · intro w'
           go_simp
           with_reducible rfl
         rotate_left
         · simp only [Act.put, zN, zO, zP, i64_w, i32_w]
           rfl
         refine take_ (i := 3) (N := some 20) (v := ?_) (a' := ?_) #[true, true, true, true, true, true, true, false, false, false] rfl rfl (yL HT_.out HW_.out (by kernel_rfl)) (fun _ _ _ h => h) (Or.inl ⟨by rfl, ?_⟩) hHeld ?_ ?_
         rotate_left
         · rintro w' ⟨s0, s1, s2, s3, s4, s5, s6, s7⟩
           go_simp
           with_reducible rfl
         rotate_left
         · simp only [Act.put, zN, zO, zP, i64_w, i32_w]
           rfl
         refine take_ (i := 7) (N := some 24) (v := ?_) (a' := ?_) #[true, true, true, true, true, true, true, true, false, false] rfl rfl (yL HT_.out HW_.out (by kernel_rfl)) (fun _ _ _ h => h) (Or.inl ⟨by rfl, ?_⟩) hHeld ?_ ?_
         rotate_left
         · rintro w' ⟨s0, s1, s2, s3, s4, s5, s6, s7⟩
           go_simp
           with_reducible rfl
         rotate_left
         · simp only [Act.put, zN, zO, zP, i64_w, i32_w]
           rfl
         refine one_ (i := 8) (N := some 25) #[true, true, true, true, true, true, true, true, true, false] rfl rfl (yN HT_.out (by kernel_rfl)) (by decide) (fun K hK => ?_)
         refine goes_ Try.func62 (by kernel_rfl) rfl #[.agg #[.bool ((rd_T90 l0 x5_1).f0), .slice A109_1 ((rd_T90 l0 x5_1).f1).length c109_1, .slice A109_2 ((rd_T90 l0 x5_1).f2).length c109_2, .int .i64 ((rd_T90 l0 x5_1).f3)], .agg #[.bool ((rd_T90 l1 x5_1).f0), .slice A110_1 ((rd_T90 l1 x5_1).f1).length c110_1, .slice A110_2 ((rd_T90 l1 x5_1).f2).length c110_2, .int .i64 ((rd_T90 l1 x5_1).f3)]] (by rfl) rfl rfl wH ?_
         with_reducible refine (laws_eqTNode.calls k1 ((rd_T90 l0 x5_1).f0) _ _ ((rd_T90 l0 x5_1).f1) _ _ ((rd_T90 l0 x5_1).f2) ((rd_T90 l0 x5_1).f3) ((rd_T90 l1 x5_1).f0) _ _ ((rd_T90 l1 x5_1).f1) _ _ ((rd_T90 l1 x5_1).f2) ((rd_T90 l1 x5_1).f3) false _ ?side1 ?side2 ?side3 ?side4 ?side5 ?side6 ?side7 ?side8 A7.out).mono ?_
         (case side1 => repeat (first | exact (zQ HR109_1.out HB.out) | (with_reducible refine zR ?_ _) | (with_reducible refine zS ?_ _) | (with_reducible refine zT ?_)))
         (case side2 => exact HC109_1.out)
         (case side3 => repeat (first | exact (zQ HR109_2.out HB.out) | (with_reducible refine zR ?_ _) | (with_reducible refine zS ?_ _) | (with_reducible refine zT ?_)))
         (case side4 => exact HC109_2.out)
         (case side5 => repeat (first | exact (zQ HR110_1.out HB.out) | (with_reducible refine zR ?_ _) | (with_reducible refine zS ?_ _) | (with_reducible refine zT ?_)))
         (case side6 => exact HC110_1.out)
         (case side7 => repeat (first | exact (zQ HR110_2.out HB.out) | (with_reducible refine zR ?_ _) | (with_reducible refine zS ?_ _) | (with_reducible refine zT ?_)))
         (case side8 => exact HC110_2.out)
         rintro e w12 ⟨rfl, hb⟩
         refine ⟨_, rfl, ?_⟩
         have n0_ := zA (zU wA hb)
         clear HB
         have HB := n0_
         clear n0_
         (try clear hb)
         (try clear hb2)
         (try clear hk)
         (try clear hi)
         refine hK.out _ _ ⟨((HB.out.cell (zM w _ hw109_0)).trans hw109_0), ((HB.out.cell (zM w _ hw109_1)).trans hw109_1), ((HB.out.cell (zM w _ hw109_2)).trans hw109_2), ((HB.out.cell (zM w _ hw109_3)).trans hw109_3), ((HB.out.cell (zM w _ hw110_0)).trans hw110_0), ((HB.out.cell (zM w _ hw110_1)).trans hw110_1), ((HB.out.cell (zM w _ hw110_2)).trans hw110_2), ((HB.out.cell (zM w _ hw110_3)).trans hw110_3)⟩ (fun hHeld => ?_)
         clear hK K
         refine norm_ (a' := ?_) ?_ ?_
         rotate_left
         · show Act.put _ (some 25) _ = _
           simp only [Act.put, zN, zO, zP, i64_w, i32_w]
           rfl
         refine pure_ (i := 9) (N := some 26) (v := ?_) (a' := ?_) #[true, true, true, true, true, true, true, true, true, true] rfl rfl (yM HT_.out (by kernel_rfl)) (fun _ _ _ h => h) (Or.inl ⟨by rfl, ?_⟩) ?_ ?_
         rotate_left
         · intro w'
           go_simp
           with_reducible rfl
         rotate_left
         · simp only [Act.put, zN, zO, zP, i64_w, i32_w]
           rfl
         refine done_ (done_of HT_.out (by kernel_rfl)) ?_
         try go_wp2
         go_ret
         exact ⟨wG, wA⟩
       ·rw [if_neg c6] at H
        exact absurd H (by simp)
      ·rw [if_neg c5] at H
       exact absurd H (by simp)
     ·rw [if_neg c4] at H
      have c4b0 : decide (x5_1 < (l0.length : Int)) = false := zK c4
      clear c4
      obtain rfl := zL H
      go_wp2
      go_ret
      exact ⟨wG, wA⟩
 ·rw [if_neg c3] at H
  have c3b0 : ((l0.length : Int) == (l1.length : Int)) = false := beq_eq_false_iff_ne.mpr c3
  have c3b1 : ((l0.length : Int) != (l1.length : Int)) = true := bne_iff_ne.mpr c3
  have c3b2 : (l0.length == l1.length) = false := by first | simpa using c3 | (simp at c3 ⊢; omega)
  obtain rfl := zL H
  go_enter Try.func40, Try.ntmps40
  go_wp2
  go_ret
  exact ⟨wG, wA⟩

/-! ### laws_eqTree: function 12 -/
def laws_eqTree.f (k : Nat) (l0_0 : List (S90)) (l1_0 : List (S90)) : Option (Bool) := (laws_eqTNodeS.f k l0_0 l1_0).bind fun t114 => (if t114 = true then (some true) else (some false))
set_option maxHeartbeats 4000000 in
set_option maxRecDepth 100000 in
theorem laws_eqTree.calls (k : Nat) (A0_0 : Option Addr) (c0_0 : Nat) (l0_0 : List (S90)) (A1_0 : Option Addr) (c1_0 : Nat) (l1_0 : List (S90)) (r : Bool) (w : World) (hr0_0 : Kd.C k90 w A0_0 l0_0.length l0_0) (hc0_0 : l0_0.length ≤ c0_0) (hr1_0 : Kd.C k90 w A1_0 l1_0.length l1_0) (hc1_0 : l1_0.length ≤ c1_0) (h : laws_eqTree.f k l0_0 l1_0 = some r) :
   Calls Try.prog 12 #[.agg #[.slice A0_0 l0_0.length c0_0], .agg #[.slice A1_0 l1_0.length c1_0]] w fun e w' => e = .returned (.bool r) ∧ Below w.heap.size w w' := by
 have hu := Try.underlying24
 have hb0 : Below w.heap.size w ((w.alloc (.cells #[.slice A0_0 l0_0.length c0_0] 24)).alloc (.cells #[.slice A1_0 l1_0.length c1_0] 24)) := below_alloc (below_alloc (zZ _ _) _) _
 have K0 := zF (blk_new w (.cells #[.slice A0_0 l0_0.length c0_0] 24)) (.cells #[.slice A1_0 l1_0.length c1_0] 24)
 have K1 := blk_new (w.alloc (.cells #[.slice A0_0 l0_0.length c0_0] 24)) (.cells #[.slice A1_0 l1_0.length c1_0] 24)
 rw [show (w.alloc (.cells #[.slice A0_0 l0_0.length c0_0] 24)).heap.size = w.heap.size + 1 by simp] at K1
 have HK := zA K0
 have HK1 := zA K1
 have HB := zA hb0
 have C0 := zA (And.intro (zQ hr0_0 hb0) hc0_0)
 have C1 := zA (And.intro (zQ hr1_0 hb0) hc1_0)
 unfold laws_eqTree.f at h
 have HH := zA h
 clear hb0 K0 K1 hr0_0 hc0_0 hr1_0 hc1_0 h
 go_enter Try.func12, Try.ntmps12
 go_upto_region 1 with (fail)
 generalize (w.alloc (.cells #[.slice A0_0 l0_0.length c0_0] 24)).alloc (.cells #[.slice A1_0 l1_0.length c1_0] 24) = W2 at *
 have x0 : W2.cell? ⟨w.heap.size, 0, none⟩ = some (.slice A0_0 l0_0.length c0_0) := (blk_cell HK.out 0).trans rfl
 have y0 : W2.cell? ⟨w.heap.size + 1, 0, none⟩ = some (.slice A1_0 l1_0.length c1_0) := (blk_cell HK1.out 0).trans rfl
 have h := HH.out
 clear HH
 obtain ⟨t1, e1, h⟩ := Option.bind_eq_some_iff.mp h
 have E1 := zA e1
 have HH := zA h
 clear e1 h
 go_wp2_with fail
 refine (laws_eqTNodeS.calls k _ _ _ _ _ _ t1 W2 C0.out.1 C0.out.2 C1.out.1 C1.out.2 E1.out).mono ?_
 rintro e W3 ⟨rfl, hb⟩
 have HB3 := zA (HB.out.trans ⟨hb.os, hb.tape, hb.output, hb.size, fun k hk => hb.block k (yJ hk HB.out.size)⟩)
 clear hb
 have h := HH.out
 clear HH
 cases t1 with
 | false =>
   injection h with h
   subst h
   go_wp2_with fail
   go_ret
   exact ⟨rfl, HB3.out⟩
 | true =>
   rw [if_pos rfl] at h
   injection h with h
   subst h
   go_wp2_with fail
   go_ret
   exact ⟨rfl, HB3.out⟩

/-! ### laws_szStringS: function 88 -/
def laws_szStringS.l0 : Nat → List ByteArray → Int → Int → Option (Int)
 | 0, _, _, _ => none
 | k + 1, x0, x1, x5 => if x5 < (x0.length : Int) then (if 0 ≤ x5 then (if (wrap64 (x1 - ((rdOf ByteArray.empty x0 x5).size : Int))) < 0 then (some (-1)) else (laws_szStringS.l0 k x0 (wrap64 (x1 - ((rdOf ByteArray.empty x0 x5).size : Int))) (wrap64 (x5 + 1)))) else (none)) else (some x1)
def laws_szStringS.f (k : Nat) (l0 : List ByteArray) (a1 : Int) : Option (Int) := if (wrap64 (a1 - (l0.length : Int))) < 0 then (some (-1)) else (laws_szStringS.l0 k l0 (wrap64 (a1 - (l0.length : Int))) 0)
set_option maxHeartbeats 8000000 in
set_option maxRecDepth 100000 in
theorem laws_szStringS.calls (k : Nat) (A0 : Option Addr) (c0 : Nat) (l0 : List ByteArray) (a1 : Int) (r : Int) (w : World) (hr0 : Kd.C Kd.string w A0 l0.length l0) (hc0 : l0.length ≤ c0) (h : laws_szStringS.f k l0 a1 = some r) :
  Calls Try.prog 88 #[.slice A0 l0.length c0, .int .i64 a1] w fun e w' => e = .returned (.int .i64 r) ∧ Drawn0 w w' := by
 have HR0 := zA hr0
 have HC0 := zA hc0
 clear hr0 hc0
 have H : (if (wrap64 (a1 - (l0.length : Int))) < 0 then (some (-1)) else (laws_szStringS.l0 k l0 (wrap64 (a1 - (l0.length : Int))) 0)) = some r := h
 clear h
 by_cases c3 : (wrap64 (a1 - (l0.length : Int))) < 0
 ·rw [if_pos c3] at H
  have c3b0 : decide ((wrap64 (a1 - (l0.length : Int))) < 0) = true := zJ c3
  clear c3
  obtain rfl := zL H
  go_enter Try.func88, Try.ntmps88
  go_wp2
  go_ret
  exact ⟨wF, wI⟩
 ·rw [if_neg c3] at H
  have c3b0 : decide ((wrap64 (a1 - (l0.length : Int))) < 0) = false := zK c3
  clear c3
  have H' := zA H
  clear H
  go_enter Try.func88, Try.ntmps88
  go_wp2
  go_loopg [1, 5] k (fun kq v1 v5 w' => ∃ (x1_1 : Int) (x5_1 : Int), v1 = .int .i64 x1_1 ∧ v5 = .int .i64 x5_1 ∧ Aside0 (laws_szStringS.l0 kq l0 x1_1 x5_1 = some r) ∧ Aside0 (kq ≤ k) ∧ Drawn0 w w')
  case atStart => exact ⟨(wrap64 (a1 - (l0.length : Int))), (0), wF, wF, H', ⟨zY _⟩, wI⟩
  case round =>
   clear H'
   try clear p2
   try clear c3
   try clear c3b0
   obtain ⟨x1_1, x5_1, rfl, rfl, HA, HK1, ⟨m1, rfl⟩⟩ := hrel
   cases gk with
   | zero => exact absurd HA.out (by simp [laws_szStringS.l0])
   | succ k1 =>
     have H := HA.out
     clear HA
     simp only [laws_szStringS.l0] at H
     by_cases c4 : x5_1 < (l0.length : Int)
     ·rw [if_pos c4] at H
      have c4b0 : decide (x5_1 < (l0.length : Int)) = true := zJ c4
      clear c4
      by_cases c5 : 0 ≤ x5_1
      ·rw [if_pos c5] at H
       have c5b0 : decide (0 ≤ x5_1) = true := zJ c5
       clear c5
       by_cases c6 : (wrap64 (x1_1 - ((rdOf ByteArray.empty l0 x5_1).size : Int))) < 0
       ·rw [if_pos c6] at H
        have c6b0 : decide ((wrap64 (x1_1 - ((rdOf ByteArray.empty l0 x5_1).size : Int))) < 0) = true := zJ c6
        clear c6
        obtain rfl := zL H
        have p115 : 0 ≤ (x5_1 : Int) := zI wE
        have q115 : x5_1 < (l0.length : Int) := zI wE
        obtain ⟨ad115, e115, hx115_0⟩ := Kd.at_string HR0.out x5_1 p115 q115
        cases e115
        replace p115 := eq_true p115
        replace q115 := eq_true q115
        go_wp2
        go_ret
        exact ⟨wF, wI⟩
       ·rw [if_neg c6] at H
        have c6b0 : decide ((wrap64 (x1_1 - ((rdOf ByteArray.empty l0 x5_1).size : Int))) < 0) = false := zK c6
        clear c6
        have H' := zA H
        clear H
        have p115 : 0 ≤ (x5_1 : Int) := zI wE
        have q115 : x5_1 < (l0.length : Int) := zI wE
        obtain ⟨ad115, e115, hx115_0⟩ := Kd.at_string HR0.out x5_1 p115 q115
        cases e115
        replace p115 := eq_true p115
        replace q115 := eq_true q115
        go_wp2
        go_roundg k1
        case measure => have := HK1.out; omega
        case rel => exact ⟨(wrap64 (x1_1 - ((rdOf ByteArray.empty l0 x5_1).size : Int))), (wrap64 (x5_1 + 1)), wF, wF, H', ⟨by have := HK1.out; omega⟩, wI⟩
      ·rw [if_neg c5] at H
       exact absurd H (by simp)
     ·rw [if_neg c4] at H
      have c4b0 : decide (x5_1 < (l0.length : Int)) = false := zK c4
      clear c4
      obtain rfl := zL H
      go_wp2
      go_ret
      exact ⟨wF, wI⟩

/-! ### laws_szInt64S: function 89 -/
def laws_szInt64S.f (l0 : List Int) (a1 : Int) : Option (Int) := if (wrap64 (a1 - (l0.length : Int))) < 0 then (some (-1)) else (some (wrap64 (a1 - (l0.length : Int))))
set_option maxHeartbeats 8000000 in
set_option maxRecDepth 100000 in
theorem laws_szInt64S.calls (A0 : Option Addr) (c0 : Nat) (l0 : List Int) (a1 : Int) (r : Int) (w : World) (hr0 : Kd.C (Kd.int .i64) w A0 l0.length l0) (hc0 : l0.length ≤ c0) (h : laws_szInt64S.f l0 a1 = some r) :
  Calls Try.prog 89 #[.slice A0 l0.length c0, .int .i64 a1] w fun e w' => e = .returned (.int .i64 r) ∧ Drawn0 w w' := by
 have HR0 := zA hr0
 have HC0 := zA hc0
 clear hr0 hc0
 have H : (if (wrap64 (a1 - (l0.length : Int))) < 0 then (some (-1)) else (some (wrap64 (a1 - (l0.length : Int))))) = some r := h
 clear h
 by_cases c3 : (wrap64 (a1 - (l0.length : Int))) < 0
 ·rw [if_pos c3] at H
  have c3b0 : decide ((wrap64 (a1 - (l0.length : Int))) < 0) = true := zJ c3
  clear c3
  obtain rfl := zL H
  go_enter Try.func89, Try.ntmps89
  go_wp2
  go_ret
  exact ⟨wF, wI⟩
 ·rw [if_neg c3] at H
  have c3b0 : decide ((wrap64 (a1 - (l0.length : Int))) < 0) = false := zK c3
  clear c3
  obtain rfl := zL H
  go_enter Try.func89, Try.ntmps89
  go_wp2
  go_ret
  exact ⟨wF, wI⟩

/-! ### laws_szTNode: function 65 -/
def laws_szTNode.f (k : Nat) (a0_0 : Bool) (l0_1 : List ByteArray) (l0_2 : List Int) (a0_3 : Int) (a1 : Int) : Option (Int) := (laws_szStringS.f k l0_1 a1).bind fun t117 => (if t117 < 0 then (some (-1)) else ((laws_szInt64S.f l0_2 t117).bind fun t118 => (if t118 < 0 then (some (-1)) else (some t118))))
set_option maxHeartbeats 4000000 in
set_option maxRecDepth 100000 in
theorem laws_szTNode.calls (k : Nat) (a0_0 : Bool) (A0_1 : Option Addr) (c0_1 : Nat) (l0_1 : List ByteArray) (A0_2 : Option Addr) (c0_2 : Nat) (l0_2 : List Int) (a0_3 : Int) (a1 : Int) (r : Int) (w : World) (hr0_1 : Kd.C Kd.string w A0_1 l0_1.length l0_1) (hc0_1 : l0_1.length ≤ c0_1) (hr0_2 : Kd.C (Kd.int .i64) w A0_2 l0_2.length l0_2) (hc0_2 : l0_2.length ≤ c0_2) (h : laws_szTNode.f k a0_0 l0_1 l0_2 a0_3 a1 = some r) :
  Calls Try.prog 65 #[.agg #[.bool a0_0, .slice A0_1 l0_1.length c0_1, .slice A0_2 l0_2.length c0_2, .int .i64 a0_3], .int .i64 a1] w fun e w' => e = .returned (.int .i64 r) ∧ Below w.heap.size w w' := by
 have hu := Try.underlying98
 have hb0 : Below w.heap.size w (w.alloc (.cells #[.bool a0_0, .slice A0_1 l0_1.length c0_1, .slice A0_2 l0_2.length c0_2, .int .i64 a0_3] 98)) := below_alloc (zZ _ _) _
 have HK := zA (blk_new w (.cells #[.bool a0_0, .slice A0_1 l0_1.length c0_1, .slice A0_2 l0_2.length c0_2, .int .i64 a0_3] 98))
 have HB := zA hb0
 have C1 := zA (And.intro (zQ hr0_1 hb0) hc0_1)
 have C2 := zA (And.intro (zQ hr0_2 hb0) hc0_2)
 unfold laws_szTNode.f at h
 obtain ⟨t1, e1, h⟩ := Option.bind_eq_some_iff.mp h
 have E1 := zA e1
 have HH := zA h
 clear hb0 hr0_1 hc0_1 hr0_2 hc0_2 e1 h
 go_enter Try.func65, Try.ntmps65
 go_upto_region 1 with (fail)
 generalize w.alloc (.cells #[.bool a0_0, .slice A0_1 l0_1.length c0_1, .slice A0_2 l0_2.length c0_2, .int .i64 a0_3] 98) = W2 at *
 have x0 : W2.cell? ⟨w.heap.size, 0, none⟩ = some (.bool a0_0) := (blk_cell HK.out 0).trans rfl
 have x1 : W2.cell? ⟨w.heap.size, 1, none⟩ = some (.slice A0_1 l0_1.length c0_1) := (blk_cell HK.out 1).trans rfl
 have x2 : W2.cell? ⟨w.heap.size, 2, none⟩ = some (.slice A0_2 l0_2.length c0_2) := (blk_cell HK.out 2).trans rfl
 have x3 : W2.cell? ⟨w.heap.size, 3, none⟩ = some (.int .i64 a0_3) := (blk_cell HK.out 3).trans rfl
 go_wp2_with fail
 refine (laws_szStringS.calls k _ _ _ _ t1 W2 C1.out.1 C1.out.2 E1.out).mono ?_
 rintro e W3 ⟨rfl, hdr⟩
 have hb := hdr.below
 have HB3 := zA (HB.out.trans ⟨hb.os, hb.tape, hb.output, hb.size, fun k hk => hb.block k (yJ hk HB.out.size)⟩)
 have HK3 := zA (zH HK.out hb)
 have C23 := zA (zQ C2.out.1 hb)
 clear hb hdr x0 x1 x2 x3
 have x0 : W3.cell? ⟨w.heap.size, 0, none⟩ = some (.bool a0_0) := (blk_cell HK3.out 0).trans rfl
 have x1 : W3.cell? ⟨w.heap.size, 1, none⟩ = some (.slice A0_1 l0_1.length c0_1) := (blk_cell HK3.out 1).trans rfl
 have x2 : W3.cell? ⟨w.heap.size, 2, none⟩ = some (.slice A0_2 l0_2.length c0_2) := (blk_cell HK3.out 2).trans rfl
 have x3 : W3.cell? ⟨w.heap.size, 3, none⟩ = some (.int .i64 a0_3) := (blk_cell HK3.out 3).trans rfl
 have h := HH.out
 clear HH
 by_cases c0 : t1 < 0
 ·rw [if_pos c0] at h
  injection h with h
  subst h
  have c1 := zJ c0
  go_wp2_with fail
  go_ret
  exact ⟨rfl, HB3.out⟩
 ·rw [if_neg c0] at h
  obtain ⟨t2, e2, h⟩ := Option.bind_eq_some_iff.mp h
  have E2 := zA e2
  have HH := zA h
  have c1 := zK c0
  clear e2 h
  go_wp2_with fail
  refine (laws_szInt64S.calls _ _ _ _ t2 W3 C23.out C2.out.2 E2.out).mono ?_
  rintro e W4 ⟨rfl, hdr⟩
  have hb := hdr.below
  have HB4 := zA (HB3.out.trans ⟨hb.os, hb.tape, hb.output, hb.size, fun k hk => hb.block k (yJ hk HB3.out.size)⟩)
  clear hb hdr c1
  have h := HH.out
  clear HH
  by_cases c2 : t2 < 0
  ·rw [if_pos c2] at h
   injection h with h
   subst h
   have c3 := zJ c2
   go_wp2_with fail
   go_ret
   exact ⟨rfl, HB4.out⟩
  ·rw [if_neg c2] at h
   injection h with h
   subst h
   have c3 := zK c2
   go_wp2_with fail
   go_ret
   exact ⟨rfl, HB4.out⟩

/-! ### laws_szTNodeS: function 43 -/
def laws_szTNodeS.l0 : Nat → List (S98) → Int → Int → Option (Int)
 | 0, _, _, _ => none
 | k + 1, x0, x1, x5 => if x5 < (x0.length : Int) then (if 0 ≤ x5 then ((laws_szTNode.f k ((rd_T98 x0 x5).f0) ((rd_T98 x0 x5).f1) ((rd_T98 x0 x5).f2) ((rd_T98 x0 x5).f3) x1).bind fun t120 => (if t120 < 0 then (some (-1)) else (laws_szTNodeS.l0 k x0 t120 (wrap64 (x5 + 1))))) else (none)) else (some x1)
def laws_szTNodeS.f (k : Nat) (l0 : List (S98)) (a1 : Int) : Option (Int) := if (wrap64 (a1 - (l0.length : Int))) < 0 then (some (-1)) else (laws_szTNodeS.l0 k l0 (wrap64 (a1 - (l0.length : Int))) 0)
set_option maxHeartbeats 8000000 in
set_option maxRecDepth 100000 in
theorem laws_szTNodeS.calls (k : Nat) (A0 : Option Addr) (c0 : Nat) (l0 : List (S98)) (a1 : Int) (r : Int) (w : World) (hr0 : Kd.C k98 w A0 l0.length l0) (hc0 : l0.length ≤ c0) (h : laws_szTNodeS.f k l0 a1 = some r) :
  Calls Try.prog 43 #[.slice A0 l0.length c0, .int .i64 a1] w fun e w' => e = .returned (.int .i64 r) ∧ Below w.heap.size w w' := by
 have hu98 := Try.underlying98
 have HR0 := zA hr0
 have HC0 := zA hc0
 clear hr0 hc0
 have HB := zA (zZ w.heap.size w)
 have H : (if (wrap64 (a1 - (l0.length : Int))) < 0 then (some (-1)) else (laws_szTNodeS.l0 k l0 (wrap64 (a1 - (l0.length : Int))) 0)) = some r := h
 clear h
 by_cases c3 : (wrap64 (a1 - (l0.length : Int))) < 0
 ·rw [if_pos c3] at H
  have c3b0 : decide ((wrap64 (a1 - (l0.length : Int))) < 0) = true := zJ c3
  clear c3
  obtain rfl := zL H
  go_enter Try.func43, Try.ntmps43
  go_wp2
  go_ret
  exact ⟨wG, wA⟩
 ·rw [if_neg c3] at H
  have c3b0 : decide ((wrap64 (a1 - (l0.length : Int))) < 0) = false := zK c3
  clear c3
  have H' := zA H
  clear H
  go_enter Try.func43, Try.ntmps43
  go_wp2
  go_loopg [1, 5] k (fun kq v1 v5 w' => ∃ (x1_1 : Int) (x5_1 : Int), v1 = .int .i64 x1_1 ∧ v5 = .int .i64 x5_1 ∧ Aside0 (laws_szTNodeS.l0 kq l0 x1_1 x5_1 = some r) ∧ Aside0 (kq ≤ k) ∧ Aside0 (Below w.heap.size w w'))
  case atStart => exact ⟨(wrap64 (a1 - (l0.length : Int))), (0), wF, wF, H', ⟨zY _⟩, ⟨wA⟩⟩
  case round =>
   clear H'
   try clear p2
   try clear c3
   try clear c3b0
   obtain ⟨x1_1, x5_1, rfl, rfl, HA, HK1, HB⟩ := hrel
   cases gk with
   | zero => exact absurd HA.out (by simp [laws_szTNodeS.l0])
   | succ k1 =>
     have H := HA.out
     clear HA
     simp only [laws_szTNodeS.l0] at H
     by_cases c4 : x5_1 < (l0.length : Int)
     ·rw [if_pos c4] at H
      have c4b0 : decide (x5_1 < (l0.length : Int)) = true := zJ c4
      clear c4
      by_cases c5 : 0 ≤ x5_1
      ·rw [if_pos c5] at H
       have c5b0 : decide (0 ≤ x5_1) = true := zJ c5
       clear c5
       replace H := Option.bind_eq_some_iff.mp H
       obtain ⟨t120, A60, H⟩ := H
       replace H : (if t120 < 0 then (some (-1)) else (laws_szTNodeS.l0 k1 l0 t120 (wrap64 (x5_1 + 1)))) = some r := H
       have A6 := zA A60
       clear A60
       by_cases c7 : t120 < 0
       ·rw [if_pos c7] at H
        have c7b0 : decide (t120 < 0) = true := zJ c7
        clear c7
        obtain rfl := zL H
        have p119 : 0 ≤ (x5_1 : Int) := zI wE
        have q119 : x5_1 < (l0.length : Int) := zI wE
        obtain ⟨ad119, A119_1, c119_1, A119_2, c119_2, e119, hx119_0, hx119_1, hx119_2, hx119_3, hl119_1, hi119_1, hl119_2, hi119_2⟩ := at_T98 HR0.out x5_1 p119 q119
        cases e119
        replace hx119_0 := (HB.out.cell (zM w _ hx119_0)).trans hx119_0
        replace hx119_1 := (HB.out.cell (zM w _ hx119_1)).trans hx119_1
        replace hx119_2 := (HB.out.cell (zM w _ hx119_2)).trans hx119_2
        replace hx119_3 := (HB.out.cell (zM w _ hx119_3)).trans hx119_3
        have HR119_1 := zA hi119_1
        have HC119_1 := zA hl119_1
        clear hi119_1 hl119_1
        have HR119_2 := zA hi119_2
        have HC119_2 := zA hl119_2
        clear hi119_2 hl119_2
        replace p119 := eq_true p119
        replace q119 := eq_true q119
        go_wp2_with (first | ((with_reducible refine gate_callee (f := 65) rfl ?_); refine goesL_ (some 23) rfl rfl Try.func65 (by kernel_rfl) rfl #[.agg #[.bool ((rd_T98 l0 x5_1).f0), .slice A119_1 ((rd_T98 l0 x5_1).f1).length c119_1, .slice A119_2 ((rd_T98 l0 x5_1).f2).length c119_2, .int .i64 ((rd_T98 l0 x5_1).f3)], .int .i64 x1_1] rfl wH ?_; (with_reducible refine (laws_szTNode.calls k1 ((rd_T98 l0 x5_1).f0) _ _ ((rd_T98 l0 x5_1).f1) _ _ ((rd_T98 l0 x5_1).f2) ((rd_T98 l0 x5_1).f3) x1_1 t120 _ ?side1 ?side2 ?side3 ?side4 A6.out).mono ?_); (case side1 => repeat (first | exact (zQ HR119_1.out HB.out) | (with_reducible refine zR ?_ _) | (with_reducible refine zS ?_ _) | (with_reducible refine zT ?_))); (case side2 => exact HC119_1.out); (case side3 => repeat (first | exact (zQ HR119_2.out HB.out) | (with_reducible refine zR ?_ _) | (with_reducible refine zS ?_ _) | (with_reducible refine zT ?_))); (case side4 => exact HC119_2.out); rintro e w8 ⟨rfl, hb⟩; refine ⟨_, rfl, ?_⟩; have n0_ := zA (zU wA hb); clear HB; have HB := n0_; clear n0_; (try clear hb); (try clear hb2); (try clear hk); (try clear hi)))
        go_ret
        exact ⟨wG, wA⟩
       ·rw [if_neg c7] at H
        have c7b0 : decide (t120 < 0) = false := zK c7
        clear c7
        have H' := zA H
        clear H
        have p119 : 0 ≤ (x5_1 : Int) := zI wE
        have q119 : x5_1 < (l0.length : Int) := zI wE
        obtain ⟨ad119, A119_1, c119_1, A119_2, c119_2, e119, hx119_0, hx119_1, hx119_2, hx119_3, hl119_1, hi119_1, hl119_2, hi119_2⟩ := at_T98 HR0.out x5_1 p119 q119
        cases e119
        replace hx119_0 := (HB.out.cell (zM w _ hx119_0)).trans hx119_0
        replace hx119_1 := (HB.out.cell (zM w _ hx119_1)).trans hx119_1
        replace hx119_2 := (HB.out.cell (zM w _ hx119_2)).trans hx119_2
        replace hx119_3 := (HB.out.cell (zM w _ hx119_3)).trans hx119_3
        have HR119_1 := zA hi119_1
        have HC119_1 := zA hl119_1
        clear hi119_1 hl119_1
        have HR119_2 := zA hi119_2
        have HC119_2 := zA hl119_2
        clear hi119_2 hl119_2
        replace p119 := eq_true p119
        replace q119 := eq_true q119
        go_wp2_with (first | ((with_reducible refine gate_callee (f := 65) rfl ?_); refine goesL_ (some 23) rfl rfl Try.func65 (by kernel_rfl) rfl #[.agg #[.bool ((rd_T98 l0 x5_1).f0), .slice A119_1 ((rd_T98 l0 x5_1).f1).length c119_1, .slice A119_2 ((rd_T98 l0 x5_1).f2).length c119_2, .int .i64 ((rd_T98 l0 x5_1).f3)], .int .i64 x1_1] rfl wH ?_; (with_reducible refine (laws_szTNode.calls k1 ((rd_T98 l0 x5_1).f0) _ _ ((rd_T98 l0 x5_1).f1) _ _ ((rd_T98 l0 x5_1).f2) ((rd_T98 l0 x5_1).f3) x1_1 t120 _ ?side1 ?side2 ?side3 ?side4 A6.out).mono ?_); (case side1 => repeat (first | exact (zQ HR119_1.out HB.out) | (with_reducible refine zR ?_ _) | (with_reducible refine zS ?_ _) | (with_reducible refine zT ?_))); (case side2 => exact HC119_1.out); (case side3 => repeat (first | exact (zQ HR119_2.out HB.out) | (with_reducible refine zR ?_ _) | (with_reducible refine zS ?_ _) | (with_reducible refine zT ?_))); (case side4 => exact HC119_2.out); rintro e w9 ⟨rfl, hb⟩; refine ⟨_, rfl, ?_⟩; have n0_ := zA (zU wA hb); clear HB; have HB := n0_; clear n0_; (try clear hb); (try clear hb2); (try clear hk); (try clear hi)))
        go_roundg k1
        case measure => have := HK1.out; omega
        case rel => exact ⟨(t120), (wrap64 (x5_1 + 1)), wF, wF, H', ⟨by have := HK1.out; omega⟩, ⟨wA⟩⟩
      ·rw [if_neg c5] at H
       exact absurd H (by simp)
     ·rw [if_neg c4] at H
      have c4b0 : decide (x5_1 < (l0.length : Int)) = false := zK c4
      clear c4
      obtain rfl := zL H
      go_wp2
      go_ret
      exact ⟨wG, wA⟩

/-! ### laws_szTree: function 15 -/
def laws_szTree.f (k : Nat) (l0_0 : List (S98)) (a1 : Int) : Option (Int) := (laws_szTNodeS.f k l0_0 a1).bind fun t122 => (if t122 < 0 then (some (-1)) else (some t122))
set_option maxHeartbeats 4000000 in
set_option maxRecDepth 100000 in
theorem laws_szTree.calls (k : Nat) (A0_0 : Option Addr) (c0_0 : Nat) (l0_0 : List (S98)) (a1 : Int) (r : Int) (w : World) (hr0_0 : Kd.C k98 w A0_0 l0_0.length l0_0) (hc0_0 : l0_0.length ≤ c0_0) (h : laws_szTree.f k l0_0 a1 = some r) :
  Calls Try.prog 15 #[.agg #[.slice A0_0 l0_0.length c0_0], .int .i64 a1] w fun e w' => e = .returned (.int .i64 r) ∧ Below w.heap.size w w' := by
 have hu := Try.underlying31
 have hb0 : Below w.heap.size w (w.alloc (.cells #[.slice A0_0 l0_0.length c0_0] 31)) := below_alloc (zZ _ _) _
 have HK := zA (blk_new w (.cells #[.slice A0_0 l0_0.length c0_0] 31))
 have HB := zA hb0
 have C0 := zA (And.intro (zQ hr0_0 hb0) hc0_0)
 unfold laws_szTree.f at h
 obtain ⟨t1, e1, h⟩ := Option.bind_eq_some_iff.mp h
 have E1 := zA e1
 have HH := zA h
 clear hb0 hr0_0 hc0_0 e1 h
 go_enter Try.func15, Try.ntmps15
 go_upto_region 1 with (fail)
 generalize w.alloc (.cells #[.slice A0_0 l0_0.length c0_0] 31) = W2 at *
 have x0 : W2.cell? ⟨w.heap.size, 0, none⟩ = some (.slice A0_0 l0_0.length c0_0) := (blk_cell HK.out 0).trans rfl
 go_wp2_with fail
 refine (laws_szTNodeS.calls k _ _ _ _ t1 W2 C0.out.1 C0.out.2 E1.out).mono ?_
 rintro e W3 ⟨rfl, hb⟩
 have HB3 := zA (HB.out.trans ⟨hb.os, hb.tape, hb.output, hb.size, fun k hk => hb.block k (yJ hk HB.out.size)⟩)
 clear hb
 have h := HH.out
 clear HH
 by_cases c0 : t1 < 0
 ·rw [if_pos c0] at h
  injection h with h
  subst h
  have c1 := zJ c0
  go_wp2_with fail
  go_ret
  exact ⟨rfl, HB3.out⟩
 ·rw [if_neg c0] at h
  injection h with h
  subst h
  have c1 := zK c0
  go_wp2_with fail
  go_ret
  exact ⟨rfl, HB3.out⟩

/-! ### spec_l3Keys: function 47 -/
mutual
def spec_l3Keys.l0 : Nat → List ByteArray → Int → Bool → List ByteArray → List (S56) → Option (List ByteArray)
 | 0, _, _, _, _, _ => none
 | k + 1, x3, x4, x124000, x124001, x124002 => if x4 < (x124002.length : Int) then (if 0 ≤ x4 then ((spec_l3Keys.f k ((rd_T56 x124002 x4).f0) ((rd_T56 x124002 x4).f1) ((rd_T56 x124002 x4).f2)).bind fun t134 => (if x3.length + t134.length < 8796093022208 then (spec_l3Keys.l0 k (x3 ++ t134) (wrap64 (x4 + 1)) x124000 x124001 x124002) else (none))) else (none)) else (some x3)
def spec_l3Keys.f : Nat → Bool → List ByteArray → List (S56) → Option (List ByteArray)
 | 0, _, _, _ => none
 | k + 1, a0_0, l0_1, l0_2 => if a0_0 = true then ((some (([] : List ByteArray) : List ByteArray)).bind fun y124 => (if y124.length + l0_1.length < 8796093022208 then (some (y124 ++ l0_1)) else (none))) else (spec_l3Keys.l0 k (([] : List ByteArray)) 0 a0_0 l0_1 l0_2)
end
set_option maxHeartbeats 8000000 in
set_option maxRecDepth 100000 in
theorem spec_l3Keys.calls (k : Nat) : ∀ (a0_0 : Bool) (A0_1 : Option Addr) (c0_1 : Nat) (l0_1 : List ByteArray) (A0_2 : Option Addr) (c0_2 : Nat) (l0_2 : List (S56)) (r : List ByteArray) (w : World) (hr0_1 : Kd.C Kd.string w A0_1 l0_1.length l0_1) (hc0_1 : l0_1.length ≤ c0_1) (hr0_2 : Kd.C k56 w A0_2 l0_2.length l0_2) (hc0_2 : l0_2.length ≤ c0_2) (h : spec_l3Keys.f k a0_0 l0_1 l0_2 = some r),
   Calls Try.prog 47 #[.agg #[.bool a0_0, .slice A0_1 l0_1.length c0_1, .slice A0_2 l0_2.length c0_2]] w fun e w' => ∃ v0_ : Value, e = .returned (v0_) ∧ Kd.R Kd.string 9 w' w.heap.size (fun _ => True) v0_ r ∧ Below w.heap.size w w' := by
 induction k using Nat.strongRecOn with
 | _ k ih =>
 intro a0_0 A0_1 c0_1 l0_1 A0_2 c0_2 l0_2 r w hr0_1 hc0_1 hr0_2 hc0_2 h
 cases k with
 | zero => exact absurd h (by simp [spec_l3Keys.f])
 | succ k =>
 simp only [spec_l3Keys.f] at h
 have hu56 := Try.underlying56
 have HR0_1 := zA hr0_1
 have HC0_1 := zA hc0_1
 clear hr0_1 hc0_1
 have HR0_2 := zA hr0_2
 have HC0_2 := zA hc0_2
 clear hr0_2 hc0_2
 have HB := zA (zZ w.heap.size w)
 have H : (if a0_0 = true then ((some (([] : List ByteArray) : List ByteArray)).bind fun y124 => (if y124.length + l0_1.length < 8796093022208 then (some (y124 ++ l0_1)) else (none))) else (spec_l3Keys.l0 k (([] : List ByteArray)) 0 a0_0 l0_1 l0_2)) = some r := h
 clear h
 by_cases c2 : a0_0 = true
 · subst c2
   have H1 : ((some (([] : List ByteArray) : List ByteArray)).bind fun y124 => (if y124.length + l0_1.length < 8796093022208 then (some (y124 ++ l0_1)) else (none))) = some r := by rw [if_pos rfl] at H; exact H
   clear H
   have H := H1
   clear H1
   obtain ⟨y124, hy124⟩ : ∃ y_ : List ByteArray, y_ = (([] : List ByteArray)) := ⟨_, rfl⟩
   replace H : (if y124.length + l0_1.length < 8796093022208 then (some (y124 ++ l0_1)) else (none)) = some r := wO hy124 H
   have Ny124 := zA hy124
   clear hy124
   by_cases c3 : y124.length + l0_1.length < 8796093022208
   ·rw [if_pos c3] at H
    have LMc3 := zA c3
    clear c3
    obtain ⟨y127, hy127⟩ : ∃ y_ : List ByteArray, y_ = (y124 ++ l0_1) := ⟨_, rfl⟩
    replace H : (some y127) = some r := wO hy127 H
    have Ny127 := zA hy127
    clear hy127
    obtain rfl := zL H
    go_enter Try.func47, Try.ntmps47
    go_wp2_with (first | ((with_reducible refine gate_dst (N := 1) rfl ?_); refine box_event ?hg (N := 1) ?hd (cs := #[.bool true, .slice A0_1 l0_1.length c0_1, .slice A0_2 l0_2.length c0_2]) (t := 56) ?hr ?_; (case hd => rfl); (case hg => rfl); (case hr => first | (go_simp; done) | (go_simp; rfl)); intro gb123 hg w4 hbox hb; have n0_ := zA (zU wA hb); have n1_ := zA (hbox); have n2_ := zA ((by rw [hg]; exact (zV wA) : w.heap.size ≤ gb123)); have n3_ := zA ((by rw [hg]; exact (zV wA) : w.heap.size ≤ gb123)); clear HB; have HB := n0_; have BK123 := n1_; have GW123 := n2_; have GE123 := n3_; clear n0_ n1_ n2_ n3_; clear hb hbox hg; have hcz5_0 : w4.cell? ⟨gb123, 0, none⟩ = some (.bool true) := (blk_cell BK123.out 0).trans rfl; have hcz5_1 : w4.cell? ⟨gb123, 1, none⟩ = some (.slice A0_1 l0_1.length c0_1) := (blk_cell BK123.out 1).trans rfl; have hcz5_2 : w4.cell? ⟨gb123, 2, none⟩ = some (.slice A0_2 l0_2.length c0_2) := (blk_cell BK123.out 2).trans rfl; have hfz5_0 := zG BK123.out 0; have hfz5_1 := zG BK123.out 1; have hfz5_2 := zG BK123.out 2) | ((with_reducible refine gate_dst (N := 7) rfl ?_); refine Kd.R_lit Kd.string _ 9 ?hg (N := 7) ?hd (xs := ([] : List ByteArray)) (inner := []) (ok := fun _ => True) (okp := fun _ => True) ?hr ?hp (fun _ hk => hk) trivial (zZ _ _) (zY _) (by simp) ?_; (case hd => rfl); (case hg => rfl); (case hr => first | (go_simp; done) | (go_simp; rfl)); (case hp => exact (Reps.none _ _)); intro v125 w6 ho7 hb hg_ hnew_; clear hg_ hnew_; (first | rw [← Ny124.out] at ho7 | (simp only [Int.reduceToNat] at ho7; rw [← Ny124.out] at ho7)); have n0_ := zA (Kd.R_lower ho7 (zV (wB GE123.out))); have n1_ := zA (zH (g := gb123) (o := .cells #[.bool true, .slice A0_1 l0_1.length c0_1, .slice A0_2 l0_2.length c0_2] 56 (0, 0)) (wJ BK123.out) hb); have n2_ := zA (zU (wB GE123.out) hb); clear BK123; clear HB; have HO126 := n0_; have BK123 := n1_; have HB := n2_; clear n0_ n1_ n2_; clear hb ho7; have hcz8_0 : w6.cell? ⟨gb123, 0, none⟩ = some (.bool true) := (blk_cell BK123.out 0).trans rfl; have hcz8_1 : w6.cell? ⟨gb123, 1, none⟩ = some (.slice A0_1 l0_1.length c0_1) := (blk_cell BK123.out 1).trans rfl; have hcz8_2 : w6.cell? ⟨gb123, 2, none⟩ = some (.slice A0_2 l0_2.length c0_2) := (blk_cell BK123.out 2).trans rfl; have hfz8_0 := zG BK123.out 0; have hfz8_1 := zG BK123.out 1; have hfz8_2 := zG BK123.out 2) | ((with_reducible refine gate_builtin (b := .append) (xs := #[.tmp 7, .tmp 9]) rfl ?_); at_builtin; refine Kd.R_append_rows Kd.string (w0 := w) w.heap.size rfl (.tmp 7) (.tmp 9) 38 9 (.string ⟨#[]⟩) 16 rfl Try.underlying38 info9 rfl (by decide) (by omega) v125 y124 l0_1 _ _ _ (fun _ => True) (fun _ => False) rfl rfl ?aO ?aR (fun _ _ h => h) (fun _ h => h.elim) ?aF ?aB ?aS ?aL ?_; (case aR => repeat (first | exact (zQ HR0_1.out HB.out) | (with_reducible refine zR ?_ _) | (with_reducible refine zS ?_ _) | (with_reducible refine zT ?_))); (case aB => exact (wB GE123.out)); (case aF => exact (fun _ _ => trivial)); (case aO => exact (wK HO126.out)); (case aS => exact (zV (wB GE123.out))); (case aL => have := LMc3.out; omega); intro v128 w9 ho hb hg hat; rw [← Ny127.out] at ho; have n0_ := zA (blk_grown (g := gb123) (o := .cells #[.bool true, .slice A0_1 l0_1.length c0_1, .slice A0_2 l0_2.length c0_2] 56 (0, 0)) (wJ BK123.out) hg (Kd.R_ne HO126.out BK123.out (by decide))); have n1_ := zA (hb); have n2_ := zA (ho); clear BK123; clear HB; clear HO126; have BK123 := n0_; have HB := n1_; have HO129 := n2_; clear n0_ n1_ n2_; clear ho hb hg hat))
    go_ret
    exact ⟨_, wG, wK HO129.out, wB GE123.out⟩
   ·rw [if_neg c3] at H
    exact absurd H (by simp)
 · replace c2 := Bool.eq_false_iff.mpr c2
   subst c2
   have H1 : (spec_l3Keys.l0 k (([] : List ByteArray)) 0 false l0_1 l0_2) = some r := by rw [if_neg (show ¬ (false = true) by decide)] at H; exact H
   clear H
   have H := H1
   clear H1
   obtain ⟨y130, hy130⟩ : ∃ y_ : List ByteArray, y_ = (([] : List ByteArray)) := ⟨_, rfl⟩
   replace H : (spec_l3Keys.l0 k y130 0 false l0_1 l0_2) = some r := wO hy130 H
   have Ny130 := zA hy130
   clear hy130
   have H' := zA H
   clear H
   go_enter Try.func47, Try.ntmps47
   go_wp2_with (first | ((with_reducible refine gate_dst (N := 1) rfl ?_); refine box_event ?hg (N := 1) ?hd (cs := #[.bool false, .slice A0_1 l0_1.length c0_1, .slice A0_2 l0_2.length c0_2]) (t := 56) ?hr ?_; (case hd => rfl); (case hg => rfl); (case hr => first | (go_simp; done) | (go_simp; rfl)); intro gb123 hg w10 hbox hb; have n0_ := zA (zU wA hb); have n1_ := zA (hbox); have n2_ := zA ((by rw [hg]; exact (zV wA) : w.heap.size ≤ gb123)); have n3_ := zA ((by rw [hg]; exact (zV wA) : w.heap.size ≤ gb123)); clear HB; have HB := n0_; have BK123 := n1_; have GW123 := n2_; have GE123 := n3_; clear n0_ n1_ n2_ n3_; clear hb hbox hg; have hcz11_0 : w10.cell? ⟨gb123, 0, none⟩ = some (.bool false) := (blk_cell BK123.out 0).trans rfl; have hcz11_1 : w10.cell? ⟨gb123, 1, none⟩ = some (.slice A0_1 l0_1.length c0_1) := (blk_cell BK123.out 1).trans rfl; have hcz11_2 : w10.cell? ⟨gb123, 2, none⟩ = some (.slice A0_2 l0_2.length c0_2) := (blk_cell BK123.out 2).trans rfl; have hfz11_0 := zG BK123.out 0; have hfz11_1 := zG BK123.out 1; have hfz11_2 := zG BK123.out 2) | ((with_reducible refine gate_dst (N := 11) rfl ?_); refine Kd.R_lit Kd.string _ 9 ?hg (N := 11) ?hd (xs := ([] : List ByteArray)) (inner := []) (ok := fun _ => True) (okp := fun _ => True) ?hr ?hp (fun _ hk => hk) trivial (zZ _ _) (zY _) (by simp) ?_; (case hd => rfl); (case hg => rfl); (case hr => first | (go_simp; done) | (go_simp; rfl)); (case hp => exact (Reps.none _ _)); intro v131 w12 ho13 hb hg_ hnew_; clear hg_ hnew_; (first | rw [← Ny130.out] at ho13 | (simp only [Int.reduceToNat] at ho13; rw [← Ny130.out] at ho13)); have n0_ := zA (Kd.R_lower ho13 (zV (wB GE123.out))); have n1_ := zA (zH (g := gb123) (o := .cells #[.bool false, .slice A0_1 l0_1.length c0_1, .slice A0_2 l0_2.length c0_2] 56 (0, 0)) (wJ BK123.out) hb); have n2_ := zA (zU (wB GE123.out) hb); clear BK123; clear HB; have HO132 := n0_; have BK123 := n1_; have HB := n2_; clear n0_ n1_ n2_; clear hb ho13))
   go_loopg [3, 4] k (fun kq v3 v4 w' => ∃ (x3_1 : List ByteArray) (x4_1 : Int), v4 = .int .i64 x4_1 ∧ Aside0 (spec_l3Keys.l0 kq x3_1 x4_1 false l0_1 l0_2 = some r) ∧ Aside0 (kq ≤ k) ∧ Aside0 (Kd.R Kd.string 9 w' w.heap.size (fun _ => True) v3 x3_1) ∧ Aside0 (w'.heap[gb123]? = some (.cells #[.bool false, (.slice A0_1 l0_1.length c0_1), (.slice A0_2 l0_2.length c0_2)] 56 (0, 0))) ∧ Aside0 (Below w.heap.size w w'))
   case atStart => exact ⟨(y130), (0), wF, H', ⟨zY _⟩, ⟨wK HO132.out⟩, ⟨wJ BK123.out⟩, ⟨wB GE123.out⟩⟩
   case round =>
    clear H'
    try clear c2
    try clear p2
    try clear c3
    try clear c4
    try clear hcz11_0
    try clear hcz11_1
    try clear hcz11_2
    try clear hcz5_0
    try clear hcz5_1
    try clear hcz5_2
    try clear hcz8_0
    try clear hcz8_1
    try clear hcz8_2
    try clear hfz11_0
    try clear hfz11_1
    try clear hfz11_2
    try clear hfz5_0
    try clear hfz5_1
    try clear hfz5_2
    try clear hfz8_0
    try clear hfz8_1
    try clear hfz8_2
    obtain ⟨x3_1, x4_1, rfl, HA, HK1, HO_3, BK123, HB⟩ := hrel
    cases gk with
    | zero => exact absurd HA.out (by simp [spec_l3Keys.l0])
    | succ k1 =>
      have H := HA.out
      clear HA
      simp only [spec_l3Keys.l0] at H
      by_cases c14 : x4_1 < (l0_2.length : Int)
      ·rw [if_pos c14] at H
       have c14b0 : decide (x4_1 < (l0_2.length : Int)) = true := zJ c14
       clear c14
       by_cases c15 : 0 ≤ x4_1
       ·rw [if_pos c15] at H
        have c15b0 : decide (0 ≤ x4_1) = true := zJ c15
        clear c15
        replace H := Option.bind_eq_some_iff.mp H
        obtain ⟨t134, A160, H⟩ := H
        replace H : (if x3_1.length + t134.length < 8796093022208 then (spec_l3Keys.l0 k1 (x3_1 ++ t134) (wrap64 (x4_1 + 1)) false l0_1 l0_2) else (none)) = some r := H
        have A16 := zA A160
        clear A160
        by_cases c17 : x3_1.length + t134.length < 8796093022208
        ·rw [if_pos c17] at H
         have LMc17 := zA c17
         clear c17
         obtain ⟨y137, hy137⟩ : ∃ y_ : List ByteArray, y_ = (x3_1 ++ t134) := ⟨_, rfl⟩
         replace H : (spec_l3Keys.l0 k1 y137 (wrap64 (x4_1 + 1)) false l0_1 l0_2) = some r := wO hy137 H
         have Ny137 := zA hy137
         clear hy137
         have H' := zA H
         clear H
         have hcz18_0 : wr.cell? ⟨gb123, 0, none⟩ = some (.bool false) := (blk_cell BK123.out 0).trans rfl
         have hcz18_1 : wr.cell? ⟨gb123, 1, none⟩ = some (.slice A0_1 l0_1.length c0_1) := (blk_cell BK123.out 1).trans rfl
         have hcz18_2 : wr.cell? ⟨gb123, 2, none⟩ = some (.slice A0_2 l0_2.length c0_2) := (blk_cell BK123.out 2).trans rfl
         have hfz18_0 := zG BK123.out 0
         have hfz18_1 := zG BK123.out 1
         have hfz18_2 := zG BK123.out 2
         have p133 : 0 ≤ (x4_1 : Int) := zI wE
         have q133 : x4_1 < (l0_2.length : Int) := zI wE
         obtain ⟨ad133, A133_1, c133_1, A133_2, c133_2, e133, hx133_0, hx133_1, hx133_2, hl133_1, hi133_1, hl133_2, hi133_2⟩ := at_T56 HR0_2.out x4_1 p133 q133
         cases e133
         replace hx133_0 := (HB.out.cell (zM w _ hx133_0)).trans hx133_0
         replace hx133_1 := (HB.out.cell (zM w _ hx133_1)).trans hx133_1
         replace hx133_2 := (HB.out.cell (zM w _ hx133_2)).trans hx133_2
         have HR133_1 := zA hi133_1
         have HC133_1 := zA hl133_1
         clear hi133_1 hl133_1
         have HR133_2 := zA hi133_2
         have HC133_2 := zA hl133_2
         clear hi133_2 hl133_2
         replace p133 := eq_true p133
         replace q133 := eq_true q133
         go_wp2_with (first | ((with_reducible refine gate_callee (f := 47) rfl ?_); refine goesL_ (some 25) rfl rfl Try.func47 (by kernel_rfl) rfl #[.agg #[.bool ((rd_T56 l0_2 x4_1).f0), .slice A133_1 ((rd_T56 l0_2 x4_1).f1).length c133_1, .slice A133_2 ((rd_T56 l0_2 x4_1).f2).length c133_2]] rfl wH ?_; (with_reducible refine (ih k1 (by have := HK1.out; omega) ((rd_T56 l0_2 x4_1).f0) _ _ ((rd_T56 l0_2 x4_1).f1) _ _ ((rd_T56 l0_2 x4_1).f2) t134 _ ?side1 ?side2 ?side3 ?side4 A16.out).mono ?_); (case side1 => repeat (first | exact (zQ HR133_1.out HB.out) | (with_reducible refine zR ?_ _) | (with_reducible refine zS ?_ _) | (with_reducible refine zT ?_))); (case side2 => exact HC133_1.out); (case side3 => repeat (first | exact (zQ HR133_2.out HB.out) | (with_reducible refine zR ?_ _) | (with_reducible refine zS ?_ _) | (with_reducible refine zT ?_))); (case side4 => exact HC133_2.out); rintro e w19 ⟨v135, rfl, ho0, hb⟩; refine ⟨_, rfl, ?_⟩; have n0_ := zA (Kd.R_elder' (wK HO_3.out) (Kd.R_base ho0) hb); have n1_ := zA (Kd.R_lower (Kd.R_new' ho0 (Kd.R_lt (wK HO_3.out))) (zV (wB GE123.out))); have n2_ := zA (zH (g := gb123) (o := .cells #[.bool false, .slice A0_1 l0_1.length c0_1, .slice (some ad133) l0_2.length c0_2] 56 (0, 0)) (wJ BK123.out) hb); have n3_ := zA (zU (wB GE123.out) hb); clear HO_3; clear BK123; clear HB; have HO_3 := n0_; have HO136 := n1_; have BK123 := n2_; have HB := n3_; clear n0_ n1_ n2_ n3_; (try clear hb); (try clear hb2); (try clear hk); (try clear hi); (try clear ho0); obtain ⟨Ao21, co21, eo21⟩ := Kd.R_slice HO136.out; subst eo21) | ((with_reducible refine gate_builtin (b := .append) (xs := #[.tmp 19, .tmp 25]) rfl ?_); at_builtin; refine Kd.R_append_rows Kd.string (w0 := w) w.heap.size rfl (.tmp 19) (.tmp 25) 38 9 (.string ⟨#[]⟩) 16 rfl Try.underlying38 info9 rfl (by decide) (by omega) u3 x3_1 t134 _ _ _ (fun k_ => some k_ ≠ (.slice Ao21 t134.length co21 : Value).ownBlock) (fun _ => False) rfl rfl ?aO ?aR (fun _ _ h => h) (fun _ h => h.elim) ?aF ?aB ?aS ?aL ?_; (case aR => repeat (first | exact (Kd.R_reads' HO136.out).2.2 | (with_reducible refine zR ?_ _) | (with_reducible refine zS ?_ _) | (with_reducible refine zT ?_))); (case aB => exact (wB GE123.out)); (case aF => exact (fun k_ hk => Kd.fresh' (Kd.R_lt (wK HO136.out)) k_ hk)); (case aO => exact (by (with_reducible repeat (first | apply Kd.R_alloc | apply Kd.R_drewN | apply Kd.R_drew)); exact yA HO_3.out (fun _ hk => hk.2))); (case aS => exact (zV (wB GE123.out))); (case aL => have := LMc17.out; omega); intro v138 w20 ho hb hg hat; rw [← Ny137.out] at ho; have n0_ := zA (blk_grown (g := gb123) (o := .cells #[.bool false, .slice A0_1 l0_1.length c0_1, .slice (some ad133) l0_2.length c0_2] 56 (0, 0)) (wJ BK123.out) hg (Kd.R_ne HO_3.out BK123.out (by decide))); have n1_ := zA (Kd.R_after (ok := (fun _ => True)) (wK HO136.out) hg hat); have n2_ := zA (hb); have n3_ := zA (ho); clear BK123; clear HO136; clear HB; clear HO_3; have BK123 := n0_; have HO136 := n1_; have HB := n2_; have HO139 := n3_; clear n0_ n1_ n2_ n3_; clear ho hb hg hat))
         go_roundg k1
         case measure => have := HK1.out; omega
         case rel => exact ⟨(y137), (wrap64 (x4_1 + 1)), wF, H', ⟨by have := HK1.out; omega⟩, ⟨by (with_reducible repeat (first | apply Kd.R_alloc | apply Kd.R_drewN | apply Kd.R_drew)); exact yA HO139.out (fun _ hk => trivial)⟩, ⟨wJ BK123.out⟩, ⟨wB GE123.out⟩⟩
        ·rw [if_neg c17] at H
         exact absurd H (by simp)
       ·rw [if_neg c15] at H
        exact absurd H (by simp)
      ·rw [if_neg c14] at H
       have c14b0 : decide (x4_1 < (l0_2.length : Int)) = false := zK c14
       clear c14
       obtain rfl := zL H
       have hcz22_0 : wr.cell? ⟨gb123, 0, none⟩ = some (.bool false) := (blk_cell BK123.out 0).trans rfl
       have hcz22_1 : wr.cell? ⟨gb123, 1, none⟩ = some (.slice A0_1 l0_1.length c0_1) := (blk_cell BK123.out 1).trans rfl
       have hcz22_2 : wr.cell? ⟨gb123, 2, none⟩ = some (.slice A0_2 l0_2.length c0_2) := (blk_cell BK123.out 2).trans rfl
       have hfz22_0 := zG BK123.out 0
       have hfz22_1 := zG BK123.out 1
       have hfz22_2 := zG BK123.out 2
       go_wp2
       go_ret
       exact ⟨_, wG, wK HO_3.out, wB GE123.out⟩

/-! ### spec_l3Size: function 82 -/
def spec_l3Size.f (a0_0 : Bool) (l0_1 : List ByteArray) (l0_2 : List (S56)) : Option (Int) := if a0_0 = true then (some (l0_1.length : Int)) else (some (l0_2.length : Int))
set_option maxHeartbeats 8000000 in
set_option maxRecDepth 100000 in
theorem spec_l3Size.calls (a0_0 : Bool) (A0_1 : Option Addr) (c0_1 : Nat) (l0_1 : List ByteArray) (A0_2 : Option Addr) (c0_2 : Nat) (l0_2 : List (S56)) (r : Int) (w : World) (hr0_1 : Kd.C Kd.string w A0_1 l0_1.length l0_1) (hc0_1 : l0_1.length ≤ c0_1) (hr0_2 : Kd.C k56 w A0_2 l0_2.length l0_2) (hc0_2 : l0_2.length ≤ c0_2) (h : spec_l3Size.f a0_0 l0_1 l0_2 = some r) :
  Calls Try.prog 82 #[.agg #[.bool a0_0, .slice A0_1 l0_1.length c0_1, .slice A0_2 l0_2.length c0_2]] w fun e w' => e = .returned (.int .i64 r) ∧ Below w.heap.size w w' := by
 have hu56 := Try.underlying56
 have HR0_1 := zA hr0_1
 have HC0_1 := zA hc0_1
 clear hr0_1 hc0_1
 have HR0_2 := zA hr0_2
 have HC0_2 := zA hc0_2
 clear hr0_2 hc0_2
 have HB := zA (zZ w.heap.size w)
 have H : (if a0_0 = true then (some (l0_1.length : Int)) else (some (l0_2.length : Int))) = some r := h
 clear h
 by_cases c2 : a0_0 = true
 ·subst c2
  have H1 : (some (l0_1.length : Int)) = some r := by rw [if_pos rfl] at H; exact H
  clear H
  have H := H1
  clear H1
  obtain rfl := zL H
  go_enter Try.func82, Try.ntmps82
  go_wp2_with (first | ((with_reducible refine gate_dst (N := 1) rfl ?_); refine box_event ?hg (N := 1) ?hd (cs := #[.bool true, .slice A0_1 l0_1.length c0_1, .slice A0_2 l0_2.length c0_2]) (t := 56) ?hr ?_; (case hd => rfl); (case hg => rfl); (case hr => first | (go_simp; done) | (go_simp; rfl)); intro gb206 hg w3 hbox hb; have n0_ := zA (zU wA hb); have n1_ := zA (hbox); have n2_ := zA ((by rw [hg]; exact (zV wA) : w.heap.size ≤ gb206)); have n3_ := zA ((by rw [hg]; exact (zV wA) : w.heap.size ≤ gb206)); clear HB; have HB := n0_; have BK206 := n1_; have GW206 := n2_; have GE206 := n3_; clear n0_ n1_ n2_ n3_; clear hb hbox hg; have hcz4_0 : w3.cell? ⟨gb206, 0, none⟩ = some (.bool true) := (blk_cell BK206.out 0).trans rfl; have hcz4_1 : w3.cell? ⟨gb206, 1, none⟩ = some (.slice A0_1 l0_1.length c0_1) := (blk_cell BK206.out 1).trans rfl; have hcz4_2 : w3.cell? ⟨gb206, 2, none⟩ = some (.slice A0_2 l0_2.length c0_2) := (blk_cell BK206.out 2).trans rfl; have hfz4_0 := zG BK206.out 0; have hfz4_1 := zG BK206.out 1; have hfz4_2 := zG BK206.out 2))
  go_ret
  exact ⟨wG, wB GE206.out⟩
 ·replace c2 := Bool.eq_false_iff.mpr c2
  subst c2
  have H1 : (some (l0_2.length : Int)) = some r := by rw [if_neg (show ¬ (false = true) by decide)] at H; exact H
  clear H
  have H := H1
  clear H1
  obtain rfl := zL H
  go_enter Try.func82, Try.ntmps82
  go_wp2_with (first | ((with_reducible refine gate_dst (N := 1) rfl ?_); refine box_event ?hg (N := 1) ?hd (cs := #[.bool false, .slice A0_1 l0_1.length c0_1, .slice A0_2 l0_2.length c0_2]) (t := 56) ?hr ?_; (case hd => rfl); (case hg => rfl); (case hr => first | (go_simp; done) | (go_simp; rfl)); intro gb206 hg w5 hbox hb; have n0_ := zA (zU wA hb); have n1_ := zA (hbox); have n2_ := zA ((by rw [hg]; exact (zV wA) : w.heap.size ≤ gb206)); have n3_ := zA ((by rw [hg]; exact (zV wA) : w.heap.size ≤ gb206)); clear HB; have HB := n0_; have BK206 := n1_; have GW206 := n2_; have GE206 := n3_; clear n0_ n1_ n2_ n3_; clear hb hbox hg; have hcz6_0 : w5.cell? ⟨gb206, 0, none⟩ = some (.bool false) := (blk_cell BK206.out 0).trans rfl; have hcz6_1 : w5.cell? ⟨gb206, 1, none⟩ = some (.slice A0_1 l0_1.length c0_1) := (blk_cell BK206.out 1).trans rfl; have hcz6_2 : w5.cell? ⟨gb206, 2, none⟩ = some (.slice A0_2 l0_2.length c0_2) := (blk_cell BK206.out 2).trans rfl; have hfz6_0 := zG BK206.out 0; have hfz6_1 := zG BK206.out 1; have hfz6_2 := zG BK206.out 2))
  go_ret
  exact ⟨wG, wB GE206.out⟩

/-! ### spec_l3Depth: function 67 -/
mutual
def spec_l3Depth.j0 : Nat → Bool → Bool → List ByteArray → List (S56) → Option (Int)
 | 0, _, _, _, _ => none
 | k + 1, x23, x208000, x208001, x208002 => if x23 = true then (some (-1)) else (if x208000 = true then (some 0) else (if 0 < (x208002.length : Int) then ((spec_l3Depth.f k ((rd_T56 x208002 0).f0) ((rd_T56 x208002 0).f1) ((rd_T56 x208002 0).f2) false).bind fun t211 => (spec_l3Depth.l0 k t211 0 x208000 x208001 x208002)) else (none)))
def spec_l3Depth.l0 : Nat → Int → Int → Bool → List ByteArray → List (S56) → Option (Int)
 | 0, _, _, _, _, _ => none
 | k + 1, x5, x6, x208000, x208001, x208002 => if x6 < (x208002.length : Int) then (if 0 ≤ x6 then ((spec_l3Depth.f k ((rd_T56 x208002 x6).f0) ((rd_T56 x208002 x6).f1) ((rd_T56 x208002 x6).f2) false).bind fun t213 => (if t213 = x5 then (spec_l3Depth.l0 k x5 (wrap64 (x6 + 1)) x208000 x208001 x208002) else (some (-1)))) else (none)) else (if x5 < 0 then (some (-1)) else (some (wrap64 (x5 + 1))))
def spec_l3Depth.f : Nat → Bool → List ByteArray → List (S56) → Bool → Option (Int)
 | 0, _, _, _, _ => none
 | k + 1, a0_0, l0_1, l0_2, a1 => (spec_l3Size.f a0_0 l0_1 l0_2).bind fun t208 => (if t208 > 4 then (spec_l3Depth.j0 k true a0_0 l0_1 l0_2) else ((spec_l3Size.f a0_0 l0_1 l0_2).bind fun t209 => (if t209 < 2 then (if a1 = true then (spec_l3Depth.j0 k (!a0_0) a0_0 l0_1 l0_2) else (spec_l3Depth.j0 k true a0_0 l0_1 l0_2)) else (spec_l3Depth.j0 k false a0_0 l0_1 l0_2))))
end
set_option maxHeartbeats 8000000 in
set_option maxRecDepth 100000 in
theorem spec_l3Depth.calls (k : Nat) : ∀ (a0_0 : Bool) (A0_1 : Option Addr) (c0_1 : Nat) (l0_1 : List ByteArray) (A0_2 : Option Addr) (c0_2 : Nat) (l0_2 : List (S56)) (a1 : Bool) (r : Int) (w : World) (hr0_1 : Kd.C Kd.string w A0_1 l0_1.length l0_1) (hc0_1 : l0_1.length ≤ c0_1) (hr0_2 : Kd.C k56 w A0_2 l0_2.length l0_2) (hc0_2 : l0_2.length ≤ c0_2) (h : spec_l3Depth.f k a0_0 l0_1 l0_2 a1 = some r),
   Calls Try.prog 67 #[.agg #[.bool a0_0, .slice A0_1 l0_1.length c0_1, .slice A0_2 l0_2.length c0_2], .bool a1] w fun e w' => e = .returned (.int .i64 r) ∧ Below w.heap.size w w' := by
 induction k using Nat.strongRecOn with
 | _ k ih =>
 intro a0_0 A0_1 c0_1 l0_1 A0_2 c0_2 l0_2 a1 r w hr0_1 hc0_1 hr0_2 hc0_2 h
 cases k with
 | zero => exact absurd h (by simp [spec_l3Depth.f])
 | succ k =>
 simp only [spec_l3Depth.f] at h
 have hu56 := Try.underlying56
 have HR0_1 := zA hr0_1
 have HC0_1 := zA hc0_1
 clear hr0_1 hc0_1
 have HR0_2 := zA hr0_2
 have HC0_2 := zA hc0_2
 clear hr0_2 hc0_2
 have HB := zA (zZ w.heap.size w)
 have H : ((spec_l3Size.f a0_0 l0_1 l0_2).bind fun t208 => (if t208 > 4 then (spec_l3Depth.j0 k true a0_0 l0_1 l0_2) else ((spec_l3Size.f a0_0 l0_1 l0_2).bind fun t209 => (if t209 < 2 then (if a1 = true then (spec_l3Depth.j0 k (!a0_0) a0_0 l0_1 l0_2) else (spec_l3Depth.j0 k true a0_0 l0_1 l0_2)) else (spec_l3Depth.j0 k false a0_0 l0_1 l0_2))))) = some r := h
 clear h
 have HC3 := zA H
 clear H
 go_enter Try.func67, Try.ntmps67
 go_upto_region 1 with (first | ((with_reducible refine gate_dst (N := 2) rfl ?_); refine box_event ?hg (N := 2) ?hd (cs := #[.bool a0_0, .slice A0_1 l0_1.length c0_1, .slice A0_2 l0_2.length c0_2]) (t := 56) ?hr ?_; (case hd => rfl); (case hg => rfl); (case hr => first | (go_simp; done) | (go_simp; rfl)); intro gb207 hg w4 hbox hb; have n0_ := zA (zU wA hb); have n1_ := zA (hbox); have n2_ := zA ((by rw [hg]; exact (zV wA) : w.heap.size ≤ gb207)); have n3_ := zA ((by rw [hg]; exact (zV wA) : w.heap.size ≤ gb207)); clear HB; have HB := n0_; have BK207 := n1_; have GW207 := n2_; have GE207 := n3_; clear n0_ n1_ n2_ n3_; clear hb hbox hg))
 (try simp only [Act.put, zN, zO, zP])
 go_cut [23] (fun v23 wc => ∃ (kq : Nat) (x23_2 : Bool), v23 = .bool x23_2 ∧ Aside0 (spec_l3Depth.j0 kq x23_2 a0_0 l0_1 l0_2 = some r) ∧ Aside0 (kq ≤ k) ∧ Aside0 (wc.heap[gb207]? = some (.cells #[.bool a0_0, (.slice A0_1 l0_1.length c0_1), (.slice A0_2 l0_2.length c0_2)] 56 (0, 0))) ∧ Aside0 (Below w.heap.size w wc))
 case first =>
   have H := HC3.out
   clear HC3
   replace H := Option.bind_eq_some_iff.mp H
   obtain ⟨t208, A50, H⟩ := H
   replace H : (if t208 > 4 then (spec_l3Depth.j0 k true a0_0 l0_1 l0_2) else ((spec_l3Size.f a0_0 l0_1 l0_2).bind fun t209 => (if t209 < 2 then (if a1 = true then (spec_l3Depth.j0 k (!a0_0) a0_0 l0_1 l0_2) else (spec_l3Depth.j0 k true a0_0 l0_1 l0_2)) else (spec_l3Depth.j0 k false a0_0 l0_1 l0_2)))) = some r := H
   have A5 := zA A50
   clear A50
   by_cases c6 : t208 > 4
   · rw [if_pos c6] at H
     have c6b0 : decide (4 < t208) = true := zJ c6
     clear c6
     (first | rw [c6b0] | (simp only [i64_w, i32_w]; rw [c6b0]) | skip)
     have H' := zA H
     clear H
     have hcz7_0 : w4.cell? ⟨gb207, 0, none⟩ = some (.bool a0_0) := (blk_cell BK207.out 0).trans rfl
     have hcz7_1 : w4.cell? ⟨gb207, 1, none⟩ = some (.slice A0_1 l0_1.length c0_1) := (blk_cell BK207.out 1).trans rfl
     have hcz7_2 : w4.cell? ⟨gb207, 2, none⟩ = some (.slice A0_2 l0_2.length c0_2) := (blk_cell BK207.out 2).trans rfl
     have hfz7_0 := zG BK207.out 0
     have hfz7_1 := zG BK207.out 1
     have hfz7_2 := zG BK207.out 2
     go_wp2_with (first | ((with_reducible refine gate_callee (f := 82) rfl ?_); refine goesL_ (some 8) rfl rfl Try.func82 (by kernel_rfl) rfl #[.agg #[.bool a0_0, .slice A0_1 l0_1.length c0_1, .slice A0_2 l0_2.length c0_2]] rfl wH ?_; (with_reducible refine (spec_l3Size.calls a0_0 _ _ l0_1 _ _ l0_2 t208 _ ?side1 ?side2 ?side3 ?side4 A5.out).mono ?_); (case side1 => repeat (first | exact (zQ HR0_1.out HB.out) | (with_reducible refine zR ?_ _) | (with_reducible refine zS ?_ _) | (with_reducible refine zT ?_))); (case side2 => exact HC0_1.out); (case side3 => repeat (first | exact (zQ HR0_2.out HB.out) | (with_reducible refine zR ?_ _) | (with_reducible refine zS ?_ _) | (with_reducible refine zT ?_))); (case side4 => exact HC0_2.out); rintro e w8 ⟨rfl, hb⟩; refine ⟨_, rfl, ?_⟩; have n0_ := zA (zH (g := gb207) (o := .cells #[.bool a0_0, .slice A0_1 l0_1.length c0_1, .slice A0_2 l0_2.length c0_2] 56 (0, 0)) (wJ BK207.out) hb); have n1_ := zA (zU (wB GE207.out) hb); clear BK207; clear HB; have BK207 := n0_; have HB := n1_; clear n0_ n1_; (try clear hb); (try clear hb2); (try clear hk); (try clear hi)))
     go_meet
     case rel => exact ⟨_, (true), wF, H', ⟨by first | omega | exact zY _⟩, ⟨wJ BK207.out⟩, ⟨wB GE207.out⟩⟩
   · rw [if_neg c6] at H
     have c6b0 : decide (4 < t208) = false := zK c6
     clear c6
     (first | rw [c6b0] | (simp only [i64_w, i32_w]; rw [c6b0]) | skip)
     replace H := Option.bind_eq_some_iff.mp H
     obtain ⟨t209, A90, H⟩ := H
     replace H : (if t209 < 2 then (if a1 = true then (spec_l3Depth.j0 k (!a0_0) a0_0 l0_1 l0_2) else (spec_l3Depth.j0 k true a0_0 l0_1 l0_2)) else (spec_l3Depth.j0 k false a0_0 l0_1 l0_2)) = some r := H
     have A9 := zA A90
     clear A90
     by_cases c10 : t209 < 2
     · rw [if_pos c10] at H
       have c10b0 : decide (t209 < 2) = true := zJ c10
       clear c10
       by_cases c11 : a1 = true
       ·subst c11
        have H1 : (spec_l3Depth.j0 k (!a0_0) a0_0 l0_1 l0_2) = some r := by rw [if_pos rfl] at H; exact H
        clear H
        have H := H1
        clear H1
        have H' := zA H
        clear H
        have hcz12_0 : w4.cell? ⟨gb207, 0, none⟩ = some (.bool a0_0) := (blk_cell BK207.out 0).trans rfl
        have hcz12_1 : w4.cell? ⟨gb207, 1, none⟩ = some (.slice A0_1 l0_1.length c0_1) := (blk_cell BK207.out 1).trans rfl
        have hcz12_2 : w4.cell? ⟨gb207, 2, none⟩ = some (.slice A0_2 l0_2.length c0_2) := (blk_cell BK207.out 2).trans rfl
        have hfz12_0 := zG BK207.out 0
        have hfz12_1 := zG BK207.out 1
        have hfz12_2 := zG BK207.out 2
        go_wp2_with (first | ((with_reducible refine gate_callee (f := 82) rfl ?_); refine goesL_ (some 8) rfl rfl Try.func82 (by kernel_rfl) rfl #[.agg #[.bool a0_0, .slice A0_1 l0_1.length c0_1, .slice A0_2 l0_2.length c0_2]] rfl wH ?_; (with_reducible refine (spec_l3Size.calls a0_0 _ _ l0_1 _ _ l0_2 t208 _ ?side1 ?side2 ?side3 ?side4 A5.out).mono ?_); (case side1 => repeat (first | exact (zQ HR0_1.out HB.out) | (with_reducible refine zR ?_ _) | (with_reducible refine zS ?_ _) | (with_reducible refine zT ?_))); (case side2 => exact HC0_1.out); (case side3 => repeat (first | exact (zQ HR0_2.out HB.out) | (with_reducible refine zR ?_ _) | (with_reducible refine zS ?_ _) | (with_reducible refine zT ?_))); (case side4 => exact HC0_2.out); rintro e w13 ⟨rfl, hb⟩; refine ⟨_, rfl, ?_⟩; have n0_ := zA (zH (g := gb207) (o := .cells #[.bool a0_0, .slice A0_1 l0_1.length c0_1, .slice A0_2 l0_2.length c0_2] 56 (0, 0)) (wJ BK207.out) hb); have n1_ := zA (zU (wB GE207.out) hb); clear BK207; clear HB; have BK207 := n0_; have HB := n1_; clear n0_ n1_; (try clear hb); (try clear hb2); (try clear hk); (try clear hi); have hcz14_0 : w13.cell? ⟨gb207, 0, none⟩ = some (.bool a0_0) := (blk_cell BK207.out 0).trans rfl; have hcz14_1 : w13.cell? ⟨gb207, 1, none⟩ = some (.slice A0_1 l0_1.length c0_1) := (blk_cell BK207.out 1).trans rfl; have hcz14_2 : w13.cell? ⟨gb207, 2, none⟩ = some (.slice A0_2 l0_2.length c0_2) := (blk_cell BK207.out 2).trans rfl; have hfz14_0 := zG BK207.out 0; have hfz14_1 := zG BK207.out 1; have hfz14_2 := zG BK207.out 2) | (go_at_call 82; (with_reducible refine (spec_l3Size.calls a0_0 _ _ l0_1 _ _ l0_2 t209 _ ?side1 ?side2 ?side3 ?side4 A9.out).mono ?_); (case side1 => repeat (first | exact (zQ HR0_1.out HB.out) | (with_reducible refine zR ?_ _) | (with_reducible refine zS ?_ _) | (with_reducible refine zT ?_))); (case side2 => exact HC0_1.out); (case side3 => repeat (first | exact (zQ HR0_2.out HB.out) | (with_reducible refine zR ?_ _) | (with_reducible refine zS ?_ _) | (with_reducible refine zT ?_))); (case side4 => exact HC0_2.out); rintro e w15 ⟨rfl, hb⟩; have n0_ := zA (zH (g := gb207) (o := .cells #[.bool a0_0, .slice A0_1 l0_1.length c0_1, .slice A0_2 l0_2.length c0_2] 56 (0, 0)) (wJ BK207.out) hb); have n1_ := zA (zU (wB GE207.out) hb); clear BK207; clear HB; have BK207 := n0_; have HB := n1_; clear n0_ n1_; (try clear hb); (try clear hb2); (try clear hk); (try clear hi); have hcz16_0 : w15.cell? ⟨gb207, 0, none⟩ = some (.bool a0_0) := (blk_cell BK207.out 0).trans rfl; have hcz16_1 : w15.cell? ⟨gb207, 1, none⟩ = some (.slice A0_1 l0_1.length c0_1) := (blk_cell BK207.out 1).trans rfl; have hcz16_2 : w15.cell? ⟨gb207, 2, none⟩ = some (.slice A0_2 l0_2.length c0_2) := (blk_cell BK207.out 2).trans rfl; have hfz16_0 := zG BK207.out 0; have hfz16_1 := zG BK207.out 1; have hfz16_2 := zG BK207.out 2))
        go_meet
        case rel => exact ⟨_, (!a0_0), wF, H', ⟨by first | omega | exact zY _⟩, ⟨wJ BK207.out⟩, ⟨wB GE207.out⟩⟩
       ·replace c11 := Bool.eq_false_iff.mpr c11
        subst c11
        have H1 : (spec_l3Depth.j0 k true a0_0 l0_1 l0_2) = some r := by rw [if_neg (show ¬ (false = true) by decide)] at H; exact H
        clear H
        have H := H1
        clear H1
        have H' := zA H
        clear H
        have hcz17_0 : w4.cell? ⟨gb207, 0, none⟩ = some (.bool a0_0) := (blk_cell BK207.out 0).trans rfl
        have hcz17_1 : w4.cell? ⟨gb207, 1, none⟩ = some (.slice A0_1 l0_1.length c0_1) := (blk_cell BK207.out 1).trans rfl
        have hcz17_2 : w4.cell? ⟨gb207, 2, none⟩ = some (.slice A0_2 l0_2.length c0_2) := (blk_cell BK207.out 2).trans rfl
        have hfz17_0 := zG BK207.out 0
        have hfz17_1 := zG BK207.out 1
        have hfz17_2 := zG BK207.out 2
        go_wp2_with (first | ((with_reducible refine gate_callee (f := 82) rfl ?_); refine goesL_ (some 8) rfl rfl Try.func82 (by kernel_rfl) rfl #[.agg #[.bool a0_0, .slice A0_1 l0_1.length c0_1, .slice A0_2 l0_2.length c0_2]] rfl wH ?_; (with_reducible refine (spec_l3Size.calls a0_0 _ _ l0_1 _ _ l0_2 t208 _ ?side1 ?side2 ?side3 ?side4 A5.out).mono ?_); (case side1 => repeat (first | exact (zQ HR0_1.out HB.out) | (with_reducible refine zR ?_ _) | (with_reducible refine zS ?_ _) | (with_reducible refine zT ?_))); (case side2 => exact HC0_1.out); (case side3 => repeat (first | exact (zQ HR0_2.out HB.out) | (with_reducible refine zR ?_ _) | (with_reducible refine zS ?_ _) | (with_reducible refine zT ?_))); (case side4 => exact HC0_2.out); rintro e w18 ⟨rfl, hb⟩; refine ⟨_, rfl, ?_⟩; have n0_ := zA (zH (g := gb207) (o := .cells #[.bool a0_0, .slice A0_1 l0_1.length c0_1, .slice A0_2 l0_2.length c0_2] 56 (0, 0)) (wJ BK207.out) hb); have n1_ := zA (zU (wB GE207.out) hb); clear BK207; clear HB; have BK207 := n0_; have HB := n1_; clear n0_ n1_; (try clear hb); (try clear hb2); (try clear hk); (try clear hi); have hcz19_0 : w18.cell? ⟨gb207, 0, none⟩ = some (.bool a0_0) := (blk_cell BK207.out 0).trans rfl; have hcz19_1 : w18.cell? ⟨gb207, 1, none⟩ = some (.slice A0_1 l0_1.length c0_1) := (blk_cell BK207.out 1).trans rfl; have hcz19_2 : w18.cell? ⟨gb207, 2, none⟩ = some (.slice A0_2 l0_2.length c0_2) := (blk_cell BK207.out 2).trans rfl; have hfz19_0 := zG BK207.out 0; have hfz19_1 := zG BK207.out 1; have hfz19_2 := zG BK207.out 2) | (go_at_call 82; (with_reducible refine (spec_l3Size.calls a0_0 _ _ l0_1 _ _ l0_2 t209 _ ?side1 ?side2 ?side3 ?side4 A9.out).mono ?_); (case side1 => repeat (first | exact (zQ HR0_1.out HB.out) | (with_reducible refine zR ?_ _) | (with_reducible refine zS ?_ _) | (with_reducible refine zT ?_))); (case side2 => exact HC0_1.out); (case side3 => repeat (first | exact (zQ HR0_2.out HB.out) | (with_reducible refine zR ?_ _) | (with_reducible refine zS ?_ _) | (with_reducible refine zT ?_))); (case side4 => exact HC0_2.out); rintro e w20 ⟨rfl, hb⟩; have n0_ := zA (zH (g := gb207) (o := .cells #[.bool a0_0, .slice A0_1 l0_1.length c0_1, .slice A0_2 l0_2.length c0_2] 56 (0, 0)) (wJ BK207.out) hb); have n1_ := zA (zU (wB GE207.out) hb); clear BK207; clear HB; have BK207 := n0_; have HB := n1_; clear n0_ n1_; (try clear hb); (try clear hb2); (try clear hk); (try clear hi)))
        go_meet
        case rel => exact ⟨_, (true), wF, H', ⟨by first | omega | exact zY _⟩, ⟨wJ BK207.out⟩, ⟨wB GE207.out⟩⟩
     · rw [if_neg c10] at H
       have c10b0 : decide (t209 < 2) = false := zK c10
       clear c10
       have H' := zA H
       clear H
       have hcz21_0 : w4.cell? ⟨gb207, 0, none⟩ = some (.bool a0_0) := (blk_cell BK207.out 0).trans rfl
       have hcz21_1 : w4.cell? ⟨gb207, 1, none⟩ = some (.slice A0_1 l0_1.length c0_1) := (blk_cell BK207.out 1).trans rfl
       have hcz21_2 : w4.cell? ⟨gb207, 2, none⟩ = some (.slice A0_2 l0_2.length c0_2) := (blk_cell BK207.out 2).trans rfl
       have hfz21_0 := zG BK207.out 0
       have hfz21_1 := zG BK207.out 1
       have hfz21_2 := zG BK207.out 2
       go_wp2_with (first | ((with_reducible refine gate_callee (f := 82) rfl ?_); refine goesL_ (some 8) rfl rfl Try.func82 (by kernel_rfl) rfl #[.agg #[.bool a0_0, .slice A0_1 l0_1.length c0_1, .slice A0_2 l0_2.length c0_2]] rfl wH ?_; (with_reducible refine (spec_l3Size.calls a0_0 _ _ l0_1 _ _ l0_2 t208 _ ?side1 ?side2 ?side3 ?side4 A5.out).mono ?_); (case side1 => repeat (first | exact (zQ HR0_1.out HB.out) | (with_reducible refine zR ?_ _) | (with_reducible refine zS ?_ _) | (with_reducible refine zT ?_))); (case side2 => exact HC0_1.out); (case side3 => repeat (first | exact (zQ HR0_2.out HB.out) | (with_reducible refine zR ?_ _) | (with_reducible refine zS ?_ _) | (with_reducible refine zT ?_))); (case side4 => exact HC0_2.out); rintro e w22 ⟨rfl, hb⟩; refine ⟨_, rfl, ?_⟩; have n0_ := zA (zH (g := gb207) (o := .cells #[.bool a0_0, .slice A0_1 l0_1.length c0_1, .slice A0_2 l0_2.length c0_2] 56 (0, 0)) (wJ BK207.out) hb); have n1_ := zA (zU (wB GE207.out) hb); clear BK207; clear HB; have BK207 := n0_; have HB := n1_; clear n0_ n1_; (try clear hb); (try clear hb2); (try clear hk); (try clear hi); have hcz23_0 : w22.cell? ⟨gb207, 0, none⟩ = some (.bool a0_0) := (blk_cell BK207.out 0).trans rfl; have hcz23_1 : w22.cell? ⟨gb207, 1, none⟩ = some (.slice A0_1 l0_1.length c0_1) := (blk_cell BK207.out 1).trans rfl; have hcz23_2 : w22.cell? ⟨gb207, 2, none⟩ = some (.slice A0_2 l0_2.length c0_2) := (blk_cell BK207.out 2).trans rfl; have hfz23_0 := zG BK207.out 0; have hfz23_1 := zG BK207.out 1; have hfz23_2 := zG BK207.out 2) | (go_at_call 82; (with_reducible refine (spec_l3Size.calls a0_0 _ _ l0_1 _ _ l0_2 t209 _ ?side1 ?side2 ?side3 ?side4 A9.out).mono ?_); (case side1 => repeat (first | exact (zQ HR0_1.out HB.out) | (with_reducible refine zR ?_ _) | (with_reducible refine zS ?_ _) | (with_reducible refine zT ?_))); (case side2 => exact HC0_1.out); (case side3 => repeat (first | exact (zQ HR0_2.out HB.out) | (with_reducible refine zR ?_ _) | (with_reducible refine zS ?_ _) | (with_reducible refine zT ?_))); (case side4 => exact HC0_2.out); rintro e w24 ⟨rfl, hb⟩; have n0_ := zA (zH (g := gb207) (o := .cells #[.bool a0_0, .slice A0_1 l0_1.length c0_1, .slice A0_2 l0_2.length c0_2] 56 (0, 0)) (wJ BK207.out) hb); have n1_ := zA (zU (wB GE207.out) hb); clear BK207; clear HB; have BK207 := n0_; have HB := n1_; clear n0_ n1_; (try clear hb); (try clear hb2); (try clear hk); (try clear hi)))
       go_meet
       case rel => exact ⟨_, (false), wF, H', ⟨by first | omega | exact zY _⟩, ⟨wJ BK207.out⟩, ⟨wB GE207.out⟩⟩
 case rest =>
   clear HC3
   try clear c1
   try clear p2
   try clear c6
   try clear c6b0
   try clear c8
   try clear c10
   try clear c10b0
   try clear c11
   try clear hcz12_0
   try clear hcz12_1
   try clear hcz12_2
   try clear hcz14_0
   try clear hcz14_1
   try clear hcz14_2
   try clear hcz16_0
   try clear hcz16_1
   try clear hcz16_2
   try clear hcz17_0
   try clear hcz17_1
   try clear hcz17_2
   try clear hcz19_0
   try clear hcz19_1
   try clear hcz19_2
   try clear hcz21_0
   try clear hcz21_1
   try clear hcz21_2
   try clear hcz23_0
   try clear hcz23_1
   try clear hcz23_2
   try clear hcz7_0
   try clear hcz7_1
   try clear hcz7_2
   try clear hfz12_0
   try clear hfz12_1
   try clear hfz12_2
   try clear hfz14_0
   try clear hfz14_1
   try clear hfz14_2
   try clear hfz16_0
   try clear hfz16_1
   try clear hfz16_2
   try clear hfz17_0
   try clear hfz17_1
   try clear hfz17_2
   try clear hfz19_0
   try clear hfz19_1
   try clear hfz19_2
   try clear hfz21_0
   try clear hfz21_1
   try clear hfz21_2
   try clear hfz23_0
   try clear hfz23_1
   try clear hfz23_2
   try clear hfz7_0
   try clear hfz7_1
   try clear hfz7_2
   obtain ⟨kq, x23_2, rfl, HA, HJ2, BK207, HB⟩ := hcut
   cases kq with
   | zero => exact absurd HA.out (by simp [spec_l3Depth.j0])
   | succ kj2 =>
     have H := HA.out
     clear HA
     simp only [spec_l3Depth.j0] at H
     by_cases c25 : x23_2 = true
     · subst c25
       have H1 : (some (-1)) = some r := by rw [if_pos rfl] at H; exact H
       clear H
       have H := H1
       clear H1
       obtain rfl := zL H
       go_wp2
       go_ret
       exact ⟨wG, wB GE207.out⟩
     · replace c25 := Bool.eq_false_iff.mpr c25
       subst c25
       have H1 : (if a0_0 = true then (some 0) else (if 0 < (l0_2.length : Int) then ((spec_l3Depth.f kj2 ((rd_T56 l0_2 0).f0) ((rd_T56 l0_2 0).f1) ((rd_T56 l0_2 0).f2) false).bind fun t211 => (spec_l3Depth.l0 kj2 t211 0 a0_0 l0_1 l0_2)) else (none))) = some r := by rw [if_neg (show ¬ (false = true) by decide)] at H; exact H
       clear H
       have H := H1
       clear H1
       by_cases c26 : a0_0 = true
       ·subst c26
        have H1 : (some 0) = some r := by rw [if_pos rfl] at H; exact H
        clear H
        have H := H1
        clear H1
        obtain rfl := zL H
        have hcz27_0 : wc.cell? ⟨gb207, 0, none⟩ = some (.bool true) := (blk_cell BK207.out 0).trans rfl
        have hcz27_1 : wc.cell? ⟨gb207, 1, none⟩ = some (.slice A0_1 l0_1.length c0_1) := (blk_cell BK207.out 1).trans rfl
        have hcz27_2 : wc.cell? ⟨gb207, 2, none⟩ = some (.slice A0_2 l0_2.length c0_2) := (blk_cell BK207.out 2).trans rfl
        have hfz27_0 := zG BK207.out 0
        have hfz27_1 := zG BK207.out 1
        have hfz27_2 := zG BK207.out 2
        go_wp2
        go_ret
        exact ⟨wG, wB GE207.out⟩
       ·replace c26 := Bool.eq_false_iff.mpr c26
        subst c26
        have H1 : (if 0 < (l0_2.length : Int) then ((spec_l3Depth.f kj2 ((rd_T56 l0_2 0).f0) ((rd_T56 l0_2 0).f1) ((rd_T56 l0_2 0).f2) false).bind fun t211 => (spec_l3Depth.l0 kj2 t211 0 false l0_1 l0_2)) else (none)) = some r := by rw [if_neg (show ¬ (false = true) by decide)] at H; exact H
        clear H
        have H := H1
        clear H1
        by_cases c28 : 0 < (l0_2.length : Int)
        ·rw [if_pos c28] at H
         have c28b0 : decide (0 < (l0_2.length : Int)) = true := zJ c28
         have c28b1 : decide (0 < l0_2.length) = true := zJ (by omega)
         clear c28
         replace H := Option.bind_eq_some_iff.mp H
         obtain ⟨t211, A290, H⟩ := H
         replace H : (spec_l3Depth.l0 kj2 t211 0 false l0_1 l0_2) = some r := H
         have A29 := zA A290
         clear A290
         have H' := zA H
         clear H
         have hcz30_0 : wc.cell? ⟨gb207, 0, none⟩ = some (.bool false) := (blk_cell BK207.out 0).trans rfl
         have hcz30_1 : wc.cell? ⟨gb207, 1, none⟩ = some (.slice A0_1 l0_1.length c0_1) := (blk_cell BK207.out 1).trans rfl
         have hcz30_2 : wc.cell? ⟨gb207, 2, none⟩ = some (.slice A0_2 l0_2.length c0_2) := (blk_cell BK207.out 2).trans rfl
         have hfz30_0 := zG BK207.out 0
         have hfz30_1 := zG BK207.out 1
         have hfz30_2 := zG BK207.out 2
         have p210 : 0 ≤ (0 : Int) := (by omega)
         have q210 : 0 < (l0_2.length : Int) := zI wE
         obtain ⟨ad210, A210_1, c210_1, A210_2, c210_2, e210, hx210_0, hx210_1, hx210_2, hl210_1, hi210_1, hl210_2, hi210_2⟩ := at_T56 HR0_2.out 0 p210 q210
         cases e210
         have qi210 : (0 < l0_2.length) = True := eq_true (by omega)
         (try rw [show ((0 : Int)).toNat = 0 from rfl] at hx210_0)
         (try rw [show 0 * 3 = 0 from rfl] at hx210_0)
         (try rw [Addr.add_zero'] at hx210_0)
         (try rw [show ((0 : Int)).toNat = 0 from rfl] at hx210_1)
         (try rw [show 0 * 3 = 0 from rfl] at hx210_1)
         (try rw [Addr.add_zero'] at hx210_1)
         (try rw [show ((0 : Int)).toNat = 0 from rfl] at hx210_2)
         (try rw [show 0 * 3 = 0 from rfl] at hx210_2)
         (try rw [Addr.add_zero'] at hx210_2)
         replace hx210_0 := (HB.out.cell (zM w _ hx210_0)).trans hx210_0
         replace hx210_1 := (HB.out.cell (zM w _ hx210_1)).trans hx210_1
         replace hx210_2 := (HB.out.cell (zM w _ hx210_2)).trans hx210_2
         have HR210_1 := zA hi210_1
         have HC210_1 := zA hl210_1
         clear hi210_1 hl210_1
         have HR210_2 := zA hi210_2
         have HC210_2 := zA hl210_2
         clear hi210_2 hl210_2
         replace p210 := eq_true p210
         replace q210 := eq_true q210
         go_wp2_with (first | ((with_reducible refine gate_callee (f := 67) rfl ?_); refine goesL_ (some 30) rfl rfl Try.func67 (by kernel_rfl) rfl #[.agg #[.bool ((rd_T56 l0_2 0).f0), .slice A210_1 ((rd_T56 l0_2 0).f1).length c210_1, .slice A210_2 ((rd_T56 l0_2 0).f2).length c210_2], .bool false] rfl wH ?_; (with_reducible refine (ih kj2 (by have := HJ2.out; omega) ((rd_T56 l0_2 0).f0) _ _ ((rd_T56 l0_2 0).f1) _ _ ((rd_T56 l0_2 0).f2) false t211 _ ?side1 ?side2 ?side3 ?side4 A29.out).mono ?_); (case side1 => repeat (first | exact (zQ HR210_1.out HB.out) | (with_reducible refine zR ?_ _) | (with_reducible refine zS ?_ _) | (with_reducible refine zT ?_))); (case side2 => exact HC210_1.out); (case side3 => repeat (first | exact (zQ HR210_2.out HB.out) | (with_reducible refine zR ?_ _) | (with_reducible refine zS ?_ _) | (with_reducible refine zT ?_))); (case side4 => exact HC210_2.out); rintro e w31 ⟨rfl, hb⟩; refine ⟨_, rfl, ?_⟩; have n0_ := zA (zH (g := gb207) (o := .cells #[.bool false, .slice A0_1 l0_1.length c0_1, .slice (some ad210) l0_2.length c0_2] 56 (0, 0)) (wJ BK207.out) hb); have n1_ := zA (zU (wB GE207.out) hb); clear BK207; clear HB; have BK207 := n0_; have HB := n1_; clear n0_ n1_; (try clear hb); (try clear hb2); (try clear hk); (try clear hi)))
         go_loopg [6] kj2 (fun kq v6 w' => ∃ (x6_2 : Int), v6 = .int .i64 x6_2 ∧ Aside0 (spec_l3Depth.l0 kq t211 x6_2 false l0_1 l0_2 = some r) ∧ Aside0 (kq ≤ kj2) ∧ Aside0 (w'.heap[gb207]? = some (.cells #[.bool false, (.slice A0_1 l0_1.length c0_1), (.slice (some ad210) l0_2.length c0_2)] 56 (0, 0))) ∧ Aside0 (Below w.heap.size w w'))
         case atStart => exact ⟨(0), wF, H', ⟨zY _⟩, ⟨wJ BK207.out⟩, ⟨wB GE207.out⟩⟩
         case round =>
           clear H'
           try clear c1
           try clear c2
           try clear p2
           try clear q2
           try clear hx2
           try clear qi2
           try clear c6
           try clear c6b0
           try clear c8
           try clear c10
           try clear c10b0
           try clear c11
           try clear c21
           try clear p21
           try clear q21
           try clear hx21
           try clear qi21
           try clear c25
           try clear c26
           try clear c28
           try clear c28b0
           try clear c28b1
           try clear hcz12_0
           try clear hcz12_1
           try clear hcz12_2
           try clear hcz14_0
           try clear hcz14_1
           try clear hcz14_2
           try clear hcz16_0
           try clear hcz16_1
           try clear hcz16_2
           try clear hcz17_0
           try clear hcz17_1
           try clear hcz17_2
           try clear hcz19_0
           try clear hcz19_1
           try clear hcz19_2
           try clear hcz21_0
           try clear hcz21_1
           try clear hcz21_2
           try clear hcz23_0
           try clear hcz23_1
           try clear hcz23_2
           try clear hcz27_0
           try clear hcz27_1
           try clear hcz27_2
           try clear hcz30_0
           try clear hcz30_1
           try clear hcz30_2
           try clear hcz7_0
           try clear hcz7_1
           try clear hcz7_2
           try clear hfz12_0
           try clear hfz12_1
           try clear hfz12_2
           try clear hfz14_0
           try clear hfz14_1
           try clear hfz14_2
           try clear hfz16_0
           try clear hfz16_1
           try clear hfz16_2
           try clear hfz17_0
           try clear hfz17_1
           try clear hfz17_2
           try clear hfz19_0
           try clear hfz19_1
           try clear hfz19_2
           try clear hfz21_0
           try clear hfz21_1
           try clear hfz21_2
           try clear hfz23_0
           try clear hfz23_1
           try clear hfz23_2
           try clear hfz27_0
           try clear hfz27_1
           try clear hfz27_2
           try clear hfz30_0
           try clear hfz30_1
           try clear hfz30_2
           try clear hfz7_0
           try clear hfz7_1
           try clear hfz7_2
           try clear hx210_0
           try clear hx210_1
           try clear hx210_2
           try clear p2
           try clear p210
           try clear q210
           obtain ⟨x6_2, rfl, HA, HK2, BK207, HB⟩ := hrel
           cases gk with
           | zero => exact absurd HA.out (by simp [spec_l3Depth.l0])
           | succ k2 =>
             have H := HA.out
             clear HA
             simp only [spec_l3Depth.l0] at H
             by_cases c32 : x6_2 < (l0_2.length : Int)
             ·rw [if_pos c32] at H
              have c32b0 : decide (x6_2 < (l0_2.length : Int)) = true := zJ c32
              clear c32
              by_cases c33 : 0 ≤ x6_2
              ·rw [if_pos c33] at H
               have c33b0 : decide (0 ≤ x6_2) = true := zJ c33
               clear c33
               replace H := Option.bind_eq_some_iff.mp H
               obtain ⟨t213, A340, H⟩ := H
               replace H : (if t213 = t211 then (spec_l3Depth.l0 k2 t211 (wrap64 (x6_2 + 1)) false l0_1 l0_2) else (some (-1))) = some r := H
               have A34 := zA A340
               clear A340
               by_cases c35 : t213 = t211
               ·rw [if_pos c35] at H
                have c35b0 : (t213 == t211) = true := beq_iff_eq.mpr c35
                have c35b1 : (t213 != t211) = false := bne_eq_false_iff_eq.mpr c35
                clear c35
                have H' := zA H
                clear H
                have hcz36_0 : wr.cell? ⟨gb207, 0, none⟩ = some (.bool false) := (blk_cell BK207.out 0).trans rfl
                have hcz36_1 : wr.cell? ⟨gb207, 1, none⟩ = some (.slice A0_1 l0_1.length c0_1) := (blk_cell BK207.out 1).trans rfl
                have hcz36_2 : wr.cell? ⟨gb207, 2, none⟩ = some (.slice (some ad210) l0_2.length c0_2) := (blk_cell BK207.out 2).trans rfl
                have hfz36_0 := zG BK207.out 0
                have hfz36_1 := zG BK207.out 1
                have hfz36_2 := zG BK207.out 2
                have p212 : 0 ≤ (x6_2 : Int) := zI wE
                have q212 : x6_2 < (l0_2.length : Int) := zI wE
                obtain ⟨ad212, A212_1, c212_1, A212_2, c212_2, e212, hx212_0, hx212_1, hx212_2, hl212_1, hi212_1, hl212_2, hi212_2⟩ := at_T56 HR0_2.out x6_2 p212 q212
                obtain rfl : ad210 = ad212 := (by injection e212)
                replace hx212_0 := (HB.out.cell (zM w _ hx212_0)).trans hx212_0
                replace hx212_1 := (HB.out.cell (zM w _ hx212_1)).trans hx212_1
                replace hx212_2 := (HB.out.cell (zM w _ hx212_2)).trans hx212_2
                have HR212_1 := zA hi212_1
                have HC212_1 := zA hl212_1
                clear hi212_1 hl212_1
                have HR212_2 := zA hi212_2
                have HC212_2 := zA hl212_2
                clear hi212_2 hl212_2
                replace p212 := eq_true p212
                replace q212 := eq_true q212
                go_wp2_with (first | ((with_reducible refine gate_callee (f := 67) rfl ?_); refine goesL_ (some 43) rfl rfl Try.func67 (by kernel_rfl) rfl #[.agg #[.bool ((rd_T56 l0_2 x6_2).f0), .slice A212_1 ((rd_T56 l0_2 x6_2).f1).length c212_1, .slice A212_2 ((rd_T56 l0_2 x6_2).f2).length c212_2], .bool false] rfl wH ?_; (with_reducible refine (ih k2 (by have := HJ2.out; have := HK2.out; omega) ((rd_T56 l0_2 x6_2).f0) _ _ ((rd_T56 l0_2 x6_2).f1) _ _ ((rd_T56 l0_2 x6_2).f2) false t213 _ ?side1 ?side2 ?side3 ?side4 A34.out).mono ?_); (case side1 => repeat (first | exact (zQ HR212_1.out HB.out) | (with_reducible refine zR ?_ _) | (with_reducible refine zS ?_ _) | (with_reducible refine zT ?_))); (case side2 => exact HC212_1.out); (case side3 => repeat (first | exact (zQ HR212_2.out HB.out) | (with_reducible refine zR ?_ _) | (with_reducible refine zS ?_ _) | (with_reducible refine zT ?_))); (case side4 => exact HC212_2.out); rintro e w37 ⟨rfl, hb⟩; refine ⟨_, rfl, ?_⟩; have n0_ := zA (zH (g := gb207) (o := .cells #[.bool false, .slice A0_1 l0_1.length c0_1, .slice (some ad210) l0_2.length c0_2] 56 (0, 0)) (wJ BK207.out) hb); have n1_ := zA (zU (wB GE207.out) hb); clear BK207; clear HB; have BK207 := n0_; have HB := n1_; clear n0_ n1_; (try clear hb); (try clear hb2); (try clear hk); (try clear hi)))
                go_roundg k2
                case measure => have := HJ2.out; have := HK2.out; omega
                case rel => exact ⟨(wrap64 (x6_2 + 1)), wF, H', ⟨by have := HJ2.out; have := HK2.out; omega⟩, ⟨wJ BK207.out⟩, ⟨wB GE207.out⟩⟩
               ·rw [if_neg c35] at H
                have c35b0 : (t213 == t211) = false := beq_eq_false_iff_ne.mpr c35
                have c35b1 : (t213 != t211) = true := bne_iff_ne.mpr c35
                obtain rfl := zL H
                have hcz38_0 : wr.cell? ⟨gb207, 0, none⟩ = some (.bool false) := (blk_cell BK207.out 0).trans rfl
                have hcz38_1 : wr.cell? ⟨gb207, 1, none⟩ = some (.slice A0_1 l0_1.length c0_1) := (blk_cell BK207.out 1).trans rfl
                have hcz38_2 : wr.cell? ⟨gb207, 2, none⟩ = some (.slice (some ad210) l0_2.length c0_2) := (blk_cell BK207.out 2).trans rfl
                have hfz38_0 := zG BK207.out 0
                have hfz38_1 := zG BK207.out 1
                have hfz38_2 := zG BK207.out 2
                have p212 : 0 ≤ (x6_2 : Int) := zI wE
                have q212 : x6_2 < (l0_2.length : Int) := zI wE
                obtain ⟨ad212, A212_1, c212_1, A212_2, c212_2, e212, hx212_0, hx212_1, hx212_2, hl212_1, hi212_1, hl212_2, hi212_2⟩ := at_T56 HR0_2.out x6_2 p212 q212
                obtain rfl : ad210 = ad212 := (by injection e212)
                replace hx212_0 := (HB.out.cell (zM w _ hx212_0)).trans hx212_0
                replace hx212_1 := (HB.out.cell (zM w _ hx212_1)).trans hx212_1
                replace hx212_2 := (HB.out.cell (zM w _ hx212_2)).trans hx212_2
                have HR212_1 := zA hi212_1
                have HC212_1 := zA hl212_1
                clear hi212_1 hl212_1
                have HR212_2 := zA hi212_2
                have HC212_2 := zA hl212_2
                clear hi212_2 hl212_2
                replace p212 := eq_true p212
                replace q212 := eq_true q212
                go_wp2_with (first | ((with_reducible refine gate_callee (f := 67) rfl ?_); refine goesL_ (some 43) rfl rfl Try.func67 (by kernel_rfl) rfl #[.agg #[.bool ((rd_T56 l0_2 x6_2).f0), .slice A212_1 ((rd_T56 l0_2 x6_2).f1).length c212_1, .slice A212_2 ((rd_T56 l0_2 x6_2).f2).length c212_2], .bool false] rfl wH ?_; (with_reducible refine (ih k2 (by have := HJ2.out; have := HK2.out; omega) ((rd_T56 l0_2 x6_2).f0) _ _ ((rd_T56 l0_2 x6_2).f1) _ _ ((rd_T56 l0_2 x6_2).f2) false t213 _ ?side1 ?side2 ?side3 ?side4 A34.out).mono ?_); (case side1 => repeat (first | exact (zQ HR212_1.out HB.out) | (with_reducible refine zR ?_ _) | (with_reducible refine zS ?_ _) | (with_reducible refine zT ?_))); (case side2 => exact HC212_1.out); (case side3 => repeat (first | exact (zQ HR212_2.out HB.out) | (with_reducible refine zR ?_ _) | (with_reducible refine zS ?_ _) | (with_reducible refine zT ?_))); (case side4 => exact HC212_2.out); rintro e w39 ⟨rfl, hb⟩; refine ⟨_, rfl, ?_⟩; have n0_ := zA (zH (g := gb207) (o := .cells #[.bool false, .slice A0_1 l0_1.length c0_1, .slice (some ad210) l0_2.length c0_2] 56 (0, 0)) (wJ BK207.out) hb); have n1_ := zA (zU (wB GE207.out) hb); clear BK207; clear HB; have BK207 := n0_; have HB := n1_; clear n0_ n1_; (try clear hb); (try clear hb2); (try clear hk); (try clear hi)))
                go_ret
                exact ⟨wG, wB GE207.out⟩
              ·rw [if_neg c33] at H
               exact absurd H (by simp)
             ·rw [if_neg c32] at H
              have c32b0 : decide (x6_2 < (l0_2.length : Int)) = false := zK c32
              clear c32
              by_cases c40 : t211 < 0
              ·rw [if_pos c40] at H
               have c40b0 : decide (t211 < 0) = true := zJ c40
               clear c40
               obtain rfl := zL H
               have hcz41_0 : wr.cell? ⟨gb207, 0, none⟩ = some (.bool false) := (blk_cell BK207.out 0).trans rfl
               have hcz41_1 : wr.cell? ⟨gb207, 1, none⟩ = some (.slice A0_1 l0_1.length c0_1) := (blk_cell BK207.out 1).trans rfl
               have hcz41_2 : wr.cell? ⟨gb207, 2, none⟩ = some (.slice (some ad210) l0_2.length c0_2) := (blk_cell BK207.out 2).trans rfl
               have hfz41_0 := zG BK207.out 0
               have hfz41_1 := zG BK207.out 1
               have hfz41_2 := zG BK207.out 2
               go_wp2
               go_ret
               exact ⟨wG, wB GE207.out⟩
              ·rw [if_neg c40] at H
               have c40b0 : decide (t211 < 0) = false := zK c40
               clear c40
               obtain rfl := zL H
               have hcz42_0 : wr.cell? ⟨gb207, 0, none⟩ = some (.bool false) := (blk_cell BK207.out 0).trans rfl
               have hcz42_1 : wr.cell? ⟨gb207, 1, none⟩ = some (.slice A0_1 l0_1.length c0_1) := (blk_cell BK207.out 1).trans rfl
               have hcz42_2 : wr.cell? ⟨gb207, 2, none⟩ = some (.slice (some ad210) l0_2.length c0_2) := (blk_cell BK207.out 2).trans rfl
               have hfz42_0 := zG BK207.out 0
               have hfz42_1 := zG BK207.out 1
               have hfz42_2 := zG BK207.out 2
               go_wp2
               go_ret
               exact ⟨wG, wB GE207.out⟩
        ·rw [if_neg c28] at H
         exact absurd H (by simp)
end Go.Proofs.Ytfjcfklgnlmjjaa.PB
