-- Made by this session's programs out of the translation and of its own texts.
import Derived.Test.YteddpdonmhiplaaMFnExactReadAreab
namespace Go.Proofs.Yteddpdonmhiplaa.PR
open Go.RowKit Go.Proofs.YteddpdonmhiplaaW.PrintWords Go.Proofs.YteddpdonmhiplaaW.PrintLast Go.Proofs.YteddpdonmhiplaaW.PrintMore
attribute [local go_sem] max2_int min2_int max_two min_two max_three min_three max_four min_four   -- for this text's walks alone
set_option linter.unusedVariables false
set_option linter.unusedSimpArgs false

/-! ### laws_eqPendS: function 65 -/
def laws_eqPendS.l0 : Nat → List (S79) → List (S79) → Int → Option (Bool)
 | 0, _, _, _ => none
 | k + 1, x0, x1, x5 => if x5 < (x0.length : Int) then (if 0 ≤ x5 then (if x5 < (x1.length : Int) then ((laws_eqPend.f k ((rd_T79 x0 x5).f0) ((rd_T79 x0 x5).f1) ((rd_T79 x1 x5).f0) ((rd_T79 x1 x5).f1)).bind fun t311 => (if t311 = true then (laws_eqPendS.l0 k x0 x1 (wrap64 (x5 + 1))) else (some false))) else (none)) else (none)) else (some true)
def laws_eqPendS.f (k : Nat) (l0 : List (S79)) (l1 : List (S79)) : Option (Bool) := if (l0.length : Int) = (l1.length : Int) then (laws_eqPendS.l0 k l0 l1 0) else (some false)
def laws_eqPendS.T6 : Bool × List (List Nat × List Nat) := (true, [([], []), ([], []), ([0, 1], [0, 1]), ([2], [2]), ([], []), ([], []), ([4, 5], [4, 5]), ([6], [6]), ([3, 7], [3, 7]), ([8], [8])])
def laws_eqPendS.B6 : List Nat := [0, 0, 3, 7, 0, 0, 48, 112, 255, 511]
theorem laws_eqPendS.tab6 : rtab .any (opsOf Try.f65 6) = laws_eqPendS.T6 := by kernel_rfl
theorem laws_eqPendS.bits6 : waitsOk laws_eqPendS.T6.2 laws_eqPendS.B6 = true := by kernel_rfl
set_option maxHeartbeats 8000000 in
set_option maxRecDepth 100000 in
theorem laws_eqPendS.calls (k : Nat) (A0 : Option Addr) (c0 : Nat) (l0 : List (S79)) (A1 : Option Addr) (c1 : Nat) (l1 : List (S79)) (r : Bool) (w : World) (hr0 : Kd.C k79 w A0 l0.length l0) (hc0 : l0.length ≤ c0) (hr1 : Kd.C k79 w A1 l1.length l1) (hc1 : l1.length ≤ c1) (h : laws_eqPendS.f k l0 l1 = some r) :
  Calls Try.prog 65 #[.slice A0 l0.length c0, .slice A1 l1.length c1] w fun e w' => e = .returned (.bool r) ∧ Below w.heap.size w w' := by
 have hu79 := Try.underlying79
 have HR0 := Aside0.mk hr0
 have HC0 := Aside0.mk hc0
 clear hr0 hc0
 have HR1 := Aside0.mk hr1
 have HC1 := Aside0.mk hc1
 clear hr1 hc1
 have HB := Aside0.mk (Below.refl w.heap.size w)
 have H : (if (l0.length : Int) = (l1.length : Int) then (laws_eqPendS.l0 k l0 l1 0) else (some false)) = some r := h
 clear h
 by_cases c3 : (l0.length : Int) = (l1.length : Int)
 ·rw [if_pos c3] at H
  have c3b0 : ((l0.length : Int) == (l1.length : Int)) = true := beq_iff_eq.mpr c3
  have c3b1 : ((l0.length : Int) != (l1.length : Int)) = false := bne_eq_false_iff_eq.mpr c3
  have c3b2 : (l0.length == l1.length) = true := by first | simpa using c3 | (simp at c3 ⊢; omega)
  clear c3
  have H' := Aside0.mk H
  clear H
  go_enter Try.func65, Try.ntmps65
  go_wp2
  go_loopg [5] k (fun kq v5 w' => ∃ (x5_1 : Int), v5 = .int .i64 x5_1 ∧ Aside0 (laws_eqPendS.l0 kq l0 l1 x5_1 = some r) ∧ Aside0 (kq ≤ k) ∧ Aside0 (Below w.heap.size w w'))
  case atStart => exact ⟨(0), (by first | rfl | (simp; done) | (simp [*]; done)), H', ⟨Nat.le_refl _⟩, ⟨by repeat (first | (with_reducible first | exact HB.out | apply below_alloc | apply pw_below_drewN | apply below_drew1) | exact HB.out)⟩⟩
  case round =>
   clear H'
   try clear c1
   try clear p2
   try clear c3
   try clear c3b0
   try clear c3b1
   try clear c3b2
   obtain ⟨x5_1, rfl, HA, HK1, HB⟩ := hrel
   cases gk with
   | zero => exact absurd HA.out (by simp [laws_eqPendS.l0])
   | succ k1 =>
     have H := HA.out
     clear HA
     simp only [laws_eqPendS.l0] at H
     by_cases c4 : x5_1 < (l0.length : Int)
     ·rw [if_pos c4] at H
      have c4b0 : decide (x5_1 < (l0.length : Int)) = true := decide_eq_true c4
      clear c4
      by_cases c5 : 0 ≤ x5_1
      ·rw [if_pos c5] at H
       have c5b0 : decide (0 ≤ x5_1) = true := decide_eq_true c5
       clear c5
       by_cases c6 : x5_1 < (l1.length : Int)
       ·rw [if_pos c6] at H
        have c6b0 : decide (x5_1 < (l1.length : Int)) = true := decide_eq_true c6
        clear c6
        replace H := Option.bind_eq_some_iff.mp H
        obtain ⟨t311, A70, H⟩ := H
        replace H : (if t311 = true then (laws_eqPendS.l0 k1 l0 l1 (wrap64 (x5_1 + 1))) else (some false)) = some r := H
        have A7 := Aside0.mk A70
        clear A70
        by_cases c8 : t311 = true
        ·subst c8
         have H1 : (laws_eqPendS.l0 k1 l0 l1 (wrap64 (x5_1 + 1))) = some r := by rw [if_pos rfl] at H; exact H
         clear H
         have H := H1
         clear H1
         have H' := Aside0.mk H
         clear H
         try go_wp2
         have n0_ := Aside0.mk (below_drew1 HB.out)
         clear HB
         have HB := n0_
         clear n0_
         have p309 : 0 ≤ (x5_1 : Int) := of_decide_eq_true (by first | (with_reducible assumption) | assumption)
         have q309 : x5_1 < (l0.length : Int) := of_decide_eq_true (by first | (with_reducible assumption) | assumption)
         obtain ⟨ad309, A309_1, c309_1, e309, hx309_0, hx309_1, hl309_1, hi309_1⟩ := at_T79 HR0.out x5_1 p309 q309
         have hw309_1 := hx309_1
         have hw309_0 := hx309_0
         cases e309
         replace hx309_0 := (HB.out.cell (World.block_lt_of_cell? w _ hx309_0)).trans hx309_0
         replace hx309_1 := (HB.out.cell (World.block_lt_of_cell? w _ hx309_1)).trans hx309_1
         have HR309_1 := Aside0.mk hi309_1
         have HC309_1 := Aside0.mk hl309_1
         clear hi309_1 hl309_1
         replace p309 := eq_true p309
         replace q309 := eq_true q309
         have p310 : 0 ≤ (x5_1 : Int) := of_decide_eq_true (by first | (with_reducible assumption) | assumption)
         have q310 : x5_1 < (l1.length : Int) := of_decide_eq_true (by first | (with_reducible assumption) | assumption)
         obtain ⟨ad310, A310_1, c310_1, e310, hx310_0, hx310_1, hl310_1, hi310_1⟩ := at_T79 HR1.out x5_1 p310 q310
         have hw310_1 := hx310_1
         have hw310_0 := hx310_0
         cases e310
         replace hx310_0 := (HB.out.cell (World.block_lt_of_cell? w _ hx310_0)).trans hx310_0
         replace hx310_1 := (HB.out.cell (World.block_lt_of_cell? w _ hx310_1)).trans hx310_1
         have HR310_1 := Aside0.mk hi310_1
         have HC310_1 := Aside0.mk hl310_1
         clear hi310_1 hl310_1
         replace p310 := eq_true p310
         replace q310 := eq_true q310
         refine start_ (n := 10) (S := fun w' => w'.cell? (ad309.add ((x5_1).toNat * 2)) = some (.int .i64 ((rd_T79 l0 x5_1).f0)) ∧ w'.cell? ⟨(ad309.add ((x5_1).toNat * 2)).block, (ad309.add ((x5_1).toNat * 2)).off + 1, none⟩ = some (.slice A309_1 ((rd_T79 l0 x5_1).f1).length c309_1) ∧ w'.cell? (ad310.add ((x5_1).toNat * 2)) = some (.int .i64 ((rd_T79 l1 x5_1).f0)) ∧ w'.cell? ⟨(ad310.add ((x5_1).toNat * 2)).block, (ad310.add ((x5_1).toNat * 2)).off + 1, none⟩ = some (.slice A310_1 ((rd_T79 l1 x5_1).f1).length c310_1)) (ds := []) #[false, false, false, false, false, false, false, false, false, false] (by kernel_rfl) rfl rfl ⟨((HB.out.cell (World.block_lt_of_cell? w _ hw309_0)).trans hw309_0), ((HB.out.cell (World.block_lt_of_cell? w _ hw309_1)).trans hw309_1), ((HB.out.cell (World.block_lt_of_cell? w _ hw310_0)).trans hw310_0), ((HB.out.cell (World.block_lt_of_cell? w _ hw310_1)).trans hw310_1)⟩ (fun hHeld => ?_); refine with_tabW laws_eqPendS.tab6 laws_eqPendS.bits6 (fun HT_ HW_ => ?_)
         generalize wr.drew = w9 at HB HR309_1 HR310_1 hx309_0 hx309_1 hx310_0 hx310_1 hHeld ⊢
         refine pure_ (i := 0) (N := some 17) (v := ?_) (a' := ?_) #[true, false, false, false, false, false, false, false, false, false] rfl rfl (any_of HT_.out (by kernel_rfl)) (fun _ _ _ h => h) (Or.inl ⟨by rfl, ?_⟩) ?_ ?_
         rotate_left
         · intro w'
           go_simp
           with_reducible rfl
         rotate_left
         · simp only [Act.put, List.setIfInBounds_toArray, List.set_cons_zero, List.set_cons_succ, i64_w, i32_w]
           rfl
         refine pure_ (i := 1) (N := some 18) (v := ?_) (a' := ?_) #[true, true, false, false, false, false, false, false, false, false] rfl rfl (any_of HT_.out (by kernel_rfl)) (fun _ _ _ h => h) (Or.inl ⟨by rfl, ?_⟩) ?_ ?_
         rotate_left
         · intro w'
           go_simp
           with_reducible rfl
         rotate_left
         · simp only [Act.put, List.setIfInBounds_toArray, List.set_cons_zero, List.set_cons_succ, i64_w, i32_w]
           rfl
         refine pure_ (i := 2) (N := some 19) (v := ?_) (a' := ?_) #[true, true, true, false, false, false, false, false, false, false] rfl rfl (any_of HT_.out (by kernel_rfl)) (fun _ _ _ h => h) (Or.inl ⟨by rfl, ?_⟩) ?_ ?_
         rotate_left
         · intro w'
           go_simp
           with_reducible rfl
         rotate_left
         · simp only [Act.put, List.setIfInBounds_toArray, List.set_cons_zero, List.set_cons_succ, i64_w, i32_w]
           rfl
         refine pure_ (i := 4) (N := some 21) (v := ?_) (a' := ?_) #[true, true, true, false, true, false, false, false, false, false] rfl rfl (any_of HT_.out (by kernel_rfl)) (fun _ _ _ h => h) (Or.inl ⟨by rfl, ?_⟩) ?_ ?_
         rotate_left
         · intro w'
           go_simp
           with_reducible rfl
         rotate_left
         · simp only [Act.put, List.setIfInBounds_toArray, List.set_cons_zero, List.set_cons_succ, i64_w, i32_w]
           rfl
         refine pure_ (i := 5) (N := some 22) (v := ?_) (a' := ?_) #[true, true, true, false, true, true, false, false, false, false] rfl rfl (any_of HT_.out (by kernel_rfl)) (fun _ _ _ h => h) (Or.inl ⟨by rfl, ?_⟩) ?_ ?_
         rotate_left
         · intro w'
           go_simp
           with_reducible rfl
         rotate_left
         · simp only [Act.put, List.setIfInBounds_toArray, List.set_cons_zero, List.set_cons_succ, i64_w, i32_w]
           rfl
         refine pure_ (i := 6) (N := some 23) (v := ?_) (a' := ?_) #[true, true, true, false, true, true, true, false, false, false] rfl rfl (any_of HT_.out (by kernel_rfl)) (fun _ _ _ h => h) (Or.inl ⟨by rfl, ?_⟩) ?_ ?_
         rotate_left
         · intro w'
           go_simp
           with_reducible rfl
         rotate_left
         · simp only [Act.put, List.setIfInBounds_toArray, List.set_cons_zero, List.set_cons_succ, i64_w, i32_w]
           rfl
         refine take_ (i := 3) (N := some 20) (v := ?_) (a' := ?_) #[true, true, true, true, true, true, true, false, false, false] rfl rfl (take_ofW HT_.out HW_.out (by kernel_rfl)) (fun _ _ _ h => h) (Or.inl ⟨by rfl, ?_⟩) hHeld ?_ ?_
         rotate_left
         · rintro w' ⟨s0, s1, s2, s3⟩
           go_simp
           with_reducible rfl
         rotate_left
         · simp only [Act.put, List.setIfInBounds_toArray, List.set_cons_zero, List.set_cons_succ, i64_w, i32_w]
           rfl
         refine take_ (i := 7) (N := some 24) (v := ?_) (a' := ?_) #[true, true, true, true, true, true, true, true, false, false] rfl rfl (take_ofW HT_.out HW_.out (by kernel_rfl)) (fun _ _ _ h => h) (Or.inl ⟨by rfl, ?_⟩) hHeld ?_ ?_
         rotate_left
         · rintro w' ⟨s0, s1, s2, s3⟩
           go_simp
           with_reducible rfl
         rotate_left
         · simp only [Act.put, List.setIfInBounds_toArray, List.set_cons_zero, List.set_cons_succ, i64_w, i32_w]
           rfl
         refine one_ (i := 8) (N := some 25) #[true, true, true, true, true, true, true, true, true, false] rfl rfl (one_of HT_.out (by kernel_rfl)) (by decide) (fun K hK => ?_)
         refine goes_ Try.func110 (by kernel_rfl) rfl #[.agg #[.int .i64 ((rd_T79 l0 x5_1).f0), .slice A309_1 ((rd_T79 l0 x5_1).f1).length c309_1], .agg #[.int .i64 ((rd_T79 l1 x5_1).f0), .slice A310_1 ((rd_T79 l1 x5_1).f1).length c310_1]] (by rfl) rfl rfl (by (try simp only [List.map_toArray, List.map_cons, List.map_nil]); first | done | rfl | (simp only [List.length_drop, List.length_take]; rfl)) ?_
         with_reducible refine (laws_eqPend.calls k1 ((rd_T79 l0 x5_1).f0) _ _ ((rd_T79 l0 x5_1).f1) ((rd_T79 l1 x5_1).f0) _ _ ((rd_T79 l1 x5_1).f1) true _ ?side1 ?side2 ?side3 ?side4 A7.out).mono ?_
         (case side1 => repeat (first | exact (Kd.C_below HR309_1.out HB.out) | (with_reducible refine Kd.C_alloc ?_ _) | (with_reducible refine Kd.C_drewN ?_ _) | (with_reducible refine Kd.C_drew ?_)))
         (case side2 => exact HC309_1.out)
         (case side3 => repeat (first | exact (Kd.C_below HR310_1.out HB.out) | (with_reducible refine Kd.C_alloc ?_ _) | (with_reducible refine Kd.C_drewN ?_ _) | (with_reducible refine Kd.C_drew ?_)))
         (case side4 => exact HC310_1.out)
         rintro e w10 ⟨rfl, hb⟩
         refine ⟨_, rfl, ?_⟩
         have n0_ := Aside0.mk (below_step (by repeat (first | (with_reducible first | exact HB.out | apply below_alloc | apply pw_below_drewN | apply below_drew1) | exact HB.out)) hb)
         clear HB
         have HB := n0_
         clear n0_
         (try clear hb)
         (try clear hb2)
         (try clear hk)
         (try clear hi)
         refine hK.out _ _ ⟨((HB.out.cell (World.block_lt_of_cell? w _ hw309_0)).trans hw309_0), ((HB.out.cell (World.block_lt_of_cell? w _ hw309_1)).trans hw309_1), ((HB.out.cell (World.block_lt_of_cell? w _ hw310_0)).trans hw310_0), ((HB.out.cell (World.block_lt_of_cell? w _ hw310_1)).trans hw310_1)⟩ (fun hHeld => ?_)
         clear hK K
         refine norm_ (a' := ?_) ?_ ?_
         rotate_left
         · show Act.put _ (some 25) _ = _
           simp only [Act.put, List.setIfInBounds_toArray, List.set_cons_zero, List.set_cons_succ, i64_w, i32_w]
           rfl
         refine pure_ (i := 9) (N := some 26) (v := ?_) (a' := ?_) #[true, true, true, true, true, true, true, true, true, true] rfl rfl (any_of HT_.out (by kernel_rfl)) (fun _ _ _ h => h) (Or.inl ⟨by rfl, ?_⟩) ?_ ?_
         rotate_left
         · intro w'
           go_simp
           with_reducible rfl
         rotate_left
         · simp only [Act.put, List.setIfInBounds_toArray, List.set_cons_zero, List.set_cons_succ, i64_w, i32_w]
           rfl
         refine done_ (done_of HT_.out (by kernel_rfl)) ?_
         try go_wp2
         go_roundg k1
         case measure => have := HK1.out; omega
         case rel => exact ⟨(wrap64 (x5_1 + 1)), (by first | rfl | (simp; done) | (simp [*]; done)), H', ⟨by have := HK1.out; omega⟩, ⟨by repeat (first | (with_reducible first | exact HB.out | apply below_alloc | apply pw_below_drewN | apply below_drew1) | exact HB.out)⟩⟩
        ·replace c8 := Bool.eq_false_iff.mpr c8
         subst c8
         have H1 : (some false) = some r := by rw [if_neg (show ¬ (false = true) by decide)] at H; exact H
         clear H
         have H := H1
         clear H1
         obtain rfl := Option.some.inj H
         try go_wp2
         have n0_ := Aside0.mk (below_drew1 HB.out)
         clear HB
         have HB := n0_
         clear n0_
         have p309 : 0 ≤ (x5_1 : Int) := of_decide_eq_true (by first | (with_reducible assumption) | assumption)
         have q309 : x5_1 < (l0.length : Int) := of_decide_eq_true (by first | (with_reducible assumption) | assumption)
         obtain ⟨ad309, A309_1, c309_1, e309, hx309_0, hx309_1, hl309_1, hi309_1⟩ := at_T79 HR0.out x5_1 p309 q309
         have hw309_1 := hx309_1
         have hw309_0 := hx309_0
         cases e309
         replace hx309_0 := (HB.out.cell (World.block_lt_of_cell? w _ hx309_0)).trans hx309_0
         replace hx309_1 := (HB.out.cell (World.block_lt_of_cell? w _ hx309_1)).trans hx309_1
         have HR309_1 := Aside0.mk hi309_1
         have HC309_1 := Aside0.mk hl309_1
         clear hi309_1 hl309_1
         replace p309 := eq_true p309
         replace q309 := eq_true q309
         have p310 : 0 ≤ (x5_1 : Int) := of_decide_eq_true (by first | (with_reducible assumption) | assumption)
         have q310 : x5_1 < (l1.length : Int) := of_decide_eq_true (by first | (with_reducible assumption) | assumption)
         obtain ⟨ad310, A310_1, c310_1, e310, hx310_0, hx310_1, hl310_1, hi310_1⟩ := at_T79 HR1.out x5_1 p310 q310
         have hw310_1 := hx310_1
         have hw310_0 := hx310_0
         cases e310
         replace hx310_0 := (HB.out.cell (World.block_lt_of_cell? w _ hx310_0)).trans hx310_0
         replace hx310_1 := (HB.out.cell (World.block_lt_of_cell? w _ hx310_1)).trans hx310_1
         have HR310_1 := Aside0.mk hi310_1
         have HC310_1 := Aside0.mk hl310_1
         clear hi310_1 hl310_1
         replace p310 := eq_true p310
         replace q310 := eq_true q310
         refine start_ (n := 10) (S := fun w' => w'.cell? (ad309.add ((x5_1).toNat * 2)) = some (.int .i64 ((rd_T79 l0 x5_1).f0)) ∧ w'.cell? ⟨(ad309.add ((x5_1).toNat * 2)).block, (ad309.add ((x5_1).toNat * 2)).off + 1, none⟩ = some (.slice A309_1 ((rd_T79 l0 x5_1).f1).length c309_1) ∧ w'.cell? (ad310.add ((x5_1).toNat * 2)) = some (.int .i64 ((rd_T79 l1 x5_1).f0)) ∧ w'.cell? ⟨(ad310.add ((x5_1).toNat * 2)).block, (ad310.add ((x5_1).toNat * 2)).off + 1, none⟩ = some (.slice A310_1 ((rd_T79 l1 x5_1).f1).length c310_1)) (ds := []) #[false, false, false, false, false, false, false, false, false, false] (by kernel_rfl) rfl rfl ⟨((HB.out.cell (World.block_lt_of_cell? w _ hw309_0)).trans hw309_0), ((HB.out.cell (World.block_lt_of_cell? w _ hw309_1)).trans hw309_1), ((HB.out.cell (World.block_lt_of_cell? w _ hw310_0)).trans hw310_0), ((HB.out.cell (World.block_lt_of_cell? w _ hw310_1)).trans hw310_1)⟩ (fun hHeld => ?_); refine with_tabW laws_eqPendS.tab6 laws_eqPendS.bits6 (fun HT_ HW_ => ?_)
         generalize wr.drew = w11 at HB HR309_1 HR310_1 hx309_0 hx309_1 hx310_0 hx310_1 hHeld ⊢
         refine pure_ (i := 0) (N := some 17) (v := ?_) (a' := ?_) #[true, false, false, false, false, false, false, false, false, false] rfl rfl (any_of HT_.out (by kernel_rfl)) (fun _ _ _ h => h) (Or.inl ⟨by rfl, ?_⟩) ?_ ?_
         rotate_left
         · intro w'
           go_simp
           with_reducible rfl
         rotate_left
         · simp only [Act.put, List.setIfInBounds_toArray, List.set_cons_zero, List.set_cons_succ, i64_w, i32_w]
           rfl
         refine pure_ (i := 1) (N := some 18) (v := ?_) (a' := ?_) #[true, true, false, false, false, false, false, false, false, false] rfl rfl (any_of HT_.out (by kernel_rfl)) (fun _ _ _ h => h) (Or.inl ⟨by rfl, ?_⟩) ?_ ?_
         rotate_left
         · intro w'
           go_simp
           with_reducible rfl
         rotate_left
         · simp only [Act.put, List.setIfInBounds_toArray, List.set_cons_zero, List.set_cons_succ, i64_w, i32_w]
           rfl
         refine pure_ (i := 2) (N := some 19) (v := ?_) (a' := ?_) #[true, true, true, false, false, false, false, false, false, false] rfl rfl (any_of HT_.out (by kernel_rfl)) (fun _ _ _ h => h) (Or.inl ⟨by rfl, ?_⟩) ?_ ?_
         rotate_left
         · intro w'
           go_simp
           with_reducible rfl
         rotate_left
         · simp only [Act.put, List.setIfInBounds_toArray, List.set_cons_zero, List.set_cons_succ, i64_w, i32_w]
           rfl
         refine pure_ (i := 4) (N := some 21) (v := ?_) (a' := ?_) #[true, true, true, false, true, false, false, false, false, false] rfl rfl (any_of HT_.out (by kernel_rfl)) (fun _ _ _ h => h) (Or.inl ⟨by rfl, ?_⟩) ?_ ?_
         rotate_left
         · intro w'
           go_simp
           with_reducible rfl
         rotate_left
         · simp only [Act.put, List.setIfInBounds_toArray, List.set_cons_zero, List.set_cons_succ, i64_w, i32_w]
           rfl
         refine pure_ (i := 5) (N := some 22) (v := ?_) (a' := ?_) #[true, true, true, false, true, true, false, false, false, false] rfl rfl (any_of HT_.out (by kernel_rfl)) (fun _ _ _ h => h) (Or.inl ⟨by rfl, ?_⟩) ?_ ?_
         rotate_left
         · intro w'
           go_simp
           with_reducible rfl
         rotate_left
         · simp only [Act.put, List.setIfInBounds_toArray, List.set_cons_zero, List.set_cons_succ, i64_w, i32_w]
           rfl
         refine pure_ (i := 6) (N := some 23) (v := ?_) (a' := ?_) #[true, true, true, false, true, true, true, false, false, false] rfl rfl (any_of HT_.out (by kernel_rfl)) (fun _ _ _ h => h) (Or.inl ⟨by rfl, ?_⟩) ?_ ?_
         rotate_left
         · intro w'
           go_simp
           with_reducible rfl
         rotate_left
         · simp only [Act.put, List.setIfInBounds_toArray, List.set_cons_zero, List.set_cons_succ, i64_w, i32_w]
           rfl
         refine take_ (i := 3) (N := some 20) (v := ?_) (a' := ?_) #[true, true, true, true, true, true, true, false, false, false] rfl rfl (take_ofW HT_.out HW_.out (by kernel_rfl)) (fun _ _ _ h => h) (Or.inl ⟨by rfl, ?_⟩) hHeld ?_ ?_
         rotate_left
         · rintro w' ⟨s0, s1, s2, s3⟩
           go_simp
           with_reducible rfl
         rotate_left
         · simp only [Act.put, List.setIfInBounds_toArray, List.set_cons_zero, List.set_cons_succ, i64_w, i32_w]
           rfl
         refine take_ (i := 7) (N := some 24) (v := ?_) (a' := ?_) #[true, true, true, true, true, true, true, true, false, false] rfl rfl (take_ofW HT_.out HW_.out (by kernel_rfl)) (fun _ _ _ h => h) (Or.inl ⟨by rfl, ?_⟩) hHeld ?_ ?_
         rotate_left
         · rintro w' ⟨s0, s1, s2, s3⟩
           go_simp
           with_reducible rfl
         rotate_left
         · simp only [Act.put, List.setIfInBounds_toArray, List.set_cons_zero, List.set_cons_succ, i64_w, i32_w]
           rfl
         refine one_ (i := 8) (N := some 25) #[true, true, true, true, true, true, true, true, true, false] rfl rfl (one_of HT_.out (by kernel_rfl)) (by decide) (fun K hK => ?_)
         refine goes_ Try.func110 (by kernel_rfl) rfl #[.agg #[.int .i64 ((rd_T79 l0 x5_1).f0), .slice A309_1 ((rd_T79 l0 x5_1).f1).length c309_1], .agg #[.int .i64 ((rd_T79 l1 x5_1).f0), .slice A310_1 ((rd_T79 l1 x5_1).f1).length c310_1]] (by rfl) rfl rfl (by (try simp only [List.map_toArray, List.map_cons, List.map_nil]); first | done | rfl | (simp only [List.length_drop, List.length_take]; rfl)) ?_
         with_reducible refine (laws_eqPend.calls k1 ((rd_T79 l0 x5_1).f0) _ _ ((rd_T79 l0 x5_1).f1) ((rd_T79 l1 x5_1).f0) _ _ ((rd_T79 l1 x5_1).f1) false _ ?side1 ?side2 ?side3 ?side4 A7.out).mono ?_
         (case side1 => repeat (first | exact (Kd.C_below HR309_1.out HB.out) | (with_reducible refine Kd.C_alloc ?_ _) | (with_reducible refine Kd.C_drewN ?_ _) | (with_reducible refine Kd.C_drew ?_)))
         (case side2 => exact HC309_1.out)
         (case side3 => repeat (first | exact (Kd.C_below HR310_1.out HB.out) | (with_reducible refine Kd.C_alloc ?_ _) | (with_reducible refine Kd.C_drewN ?_ _) | (with_reducible refine Kd.C_drew ?_)))
         (case side4 => exact HC310_1.out)
         rintro e w12 ⟨rfl, hb⟩
         refine ⟨_, rfl, ?_⟩
         have n0_ := Aside0.mk (below_step (by repeat (first | (with_reducible first | exact HB.out | apply below_alloc | apply pw_below_drewN | apply below_drew1) | exact HB.out)) hb)
         clear HB
         have HB := n0_
         clear n0_
         (try clear hb)
         (try clear hb2)
         (try clear hk)
         (try clear hi)
         refine hK.out _ _ ⟨((HB.out.cell (World.block_lt_of_cell? w _ hw309_0)).trans hw309_0), ((HB.out.cell (World.block_lt_of_cell? w _ hw309_1)).trans hw309_1), ((HB.out.cell (World.block_lt_of_cell? w _ hw310_0)).trans hw310_0), ((HB.out.cell (World.block_lt_of_cell? w _ hw310_1)).trans hw310_1)⟩ (fun hHeld => ?_)
         clear hK K
         refine norm_ (a' := ?_) ?_ ?_
         rotate_left
         · show Act.put _ (some 25) _ = _
           simp only [Act.put, List.setIfInBounds_toArray, List.set_cons_zero, List.set_cons_succ, i64_w, i32_w]
           rfl
         refine pure_ (i := 9) (N := some 26) (v := ?_) (a' := ?_) #[true, true, true, true, true, true, true, true, true, true] rfl rfl (any_of HT_.out (by kernel_rfl)) (fun _ _ _ h => h) (Or.inl ⟨by rfl, ?_⟩) ?_ ?_
         rotate_left
         · intro w'
           go_simp
           with_reducible rfl
         rotate_left
         · simp only [Act.put, List.setIfInBounds_toArray, List.set_cons_zero, List.set_cons_succ, i64_w, i32_w]
           rfl
         refine done_ (done_of HT_.out (by kernel_rfl)) ?_
         try go_wp2
         go_ret
         exact ⟨by first | rfl | (simp [errW_none, errW_some] <;> rfl) | (simp [*, errW_none, errW_some] <;> rfl), by repeat (first | (with_reducible first | exact HB.out | apply below_alloc | apply pw_below_drewN | apply below_drew1) | exact HB.out)⟩
       ·rw [if_neg c6] at H
        exact absurd H (by simp)
      ·rw [if_neg c5] at H
       exact absurd H (by simp)
     ·rw [if_neg c4] at H
      have c4b0 : decide (x5_1 < (l0.length : Int)) = false := decide_eq_false c4
      clear c4
      obtain rfl := Option.some.inj H
      go_wp2
      go_ret
      exact ⟨by first | rfl | (simp [errW_none, errW_some] <;> rfl) | (simp [*, errW_none, errW_some] <;> rfl), by repeat (first | (with_reducible first | exact HB.out | apply below_alloc | apply pw_below_drewN | apply below_drew1) | exact HB.out)⟩
 ·rw [if_neg c3] at H
  have c3b0 : ((l0.length : Int) == (l1.length : Int)) = false := beq_eq_false_iff_ne.mpr c3
  have c3b1 : ((l0.length : Int) != (l1.length : Int)) = true := bne_iff_ne.mpr c3
  have c3b2 : (l0.length == l1.length) = false := by first | simpa using c3 | (simp at c3 ⊢; omega)
  obtain rfl := Option.some.inj H
  go_enter Try.func65, Try.ntmps65
  go_wp2
  go_ret
  exact ⟨by first | rfl | (simp [errW_none, errW_some] <;> rfl) | (simp [*, errW_none, errW_some] <;> rfl), by repeat (first | (with_reducible first | exact HB.out | apply below_alloc | apply pw_below_drewN | apply below_drew1) | exact HB.out)⟩

/-! ### laws_eqDisk: function 24 -/
def laws_eqDisk.f (k : Nat) (l0_0 : List Int) (l0_1 : List (S79)) (a0_2 : Int) (a0_3 : Bool) (l1_0 : List Int) (l1_1 : List (S79)) (a1_2 : Int) (a1_3 : Bool) : Option (Bool) := (laws_eqByteS.f k l0_0 l1_0).bind fun t314 => (if t314 = true then ((laws_eqPendS.f k l0_1 l1_1).bind fun t315 => (if t315 = true then (if a0_2 = a1_2 then (if (a0_3 != a1_3) = true then (some false) else (some true)) else (some false)) else (some false))) else (some false))
set_option maxHeartbeats 8000000 in
set_option maxRecDepth 100000 in
theorem laws_eqDisk.calls (k : Nat) (A0_0 : Option Addr) (c0_0 : Nat) (l0_0 : List Int) (A0_1 : Option Addr) (c0_1 : Nat) (l0_1 : List (S79)) (a0_2 : Int) (a0_3 : Bool) (A1_0 : Option Addr) (c1_0 : Nat) (l1_0 : List Int) (A1_1 : Option Addr) (c1_1 : Nat) (l1_1 : List (S79)) (a1_2 : Int) (a1_3 : Bool) (r : Bool) (w : World) (hr0_0 : Kd.C (Kd.int .u8) w A0_0 l0_0.length l0_0) (hc0_0 : l0_0.length ≤ c0_0) (hr0_1 : Kd.C k79 w A0_1 l0_1.length l0_1) (hc0_1 : l0_1.length ≤ c0_1) (hr1_0 : Kd.C (Kd.int .u8) w A1_0 l1_0.length l1_0) (hc1_0 : l1_0.length ≤ c1_0) (hr1_1 : Kd.C k79 w A1_1 l1_1.length l1_1) (hc1_1 : l1_1.length ≤ c1_1) (h : laws_eqDisk.f k l0_0 l0_1 a0_2 a0_3 l1_0 l1_1 a1_2 a1_3 = some r) :
   Calls Try.prog 24 #[.agg #[.slice A0_0 l0_0.length c0_0, .slice A0_1 l0_1.length c0_1, .int .i64 a0_2, .bool a0_3], .agg #[.slice A1_0 l1_0.length c1_0, .slice A1_1 l1_1.length c1_1, .int .i64 a1_2, .bool a1_3]] w fun e w' => e = .returned (.bool r) ∧ Below w.heap.size w w' := by
 have hu25 := Try.underlying25
 have HR0_0 := Aside0.mk hr0_0
 have HC0_0 := Aside0.mk hc0_0
 clear hr0_0 hc0_0
 have HR0_1 := Aside0.mk hr0_1
 have HC0_1 := Aside0.mk hc0_1
 clear hr0_1 hc0_1
 have HR1_0 := Aside0.mk hr1_0
 have HC1_0 := Aside0.mk hc1_0
 clear hr1_0 hc1_0
 have HR1_1 := Aside0.mk hr1_1
 have HC1_1 := Aside0.mk hc1_1
 clear hr1_1 hc1_1
 have HB := Aside0.mk (Below.refl w.heap.size w)
 have H : ((laws_eqByteS.f k l0_0 l1_0).bind fun t314 => (if t314 = true then ((laws_eqPendS.f k l0_1 l1_1).bind fun t315 => (if t315 = true then (if a0_2 = a1_2 then (if (a0_3 != a1_3) = true then (some false) else (some true)) else (some false)) else (some false))) else (some false))) = some r := h
 clear h
 replace H := Option.bind_eq_some_iff.mp H
 obtain ⟨t314, A30, H⟩ := H
 replace H : (if t314 = true then ((laws_eqPendS.f k l0_1 l1_1).bind fun t315 => (if t315 = true then (if a0_2 = a1_2 then (if (a0_3 != a1_3) = true then (some false) else (some true)) else (some false)) else (some false))) else (some false)) = some r := H
 have A3 := Aside0.mk A30
 clear A30
 by_cases c4 : t314 = true
 subst c4
 have H1 : ((laws_eqPendS.f k l0_1 l1_1).bind fun t315 => (if t315 = true then (if a0_2 = a1_2 then (if (a0_3 != a1_3) = true then (some false) else (some true)) else (some false)) else (some false))) = some r := by rw [if_pos rfl] at H; exact H
 clear H
 have H := H1
 clear H1
 replace H := Option.bind_eq_some_iff.mp H
 obtain ⟨t315, A50, H⟩ := H
 replace H : (if t315 = true then (if a0_2 = a1_2 then (if (a0_3 != a1_3) = true then (some false) else (some true)) else (some false)) else (some false)) = some r := H
 have A5 := Aside0.mk A50
 clear A50
 by_cases c6 : t315 = true
 subst c6
 have H1 : (if a0_2 = a1_2 then (if (a0_3 != a1_3) = true then (some false) else (some true)) else (some false)) = some r := by rw [if_pos rfl] at H; exact H
 clear H
 have H := H1
 clear H1
 by_cases c7 : a0_2 = a1_2
 rw [if_pos c7] at H
 have c7b0 : (a0_2 == a1_2) = true := beq_iff_eq.mpr c7
 have c7b1 : (a0_2 != a1_2) = false := bne_eq_false_iff_eq.mpr c7
 clear c7
 by_cases c8 : (a0_3 != a1_3) = true
 rw [if_pos c8] at H
 have c8b0 : (a0_3 != a1_3) = true := c8
 (try (have c8b1 : decide (a0_3 = a1_3) = false := by simpa using c8))
 (try (have c8b2 : (a0_3 == a1_3) = false := by simpa using c8))
 (try (have c8b3 : ¬ (a0_3 = a1_3) := by simpa using c8))
 clear c8
 obtain rfl := Option.some.inj H
 rotate_left
 rw [if_neg c8] at H
 have c8b0 : (a0_3 != a1_3) = false := by simpa using c8
 (try (have c8b1 : decide (a0_3 = a1_3) = true := by simpa using c8))
 (try (have c8b2 : (a0_3 == a1_3) = true := by simpa using c8))
 clear c8
 obtain rfl := Option.some.inj H
 rotate_left
 rw [if_neg c7] at H
 have c7b0 : (a0_2 == a1_2) = false := beq_eq_false_iff_ne.mpr c7
 have c7b1 : (a0_2 != a1_2) = true := bne_iff_ne.mpr c7
 obtain rfl := Option.some.inj H
 rotate_left
 replace c6 := Bool.eq_false_iff.mpr c6
 subst c6
 have H1 : (some false) = some r := by rw [if_neg (show ¬ (false = true) by decide)] at H; exact H
 clear H
 have H := H1
 clear H1
 obtain rfl := Option.some.inj H
 rotate_left
 replace c4 := Bool.eq_false_iff.mpr c4
 subst c4
 have H1 : (some false) = some r := by rw [if_neg (show ¬ (false = true) by decide)] at H; exact H
 clear H
 have H := H1
 clear H1
 obtain rfl := Option.some.inj H
 rotate_left
 all_goals
   go_enter Try.func24, Try.ntmps24
   first
    | (go_wp2_with (first | ((with_reducible refine gate_dst (N := 2) rfl ?_); refine box_event ?hg (N := 2) ?hd (cs := #[.slice A0_0 l0_0.length c0_0, .slice A0_1 l0_1.length c0_1, .int .i64 a0_2, .bool a0_3]) (t := 25) ?hr ?_; (case hd => rfl); (case hg => rfl); (case hr => first | (go_simp; done) | (go_simp; rfl)); intro gb312 hg w11_ hbox hb; have n0_ := Aside0.mk (below_step (by repeat (first | (with_reducible first | exact HB.out | apply below_alloc | apply pw_below_drewN | apply below_drew1) | exact HB.out)) hb); have n1_ := Aside0.mk (hbox); have n2_ := Aside0.mk ((by rw [hg]; exact (below_size (by repeat (first | (with_reducible first | exact HB.out | apply below_alloc | apply pw_below_drewN | apply below_drew1) | exact HB.out))) : w.heap.size ≤ gb312)); have n3_ := Aside0.mk ((by rw [hg]; exact (below_size (by repeat (first | (with_reducible first | exact HB.out | apply below_alloc | apply pw_below_drewN | apply below_drew1) | exact HB.out))) : w.heap.size ≤ gb312)); clear HB; have HB := n0_; have BK312 := n1_; have GW312 := n2_; have GE312 := n3_; clear n0_ n1_ n2_ n3_; clear hb hbox hg) | ((with_reducible refine gate_dst (N := 3) rfl ?_); refine box_event ?hg (N := 3) ?hd (cs := #[.slice A1_0 l1_0.length c1_0, .slice A1_1 l1_1.length c1_1, .int .i64 a1_2, .bool a1_3]) (t := 25) ?hr ?_; (case hd => rfl); (case hg => rfl); (case hr => first | (go_simp; done) | (go_simp; rfl)); intro gb313 hg w12_ hbox hb; have n0_ := Aside0.mk (blk_below (g := gb312) (o := .cells #[.slice A0_0 l0_0.length c0_0, .slice A0_1 l0_1.length c0_1, .int .i64 a0_2, .bool a0_3] 25 (0, 0)) (by (with_reducible repeat (first | refine blk_drewN ?_ _ | refine blk_drew ?_ | refine blk_alloc ?_ _)); exact BK312.out) hb); have n1_ := Aside0.mk (below_step (by repeat (first | (with_reducible first | exact HB.out | apply below_alloc | apply pw_below_drewN | apply below_drew1 | refine below_set ?_ GE312.out) | exact HB.out)) hb); have n2_ := Aside0.mk (hbox); have n3_ := Aside0.mk ((by rw [hg]; exact (below_size (by repeat (first | (with_reducible first | exact HB.out | apply below_alloc | apply pw_below_drewN | apply below_drew1 | refine below_set ?_ GE312.out) | exact HB.out))) : w.heap.size ≤ gb313)); have n4_ := Aside0.mk ((by rw [hg]; exact (below_size (by repeat (first | (with_reducible first | exact HB.out | apply below_alloc | apply pw_below_drewN | apply below_drew1 | refine below_set ?_ GE312.out) | exact HB.out))) : w.heap.size ≤ gb313)); have n5_ := Aside0.mk ((by rw [hg]; exact Nat.ne_of_lt (blk_lt (g := gb312) (o := .cells #[.slice A0_0 l0_0.length c0_0, .slice A0_1 l0_1.length c0_1, .int .i64 a0_2, .bool a0_3] 25 (0, 0)) (by (with_reducible repeat (first | refine blk_drewN ?_ _ | refine blk_drew ?_ | refine blk_alloc ?_ _)); exact BK312.out)) : gb312 ≠ gb313)); have n6_ := Aside0.mk ((by rw [hg]; exact Nat.ne_of_gt (blk_lt (g := gb312) (o := .cells #[.slice A0_0 l0_0.length c0_0, .slice A0_1 l0_1.length c0_1, .int .i64 a0_2, .bool a0_3] 25 (0, 0)) (by (with_reducible repeat (first | refine blk_drewN ?_ _ | refine blk_drew ?_ | refine blk_alloc ?_ _)); exact BK312.out)) : gb313 ≠ gb312)); clear BK312; clear HB; have BK312 := n0_; have HB := n1_; have BK313 := n2_; have GW313 := n3_; have GE313 := n4_; have NB312_313 := n5_; have NB313_312 := n6_; clear n0_ n1_ n2_ n3_ n4_ n5_ n6_; clear hb hbox hg; have hnbq1 := NB312_313.out; have hncq2 := NB313_312.out; have hczq3_0 : w12_.cell? ⟨gb312, 0, none⟩ = some (.slice A0_0 l0_0.length c0_0) := (blk_cell BK312.out 0).trans rfl; have hczq3_1 : w12_.cell? ⟨gb312, 1, none⟩ = some (.slice A0_1 l0_1.length c0_1) := (blk_cell BK312.out 1).trans rfl; have hczq3_2 : w12_.cell? ⟨gb312, 2, none⟩ = some (.int .i64 a0_2) := (blk_cell BK312.out 2).trans rfl; have hczq3_3 : w12_.cell? ⟨gb312, 3, none⟩ = some (.bool a0_3) := (blk_cell BK312.out 3).trans rfl; have hfzq4_0 := blk_frozen BK312.out 0; have hfzq4_1 := blk_frozen BK312.out 1; have hfzq4_2 := blk_frozen BK312.out 2; have hfzq4_3 := blk_frozen BK312.out 3; have hczq5_0 : w12_.cell? ⟨gb313, 0, none⟩ = some (.slice A1_0 l1_0.length c1_0) := (blk_cell BK313.out 0).trans rfl; have hczq5_1 : w12_.cell? ⟨gb313, 1, none⟩ = some (.slice A1_1 l1_1.length c1_1) := (blk_cell BK313.out 1).trans rfl; have hczq5_2 : w12_.cell? ⟨gb313, 2, none⟩ = some (.int .i64 a1_2) := (blk_cell BK313.out 2).trans rfl; have hczq5_3 : w12_.cell? ⟨gb313, 3, none⟩ = some (.bool a1_3) := (blk_cell BK313.out 3).trans rfl; have hfzq6_0 := blk_frozen BK313.out 0; have hfzq6_1 := blk_frozen BK313.out 1; have hfzq6_2 := blk_frozen BK313.out 2; have hfzq6_3 := blk_frozen BK313.out 3) | ((with_reducible refine gate_callee (f := 38) rfl ?_); refine goesL_ (some 9) rfl rfl Try.func38 (by kernel_rfl) rfl #[.slice A0_0 l0_0.length c0_0, .slice A1_0 l1_0.length c1_0] rfl (by (try simp only [List.map_toArray, List.map_cons, List.map_nil]); first | done | rfl | (simp only [List.length_drop, List.length_take]; rfl)) ?_; (with_reducible refine (laws_eqByteS.calls k _ _ l0_0 _ _ l1_0 true _ ?side1 ?side2 ?side3 ?side4 A3.out).mono ?_); (case side1 => repeat (first | exact (Kd.C_below HR0_0.out HB.out) | (with_reducible refine Kd.C_alloc ?_ _) | (with_reducible refine Kd.C_drewN ?_ _) | (with_reducible refine Kd.C_drew ?_))); (case side2 => exact HC0_0.out); (case side3 => repeat (first | exact (Kd.C_below HR1_0.out HB.out) | (with_reducible refine Kd.C_alloc ?_ _) | (with_reducible refine Kd.C_drewN ?_ _) | (with_reducible refine Kd.C_drew ?_))); (case side4 => exact HC1_0.out); rintro e w' ⟨rfl, ⟨nd, rfl⟩⟩; refine ⟨_, rfl, ?_⟩) | ((with_reducible refine gate_callee (f := 65) rfl ?_); refine goesL_ (some 15) rfl rfl Try.func65 (by kernel_rfl) rfl #[.slice A0_1 l0_1.length c0_1, .slice A1_1 l1_1.length c1_1] rfl (by (try simp only [List.map_toArray, List.map_cons, List.map_nil]); first | done | rfl | (simp only [List.length_drop, List.length_take]; rfl)) ?_; (with_reducible refine (laws_eqPendS.calls k _ _ l0_1 _ _ l1_1 true _ ?side1 ?side2 ?side3 ?side4 A5.out).mono ?_); (case side1 => repeat (first | exact (Kd.C_below HR0_1.out (by repeat (first | (with_reducible first | exact HB.out | apply below_alloc | apply pw_below_drewN | apply below_drew1 | refine below_set ?_ GE312.out | refine below_set ?_ GE313.out) | exact HB.out))) | (with_reducible refine Kd.C_alloc ?_ _) | (with_reducible refine Kd.C_drewN ?_ _) | (with_reducible refine Kd.C_drew ?_))); (case side2 => exact HC0_1.out); (case side3 => repeat (first | exact (Kd.C_below HR1_1.out (by repeat (first | (with_reducible first | exact HB.out | apply below_alloc | apply pw_below_drewN | apply below_drew1 | refine below_set ?_ GE312.out | refine below_set ?_ GE313.out) | exact HB.out))) | (with_reducible refine Kd.C_alloc ?_ _) | (with_reducible refine Kd.C_drewN ?_ _) | (with_reducible refine Kd.C_drew ?_))); (case side4 => exact HC1_1.out); rintro e w13_ ⟨rfl, hb⟩; refine ⟨_, rfl, ?_⟩; have n0_ := Aside0.mk (blk_below (g := gb312) (o := .cells #[.slice A0_0 l0_0.length c0_0, .slice A0_1 l0_1.length c0_1, .int .i64 a0_2, .bool a0_3] 25 (0, 0)) (by (with_reducible repeat (first | refine blk_drewN ?_ _ | refine blk_drew ?_ | refine blk_alloc ?_ _)); exact BK312.out) hb); have n1_ := Aside0.mk (blk_below (g := gb313) (o := .cells #[.slice A1_0 l1_0.length c1_0, .slice A1_1 l1_1.length c1_1, .int .i64 a1_2, .bool a1_3] 25 (0, 0)) (by (with_reducible repeat (first | refine blk_drewN ?_ _ | refine blk_drew ?_ | refine blk_alloc ?_ _)); exact BK313.out) hb); have n2_ := Aside0.mk (below_step (by repeat (first | (with_reducible first | exact HB.out | apply below_alloc | apply pw_below_drewN | apply below_drew1 | refine below_set ?_ GE312.out | refine below_set ?_ GE313.out) | exact HB.out)) hb); clear BK312; clear BK313; clear HB; have BK312 := n0_; have BK313 := n1_; have HB := n2_; clear n0_ n1_ n2_; (try clear hb); (try clear hb2); (try clear hk); (try clear hi); have hczq7_0 : w13_.cell? ⟨gb312, 0, none⟩ = some (.slice A0_0 l0_0.length c0_0) := (blk_cell BK312.out 0).trans rfl; have hczq7_1 : w13_.cell? ⟨gb312, 1, none⟩ = some (.slice A0_1 l0_1.length c0_1) := (blk_cell BK312.out 1).trans rfl; have hczq7_2 : w13_.cell? ⟨gb312, 2, none⟩ = some (.int .i64 a0_2) := (blk_cell BK312.out 2).trans rfl; have hczq7_3 : w13_.cell? ⟨gb312, 3, none⟩ = some (.bool a0_3) := (blk_cell BK312.out 3).trans rfl; have hfzq8_0 := blk_frozen BK312.out 0; have hfzq8_1 := blk_frozen BK312.out 1; have hfzq8_2 := blk_frozen BK312.out 2; have hfzq8_3 := blk_frozen BK312.out 3; have hczq9_0 : w13_.cell? ⟨gb313, 0, none⟩ = some (.slice A1_0 l1_0.length c1_0) := (blk_cell BK313.out 0).trans rfl; have hczq9_1 : w13_.cell? ⟨gb313, 1, none⟩ = some (.slice A1_1 l1_1.length c1_1) := (blk_cell BK313.out 1).trans rfl; have hczq9_2 : w13_.cell? ⟨gb313, 2, none⟩ = some (.int .i64 a1_2) := (blk_cell BK313.out 2).trans rfl; have hczq9_3 : w13_.cell? ⟨gb313, 3, none⟩ = some (.bool a1_3) := (blk_cell BK313.out 3).trans rfl; have hfzq10_0 := blk_frozen BK313.out 0; have hfzq10_1 := blk_frozen BK313.out 1; have hfzq10_2 := blk_frozen BK313.out 2; have hfzq10_3 := blk_frozen BK313.out 3))
       go_ret
       exact ⟨by first | rfl | (simp [errW_none, errW_some] <;> rfl) | (simp [*, errW_none, errW_some] <;> rfl), by repeat (first | (with_reducible first | exact HB.out | apply below_alloc | apply pw_below_drewN | apply below_drew1 | refine below_set ?_ GE312.out | refine below_set ?_ GE313.out) | exact HB.out)⟩)
    | (go_wp2_with (first | ((with_reducible refine gate_dst (N := 2) rfl ?_); refine box_event ?hg (N := 2) ?hd (cs := #[.slice A0_0 l0_0.length c0_0, .slice A0_1 l0_1.length c0_1, .int .i64 a0_2, .bool a0_3]) (t := 25) ?hr ?_; (case hd => rfl); (case hg => rfl); (case hr => first | (go_simp; done) | (go_simp; rfl)); intro gb312 hg w7_ hbox hb; have n0_ := Aside0.mk (below_step (by repeat (first | (with_reducible first | exact HB.out | apply below_alloc | apply pw_below_drewN | apply below_drew1) | exact HB.out)) hb); have n1_ := Aside0.mk (hbox); have n2_ := Aside0.mk ((by rw [hg]; exact (below_size (by repeat (first | (with_reducible first | exact HB.out | apply below_alloc | apply pw_below_drewN | apply below_drew1) | exact HB.out))) : w.heap.size ≤ gb312)); have n3_ := Aside0.mk ((by rw [hg]; exact (below_size (by repeat (first | (with_reducible first | exact HB.out | apply below_alloc | apply pw_below_drewN | apply below_drew1) | exact HB.out))) : w.heap.size ≤ gb312)); clear HB; have HB := n0_; have BK312 := n1_; have GW312 := n2_; have GE312 := n3_; clear n0_ n1_ n2_ n3_; clear hb hbox hg) | ((with_reducible refine gate_dst (N := 3) rfl ?_); refine box_event ?hg (N := 3) ?hd (cs := #[.slice A1_0 l1_0.length c1_0, .slice A1_1 l1_1.length c1_1, .int .i64 a1_2, .bool a1_3]) (t := 25) ?hr ?_; (case hd => rfl); (case hg => rfl); (case hr => first | (go_simp; done) | (go_simp; rfl)); intro gb313 hg w8_ hbox hb; have n0_ := Aside0.mk (blk_below (g := gb312) (o := .cells #[.slice A0_0 l0_0.length c0_0, .slice A0_1 l0_1.length c0_1, .int .i64 a0_2, .bool a0_3] 25 (0, 0)) (by (with_reducible repeat (first | refine blk_drewN ?_ _ | refine blk_drew ?_ | refine blk_alloc ?_ _)); exact BK312.out) hb); have n1_ := Aside0.mk (below_step (by repeat (first | (with_reducible first | exact HB.out | apply below_alloc | apply pw_below_drewN | apply below_drew1 | refine below_set ?_ GE312.out) | exact HB.out)) hb); have n2_ := Aside0.mk (hbox); have n3_ := Aside0.mk ((by rw [hg]; exact (below_size (by repeat (first | (with_reducible first | exact HB.out | apply below_alloc | apply pw_below_drewN | apply below_drew1 | refine below_set ?_ GE312.out) | exact HB.out))) : w.heap.size ≤ gb313)); have n4_ := Aside0.mk ((by rw [hg]; exact (below_size (by repeat (first | (with_reducible first | exact HB.out | apply below_alloc | apply pw_below_drewN | apply below_drew1 | refine below_set ?_ GE312.out) | exact HB.out))) : w.heap.size ≤ gb313)); have n5_ := Aside0.mk ((by rw [hg]; exact Nat.ne_of_lt (blk_lt (g := gb312) (o := .cells #[.slice A0_0 l0_0.length c0_0, .slice A0_1 l0_1.length c0_1, .int .i64 a0_2, .bool a0_3] 25 (0, 0)) (by (with_reducible repeat (first | refine blk_drewN ?_ _ | refine blk_drew ?_ | refine blk_alloc ?_ _)); exact BK312.out)) : gb312 ≠ gb313)); have n6_ := Aside0.mk ((by rw [hg]; exact Nat.ne_of_gt (blk_lt (g := gb312) (o := .cells #[.slice A0_0 l0_0.length c0_0, .slice A0_1 l0_1.length c0_1, .int .i64 a0_2, .bool a0_3] 25 (0, 0)) (by (with_reducible repeat (first | refine blk_drewN ?_ _ | refine blk_drew ?_ | refine blk_alloc ?_ _)); exact BK312.out)) : gb313 ≠ gb312)); clear BK312; clear HB; have BK312 := n0_; have HB := n1_; have BK313 := n2_; have GW313 := n3_; have GE313 := n4_; have NB312_313 := n5_; have NB313_312 := n6_; clear n0_ n1_ n2_ n3_ n4_ n5_ n6_; clear hb hbox hg; have hnbq1 := NB312_313.out; have hncq2 := NB313_312.out; have hczq3_0 : w8_.cell? ⟨gb312, 0, none⟩ = some (.slice A0_0 l0_0.length c0_0) := (blk_cell BK312.out 0).trans rfl; have hczq3_1 : w8_.cell? ⟨gb312, 1, none⟩ = some (.slice A0_1 l0_1.length c0_1) := (blk_cell BK312.out 1).trans rfl; have hczq3_2 : w8_.cell? ⟨gb312, 2, none⟩ = some (.int .i64 a0_2) := (blk_cell BK312.out 2).trans rfl; have hczq3_3 : w8_.cell? ⟨gb312, 3, none⟩ = some (.bool a0_3) := (blk_cell BK312.out 3).trans rfl; have hfzq4_0 := blk_frozen BK312.out 0; have hfzq4_1 := blk_frozen BK312.out 1; have hfzq4_2 := blk_frozen BK312.out 2; have hfzq4_3 := blk_frozen BK312.out 3; have hczq5_0 : w8_.cell? ⟨gb313, 0, none⟩ = some (.slice A1_0 l1_0.length c1_0) := (blk_cell BK313.out 0).trans rfl; have hczq5_1 : w8_.cell? ⟨gb313, 1, none⟩ = some (.slice A1_1 l1_1.length c1_1) := (blk_cell BK313.out 1).trans rfl; have hczq5_2 : w8_.cell? ⟨gb313, 2, none⟩ = some (.int .i64 a1_2) := (blk_cell BK313.out 2).trans rfl; have hczq5_3 : w8_.cell? ⟨gb313, 3, none⟩ = some (.bool a1_3) := (blk_cell BK313.out 3).trans rfl; have hfzq6_0 := blk_frozen BK313.out 0; have hfzq6_1 := blk_frozen BK313.out 1; have hfzq6_2 := blk_frozen BK313.out 2; have hfzq6_3 := blk_frozen BK313.out 3) | ((with_reducible refine gate_callee (f := 38) rfl ?_); refine goesL_ (some 9) rfl rfl Try.func38 (by kernel_rfl) rfl #[.slice A0_0 l0_0.length c0_0, .slice A1_0 l1_0.length c1_0] rfl (by (try simp only [List.map_toArray, List.map_cons, List.map_nil]); first | done | rfl | (simp only [List.length_drop, List.length_take]; rfl)) ?_; (with_reducible refine (laws_eqByteS.calls k _ _ l0_0 _ _ l1_0 true _ ?side1 ?side2 ?side3 ?side4 A3.out).mono ?_); (case side1 => repeat (first | exact (Kd.C_below HR0_0.out HB.out) | (with_reducible refine Kd.C_alloc ?_ _) | (with_reducible refine Kd.C_drewN ?_ _) | (with_reducible refine Kd.C_drew ?_))); (case side2 => exact HC0_0.out); (case side3 => repeat (first | exact (Kd.C_below HR1_0.out HB.out) | (with_reducible refine Kd.C_alloc ?_ _) | (with_reducible refine Kd.C_drewN ?_ _) | (with_reducible refine Kd.C_drew ?_))); (case side4 => exact HC1_0.out); rintro e w' ⟨rfl, ⟨nd, rfl⟩⟩; refine ⟨_, rfl, ?_⟩) | ((with_reducible refine gate_callee (f := 65) rfl ?_); refine goesL_ (some 15) rfl rfl Try.func65 (by kernel_rfl) rfl #[.slice A0_1 l0_1.length c0_1, .slice A1_1 l1_1.length c1_1] rfl (by (try simp only [List.map_toArray, List.map_cons, List.map_nil]); first | done | rfl | (simp only [List.length_drop, List.length_take]; rfl)) ?_; (with_reducible refine (laws_eqPendS.calls k _ _ l0_1 _ _ l1_1 false _ ?side1 ?side2 ?side3 ?side4 A5.out).mono ?_); (case side1 => repeat (first | exact (Kd.C_below HR0_1.out (by repeat (first | (with_reducible first | exact HB.out | apply below_alloc | apply pw_below_drewN | apply below_drew1 | refine below_set ?_ GE312.out | refine below_set ?_ GE313.out) | exact HB.out))) | (with_reducible refine Kd.C_alloc ?_ _) | (with_reducible refine Kd.C_drewN ?_ _) | (with_reducible refine Kd.C_drew ?_))); (case side2 => exact HC0_1.out); (case side3 => repeat (first | exact (Kd.C_below HR1_1.out (by repeat (first | (with_reducible first | exact HB.out | apply below_alloc | apply pw_below_drewN | apply below_drew1 | refine below_set ?_ GE312.out | refine below_set ?_ GE313.out) | exact HB.out))) | (with_reducible refine Kd.C_alloc ?_ _) | (with_reducible refine Kd.C_drewN ?_ _) | (with_reducible refine Kd.C_drew ?_))); (case side4 => exact HC1_1.out); rintro e w9_ ⟨rfl, hb⟩; refine ⟨_, rfl, ?_⟩; have n0_ := Aside0.mk (blk_below (g := gb312) (o := .cells #[.slice A0_0 l0_0.length c0_0, .slice A0_1 l0_1.length c0_1, .int .i64 a0_2, .bool a0_3] 25 (0, 0)) (by (with_reducible repeat (first | refine blk_drewN ?_ _ | refine blk_drew ?_ | refine blk_alloc ?_ _)); exact BK312.out) hb); have n1_ := Aside0.mk (blk_below (g := gb313) (o := .cells #[.slice A1_0 l1_0.length c1_0, .slice A1_1 l1_1.length c1_1, .int .i64 a1_2, .bool a1_3] 25 (0, 0)) (by (with_reducible repeat (first | refine blk_drewN ?_ _ | refine blk_drew ?_ | refine blk_alloc ?_ _)); exact BK313.out) hb); have n2_ := Aside0.mk (below_step (by repeat (first | (with_reducible first | exact HB.out | apply below_alloc | apply pw_below_drewN | apply below_drew1 | refine below_set ?_ GE312.out | refine below_set ?_ GE313.out) | exact HB.out)) hb); clear BK312; clear BK313; clear HB; have BK312 := n0_; have BK313 := n1_; have HB := n2_; clear n0_ n1_ n2_; (try clear hb); (try clear hb2); (try clear hk); (try clear hi)))
       go_ret
       exact ⟨by first | rfl | (simp [errW_none, errW_some] <;> rfl) | (simp [*, errW_none, errW_some] <;> rfl), by repeat (first | (with_reducible first | exact HB.out | apply below_alloc | apply pw_below_drewN | apply below_drew1 | refine below_set ?_ GE312.out | refine below_set ?_ GE313.out) | exact HB.out)⟩)
    | (go_wp2_with (first | ((with_reducible refine gate_dst (N := 2) rfl ?_); refine box_event ?hg (N := 2) ?hd (cs := #[.slice A0_0 l0_0.length c0_0, .slice A0_1 l0_1.length c0_1, .int .i64 a0_2, .bool a0_3]) (t := 25) ?hr ?_; (case hd => rfl); (case hg => rfl); (case hr => first | (go_simp; done) | (go_simp; rfl)); intro gb312 hg w7_ hbox hb; have n0_ := Aside0.mk (below_step (by repeat (first | (with_reducible first | exact HB.out | apply below_alloc | apply pw_below_drewN | apply below_drew1) | exact HB.out)) hb); have n1_ := Aside0.mk (hbox); have n2_ := Aside0.mk ((by rw [hg]; exact (below_size (by repeat (first | (with_reducible first | exact HB.out | apply below_alloc | apply pw_below_drewN | apply below_drew1) | exact HB.out))) : w.heap.size ≤ gb312)); have n3_ := Aside0.mk ((by rw [hg]; exact (below_size (by repeat (first | (with_reducible first | exact HB.out | apply below_alloc | apply pw_below_drewN | apply below_drew1) | exact HB.out))) : w.heap.size ≤ gb312)); clear HB; have HB := n0_; have BK312 := n1_; have GW312 := n2_; have GE312 := n3_; clear n0_ n1_ n2_ n3_; clear hb hbox hg) | ((with_reducible refine gate_dst (N := 3) rfl ?_); refine box_event ?hg (N := 3) ?hd (cs := #[.slice A1_0 l1_0.length c1_0, .slice A1_1 l1_1.length c1_1, .int .i64 a1_2, .bool a1_3]) (t := 25) ?hr ?_; (case hd => rfl); (case hg => rfl); (case hr => first | (go_simp; done) | (go_simp; rfl)); intro gb313 hg w8_ hbox hb; have n0_ := Aside0.mk (blk_below (g := gb312) (o := .cells #[.slice A0_0 l0_0.length c0_0, .slice A0_1 l0_1.length c0_1, .int .i64 a0_2, .bool a0_3] 25 (0, 0)) (by (with_reducible repeat (first | refine blk_drewN ?_ _ | refine blk_drew ?_ | refine blk_alloc ?_ _)); exact BK312.out) hb); have n1_ := Aside0.mk (below_step (by repeat (first | (with_reducible first | exact HB.out | apply below_alloc | apply pw_below_drewN | apply below_drew1 | refine below_set ?_ GE312.out) | exact HB.out)) hb); have n2_ := Aside0.mk (hbox); have n3_ := Aside0.mk ((by rw [hg]; exact (below_size (by repeat (first | (with_reducible first | exact HB.out | apply below_alloc | apply pw_below_drewN | apply below_drew1 | refine below_set ?_ GE312.out) | exact HB.out))) : w.heap.size ≤ gb313)); have n4_ := Aside0.mk ((by rw [hg]; exact (below_size (by repeat (first | (with_reducible first | exact HB.out | apply below_alloc | apply pw_below_drewN | apply below_drew1 | refine below_set ?_ GE312.out) | exact HB.out))) : w.heap.size ≤ gb313)); have n5_ := Aside0.mk ((by rw [hg]; exact Nat.ne_of_lt (blk_lt (g := gb312) (o := .cells #[.slice A0_0 l0_0.length c0_0, .slice A0_1 l0_1.length c0_1, .int .i64 a0_2, .bool a0_3] 25 (0, 0)) (by (with_reducible repeat (first | refine blk_drewN ?_ _ | refine blk_drew ?_ | refine blk_alloc ?_ _)); exact BK312.out)) : gb312 ≠ gb313)); have n6_ := Aside0.mk ((by rw [hg]; exact Nat.ne_of_gt (blk_lt (g := gb312) (o := .cells #[.slice A0_0 l0_0.length c0_0, .slice A0_1 l0_1.length c0_1, .int .i64 a0_2, .bool a0_3] 25 (0, 0)) (by (with_reducible repeat (first | refine blk_drewN ?_ _ | refine blk_drew ?_ | refine blk_alloc ?_ _)); exact BK312.out)) : gb313 ≠ gb312)); clear BK312; clear HB; have BK312 := n0_; have HB := n1_; have BK313 := n2_; have GW313 := n3_; have GE313 := n4_; have NB312_313 := n5_; have NB313_312 := n6_; clear n0_ n1_ n2_ n3_ n4_ n5_ n6_; clear hb hbox hg; have hnbq1 := NB312_313.out; have hncq2 := NB313_312.out; have hczq3_0 : w8_.cell? ⟨gb312, 0, none⟩ = some (.slice A0_0 l0_0.length c0_0) := (blk_cell BK312.out 0).trans rfl; have hczq3_1 : w8_.cell? ⟨gb312, 1, none⟩ = some (.slice A0_1 l0_1.length c0_1) := (blk_cell BK312.out 1).trans rfl; have hczq3_2 : w8_.cell? ⟨gb312, 2, none⟩ = some (.int .i64 a0_2) := (blk_cell BK312.out 2).trans rfl; have hczq3_3 : w8_.cell? ⟨gb312, 3, none⟩ = some (.bool a0_3) := (blk_cell BK312.out 3).trans rfl; have hfzq4_0 := blk_frozen BK312.out 0; have hfzq4_1 := blk_frozen BK312.out 1; have hfzq4_2 := blk_frozen BK312.out 2; have hfzq4_3 := blk_frozen BK312.out 3; have hczq5_0 : w8_.cell? ⟨gb313, 0, none⟩ = some (.slice A1_0 l1_0.length c1_0) := (blk_cell BK313.out 0).trans rfl; have hczq5_1 : w8_.cell? ⟨gb313, 1, none⟩ = some (.slice A1_1 l1_1.length c1_1) := (blk_cell BK313.out 1).trans rfl; have hczq5_2 : w8_.cell? ⟨gb313, 2, none⟩ = some (.int .i64 a1_2) := (blk_cell BK313.out 2).trans rfl; have hczq5_3 : w8_.cell? ⟨gb313, 3, none⟩ = some (.bool a1_3) := (blk_cell BK313.out 3).trans rfl; have hfzq6_0 := blk_frozen BK313.out 0; have hfzq6_1 := blk_frozen BK313.out 1; have hfzq6_2 := blk_frozen BK313.out 2; have hfzq6_3 := blk_frozen BK313.out 3) | ((with_reducible refine gate_callee (f := 38) rfl ?_); refine goesL_ (some 9) rfl rfl Try.func38 (by kernel_rfl) rfl #[.slice A0_0 l0_0.length c0_0, .slice A1_0 l1_0.length c1_0] rfl (by (try simp only [List.map_toArray, List.map_cons, List.map_nil]); first | done | rfl | (simp only [List.length_drop, List.length_take]; rfl)) ?_; (with_reducible refine (laws_eqByteS.calls k _ _ l0_0 _ _ l1_0 false _ ?side1 ?side2 ?side3 ?side4 A3.out).mono ?_); (case side1 => repeat (first | exact (Kd.C_below HR0_0.out HB.out) | (with_reducible refine Kd.C_alloc ?_ _) | (with_reducible refine Kd.C_drewN ?_ _) | (with_reducible refine Kd.C_drew ?_))); (case side2 => exact HC0_0.out); (case side3 => repeat (first | exact (Kd.C_below HR1_0.out HB.out) | (with_reducible refine Kd.C_alloc ?_ _) | (with_reducible refine Kd.C_drewN ?_ _) | (with_reducible refine Kd.C_drew ?_))); (case side4 => exact HC1_0.out); rintro e w' ⟨rfl, ⟨nd, rfl⟩⟩; refine ⟨_, rfl, ?_⟩))
       go_ret
       exact ⟨by first | rfl | (simp [errW_none, errW_some] <;> rfl) | (simp [*, errW_none, errW_some] <;> rfl), by repeat (first | (with_reducible first | exact HB.out | apply below_alloc | apply pw_below_drewN | apply below_drew1 | refine below_set ?_ GE312.out | refine below_set ?_ GE313.out) | exact HB.out)⟩)

/-! ### L_eqByteS: a text by hand -/
theorem eqByteS_loop (l : List Int) (hL : l.length ≤ 281474976710656) : ∀ (d i : Nat), i + d = l.length → Ev (fun k => laws_eqByteS.l0 k l l (i : Int)) true
 | 0, i, hd => Ev.step (fun k => by simp only [laws_eqByteS.l0]; rw [if_neg (by omega)]) (Ev.now _)
 | d + 1, i, hd => 
   Ev.step (fun k => by simp only [laws_eqByteS.l0]; rw [if_pos (by omega), if_pos (by omega), if_pos (by omega), if_true, show wrap64 ((i : Int) + 1) = ((i + 1 : Nat) : Int) by unfold wrap64; omega])
    (eqByteS_loop l hL d (i + 1) (by omega))
theorem eqByteS_ev (l : List Int) (hL : l.length ≤ 281474976710656) : Ev (fun k => laws_eqByteS.f k l l) true :=
 Ev.congr (fun k => by unfold laws_eqByteS.f; rw [if_pos rfl]; rfl) (eqByteS_loop l hL l.length 0 (by omega))

/-! ### L_toByteS: a text by hand -/
theorem toByteS_loop (l : List Int) (hL : l.length ≤ 281474976710656) : ∀ (d i : Nat) (x : List Int), i + d = l.length → x.length = l.length → (∀ j, j < i → x[j]? = l[j]?) →
   Ev (fun k => laws_toByteS.l0 k l x (i : Int)) l
 | 0, i, x, hd, hx, hj => by
   obtain rfl : x = l := List.ext_getElem? fun j => by
    by_cases h : j < i
    · exact hj j h
    · rw [List.getElem?_eq_none (by omega), List.getElem?_eq_none (by omega)]
   exact Ev.step (fun k => by simp only [laws_toByteS.l0]; rw [if_neg (by omega)]) (Ev.now _)
 | d + 1, i, x, hd, hx, hj => by
   refine Ev.step (fun k => by simp only [laws_toByteS.l0]; rw [if_pos (by omega), if_pos (by omega), if_pos (by omega), Int.toNat_natCast, show wrap64 ((i : Int) + 1) = ((i + 1 : Nat) : Int) by unfold wrap64; omega])
    (toByteS_loop l hL d (i + 1) (x.set i (rd l i)) (by omega) (by simpa using hx) fun j hlt => ?_)
   rcases Nat.lt_or_ge j i with h | h
   ·rw [List.getElem?_set_ne (by omega)]; exact hj j h
   ·obtain rfl : j = i := by omega
    rw [List.getElem?_set_self (by omega)]
    simp [rd, List.getD_eq_getElem?_getD, List.getElem?_eq_getElem (show j < l.length by omega)]
theorem toByteS_ev (l : List Int) (hL : l.length ≤ 281474976710656) : Ev (fun k => laws_toByteS.f k l) l := by
 refine Ev.congr (fun k => ?_) (toByteS_loop l hL l.length 0 (List.replicate l.length 0) (by omega) (by simp) (fun j h => by omega))
 unfold laws_toByteS.f
 rw [if_pos (by omega), Int.toNat_natCast, if_pos hL]
 rfl

/-! ### L_evDisk: a text by hand -/
def cvPend (l : List S127) : List S79 := l.map fun x => ⟨x.f0, x.f1⟩
def okPendS (l : List S79) : Prop := l.length ≤ 1048576 ∧ ∀ x ∈ l, x.f1.length ≤ 1048576
theorem szByteS_at (l : List Int) (a : Int) (h0 : 0 ≤ a) (h1 : a ≤ 1048576) (hL : l.length ≤ maxLen) : ∃ r, laws_szByteS.f l a = some r ∧ r ≤ a ∧ (0 ≤ r → l.length ≤ 1048576) := by
 unfold maxLen at hL
 have e : wrap64 (a - (l.length : Int)) = a - l.length := by unfold wrap64; omega
 unfold laws_szByteS.f
 rw [e]
 by_cases c : a - (l.length : Int) < 0
 ·exact ⟨-1, by rw [if_pos c], by omega, by omega⟩
 ·exact ⟨_, by rw [if_neg c], by omega, by omega⟩
theorem szPend_at (b : Int) (l : List Int) (a : Int) (h0 : 0 ≤ a) (h1 : a ≤ 1048576) (hL : l.length ≤ maxLen) : ∃ r, laws_szPend.f b l a = some r ∧ r ≤ a ∧ (0 ≤ r → l.length ≤ 1048576) := by
 obtain ⟨r, hr, h2, h3⟩ := szByteS_at l a h0 h1 hL
 unfold laws_szPend.f
 rw [hr]
 by_cases c : r < 0
 ·exact ⟨-1, by simp [c], by omega, by omega⟩
 ·exact ⟨r, by simp [c], h2, h3⟩
theorem szPendS_loop (l : List S127) (hL : l.length ≤ 1048576) (hF : ∀ x ∈ l, x.f1.length ≤ maxLen) : ∀ (d i : Nat) (a : Int), i + d = l.length → 0 ≤ a → a ≤ 1048576 → (∀ j, j < i → (l.getD j z127).f1.length ≤ 1048576) →
   ∃ r, Ev (fun k => laws_szPendS.l0 k l a (i : Int)) r ∧ r ≤ a ∧ (0 ≤ r → ∀ j, j < l.length → (l.getD j z127).f1.length ≤ 1048576)
 | 0, i, a, hd, h0, h1, hj => ⟨a, Ev.step (fun k => by simp only [laws_szPendS.l0]; rw [if_neg (by omega)]) (Ev.now _), by omega, fun _ j hlt => hj j (by omega)⟩
 | d + 1, i, a, hd, h0, h1, hj => by
   have hm : l.getD i z127 ∈ l := by
    rw [List.getD_eq_getElem?_getD, List.getElem?_eq_getElem (show i < l.length by omega)]
    exact List.getElem_mem _
   obtain ⟨r, hr, h2, h3⟩ := szPend_at (l.getD i z127).f0 (l.getD i z127).f1 a h0 h1 (hF _ hm)
   have hr' : laws_szPend.f (rd_T127 l (i : Int)).f0 (rd_T127 l (i : Int)).f1 a = some r := by unfold rd_T127; rw [Int.toNat_natCast]; exact hr
   by_cases c : r < 0
   ·exact ⟨-1, Ev.step (fun k => by simp only [laws_szPendS.l0]; rw [if_pos (by omega), if_pos (by omega), hr']; simp only [Option.bind_some]; rw [if_pos c]) (Ev.now _), by omega, by omega⟩
   ·obtain ⟨r2, he, h4, h5⟩ := szPendS_loop l hL hF d (i + 1) r (by omega) (by omega) (by omega) (fun j hlt => by
     rcases Nat.lt_or_ge j i with h | h
     ·exact hj j h
     ·obtain rfl : j = i := by omega
      exact h3 (by omega))
    exact ⟨r2, Ev.step (fun k => by simp only [laws_szPendS.l0]; rw [if_pos (by omega), if_pos (by omega), hr']; simp only [Option.bind_some]; rw [if_neg c, show wrap64 ((i : Int) + 1) = ((i + 1 : Nat) : Int) by unfold wrap64; omega]) he, by omega, h5⟩
theorem szPendS_ev (l : List S127) (a : Int) (h0 : 0 ≤ a) (h1 : a ≤ 1048576) (hL : l.length ≤ maxLen) (hF : ∀ x ∈ l, x.f1.length ≤ maxLen) :
  ∃ r, Ev (fun k => laws_szPendS.f k l a) r ∧ r ≤ a ∧ (0 ≤ r → l.length ≤ 1048576 ∧ ∀ x ∈ l, x.f1.length ≤ 1048576) := by
 unfold maxLen at hL
 have e : wrap64 (a - (l.length : Int)) = a - l.length := by unfold wrap64; omega
 by_cases c : a - (l.length : Int) < 0
 ·exact ⟨-1, Ev.congr (fun k => by unfold laws_szPendS.f; rw [e, if_pos c]) (Ev.now _), by omega, by omega⟩
 ·obtain ⟨r, he, h2, h3⟩ := szPendS_loop l (by omega) hF l.length 0 (a - l.length) (by omega) (by omega) (by omega) (fun j h => by omega)
  refine ⟨r, Ev.congr (fun k => by unfold laws_szPendS.f; rw [e, if_neg c]; rfl) he, by omega, fun h => ⟨by omega, fun x hx => ?_⟩⟩
  obtain ⟨j, hj, rfl⟩ := List.getElem_of_mem hx
  have := h3 h j hj
  rwa [List.getD_eq_getElem?_getD, List.getElem?_eq_getElem hj] at this
theorem szDisk_ev (l0 : List Int) (l1 : List S127) (a2 : Int) (a3 : Bool) (hL : l0.length ≤ maxLen) (hL1 : l1.length ≤ maxLen) (hF : ∀ x ∈ l1, x.f1.length ≤ maxLen) :
  ∃ r, Ev (fun k => laws_szDisk.f k l0 l1 a2 a3 1048576) r ∧ (0 ≤ r → l0.length ≤ 1048576 ∧ okPendS (cvPend l1)) := by
 obtain ⟨r, hr, h2, h3⟩ := szByteS_at l0 1048576 (by omega) (by omega) hL
 by_cases c : r < 0
 ·exact ⟨-1, Ev.congr (fun k => by unfold laws_szDisk.f; rw [hr]; simp only [Option.bind_some]; rw [if_pos c]) (Ev.now _), by omega⟩
 ·obtain ⟨q, hq, h4, h5⟩ := szPendS_ev l1 r (by omega) (by omega) hL1 hF
  by_cases c2 : q < 0
  ·exact ⟨-1, Ev.congr (fun k => by unfold laws_szDisk.f; rw [hr]; simp only [Option.bind_some]; rw [if_neg c]) (Ev.bind hq (Ev.congr (fun k => by rw [if_pos c2]) (Ev.now _))), by omega⟩
  ·refine ⟨q, Ev.congr (fun k => by unfold laws_szDisk.f; rw [hr]; simp only [Option.bind_some]; rw [if_neg c]) (Ev.bind hq (Ev.congr (fun k => by rw [if_neg c2]) (Ev.now _))), fun h => ⟨h3 (by omega), ?_⟩⟩
   obtain ⟨h6, h7⟩ := h5 (by omega)
   refine ⟨by simpa [cvPend] using h6, fun x hx => ?_⟩
   obtain ⟨y, hy, rfl⟩ := List.mem_map.1 hx
   exact h7 y hy
theorem toPendS_loop (l : List S127) (hL : okPendS (cvPend l)) : ∀ (d i : Nat) (x : List S79), i + d = l.length → x.length = l.length → (∀ j, j < i → x[j]? = (cvPend l)[j]?) →
   Ev (fun k => laws_toPendS.l0 k l x (i : Int)) (cvPend l)
 | 0, i, x, hd, hx, hj => by
   obtain rfl : x = cvPend l := List.ext_getElem? fun j => by
    by_cases h : j < i
    · exact hj j h
    · rw [List.getElem?_eq_none (by omega), List.getElem?_eq_none (by simp [cvPend]; omega)]
   exact Ev.step (fun k => by simp only [laws_toPendS.l0]; rw [if_neg (by omega)]) (Ev.now _)
 | d + 1, i, x, hd, hx, hj => by
   have hl : l.length ≤ 1048576 := by have := hL.1; simpa [cvPend] using this
   have hm : l.getD i z127 ∈ l := by
    rw [List.getD_eq_getElem?_getD, List.getElem?_eq_getElem (show i < l.length by omega)]
    exact List.getElem_mem _
   have he : Ev (fun k => laws_toPend.f k (rd_T127 l (i : Int)).f0 (rd_T127 l (i : Int)).f1) ((rd_T127 l (i : Int)).f0, (rd_T127 l (i : Int)).f1) := by
    have h2 : (l.getD i z127).f1.length ≤ 1048576 := hL.2 _ (List.mem_map.2 ⟨_, hm, rfl⟩)
    unfold laws_toPend.f rd_T127
    rw [Int.toNat_natCast]
    exact Ev.bind (toByteS_ev _ (by omega)) (Ev.now _)
   refine Ev.step (fun k => by simp only [laws_toPendS.l0]; rw [if_pos (by omega), if_pos (by omega)]) (Ev.bind he ?_)
   refine Ev.congr (fun k => by rw [if_pos (by omega), Int.toNat_natCast, show wrap64 ((i : Int) + 1) = ((i + 1 : Nat) : Int) by unfold wrap64; omega])
    (toPendS_loop l hL d (i + 1) (x.set i ⟨(rd_T127 l (i : Int)).f0, (rd_T127 l (i : Int)).f1⟩) (by omega) (by simpa using hx) fun j hlt => ?_)
   rcases Nat.lt_or_ge j i with h | h
   ·rw [List.getElem?_set_ne (by omega)]; exact hj j h
   ·obtain rfl : j = i := by omega
    rw [List.getElem?_set_self (by omega)]
    simp [rd_T127, cvPend, List.getD_eq_getElem?_getD, List.getElem?_eq_getElem (show j < l.length by omega)]
theorem toPendS_ev (l : List S127) (hL : okPendS (cvPend l)) : Ev (fun k => laws_toPendS.f k l) (cvPend l) := by
 have hl : l.length ≤ 1048576 := by have := hL.1; simpa [cvPend] using this
 refine Ev.congr (fun k => ?_) (toPendS_loop l hL l.length 0 (List.replicate l.length z79) (by omega) (by simp) (fun j h => by omega))
 unfold laws_toPendS.f
 rw [if_pos (by omega), Int.toNat_natCast, if_pos (by omega)]
 rfl
theorem toDisk_ev (l0 : List Int) (l1 : List S127) (a2 : Int) (a3 : Bool) (h0 : l0.length ≤ 1048576) (h1 : okPendS (cvPend l1)) : Ev (fun k => laws_toDisk.f k l0 l1 a2 a3) (l0, cvPend l1, a2, a3) :=
 Ev.bind (toByteS_ev l0 (by omega)) (Ev.bind (toPendS_ev l1 h1) (Ev.now _))
theorem eqPend_ev (a : Int) (l : List Int) (h : l.length ≤ 281474976710656) : Ev (fun k => laws_eqPend.f k a l a l) true :=
 Ev.congr (fun k => by unfold laws_eqPend.f; rw [if_pos rfl]) (Ev.bind (eqByteS_ev l h) (Ev.congr (fun k => by rw [if_pos rfl]) (Ev.now _)))
theorem eqPendS_loop (l : List S79) (hL : okPendS l) : ∀ (d i : Nat), i + d = l.length → Ev (fun k => laws_eqPendS.l0 k l l (i : Int)) true
 | 0, i, hd => Ev.step (fun k => by simp only [laws_eqPendS.l0]; rw [if_neg (by omega)]) (Ev.now _)
 | d + 1, i, hd => by
   have hl := hL.1
   have hm : rd_T79 l (i : Int) ∈ l := by
    unfold rd_T79
    rw [Int.toNat_natCast, List.getD_eq_getElem?_getD, List.getElem?_eq_getElem (show i < l.length by omega)]
    exact List.getElem_mem _
   exact Ev.step (fun k => by simp only [laws_eqPendS.l0]; rw [if_pos (by omega), if_pos (by omega), if_pos (by omega)])
    (Ev.bind (eqPend_ev _ _ (by have := hL.2 _ hm; omega)) (Ev.congr (fun k => by rw [if_pos rfl, show wrap64 ((i : Int) + 1) = ((i + 1 : Nat) : Int) by unfold wrap64; omega]) (eqPendS_loop l hL d (i + 1) (by omega))))
theorem eqPendS_ev (l : List S79) (hL : okPendS l) : Ev (fun k => laws_eqPendS.f k l l) true :=
 Ev.congr (fun k => by unfold laws_eqPendS.f; rw [if_pos rfl]; rfl) (eqPendS_loop l hL l.length 0 (by omega))
theorem eqDisk_ev (l0 : List Int) (l1 : List S79) (a2 : Int) (a3 : Bool) (h0 : l0.length ≤ 1048576) (h1 : okPendS l1) : Ev (fun k => laws_eqDisk.f k l0 l1 a2 a3 l0 l1 a2 a3) true := by
 unfold laws_eqDisk.f
 refine Ev.bind (eqByteS_ev l0 (by omega)) (Ev.congr (fun k => by rw [if_pos rfl]) (Ev.bind (eqPendS_ev l1 h1) (Ev.congr (fun k => by rw [if_pos rfl, if_pos rfl, bne_self_eq_false, if_neg (by decide)]) (Ev.now _))))

/-! ### L_evRsOk: a text by hand -/
/-- What is asked of a disk: sizes, and bytes that are bytes. -/
def RsOk (l0 : List Int) (l1 : List S79) : Prop := l0.length ≤ 1048576 ∧ okPendS l1 ∧ (∀ x ∈ l0, 0 ≤ x ∧ x < 256) ∧ ∀ p ∈ l1, ∀ y ∈ p.f1, 0 ≤ y ∧ y < 256

/-! ### impl_goodNumber: function 70 -/
def impl_goodNumber.f (a0 : Int) : Option (Bool) := if a0 ≥ 1 then (some (decide (a0 ≤ 2000000000))) else (some false)
set_option maxHeartbeats 8000000 in
set_option maxRecDepth 100000 in
theorem impl_goodNumber.calls (a0 : Int) (r : Bool) (w : World) (h : impl_goodNumber.f a0 = some r) :
  Calls Try.prog 70 #[.int .i64 a0] w fun e w' => e = .returned (.bool r) ∧ Drawn0 w w' := by
 have H : (if a0 ≥ 1 then (some (decide (a0 ≤ 2000000000))) else (some false)) = some r := h
 clear h
 by_cases c2 : a0 ≥ 1
 ·rw [if_pos c2] at H
  have c2b0 : decide (1 ≤ a0) = true := decide_eq_true c2
  clear c2
  obtain rfl := Option.some.inj H
  go_enter Try.func70, Try.ntmps70
  go_wp2
  go_ret
  exact ⟨by first | rfl | (simp; done) | (simp [*]; done), by repeat (first | exact Drawn0.refl _ | apply Drawn0.step)⟩
 ·rw [if_neg c2] at H
  have c2b0 : decide (1 ≤ a0) = false := decide_eq_false c2
  clear c2
  obtain rfl := Option.some.inj H
  go_enter Try.func70, Try.ntmps70
  go_wp2
  go_ret
  exact ⟨by first | rfl | (simp; done) | (simp [*]; done), by repeat (first | exact Drawn0.refl _ | apply Drawn0.step)⟩

/-- THE ONE PURE STATEMENT of impl_goodNumber: yours. -/
def impl_goodNumber.Pure : Prop := ∀ (a0 : Int), (Lit.int .i64 a0).wf = true → impl_goodNumber.f a0 = some true
theorem impl_goodNumber.walk (P : impl_goodNumber.Pure) (a0 : Int) (w : World) (w0 : (Lit.int .i64 a0).wf = true) :
  Calls Try.prog 70 #[.int .i64 a0] w fun e w' => e = .returned (.bool true) ∧ Below w.heap.size w w' := by
 have h := P a0 w0
 refine (impl_goodNumber.calls a0 true w h).mono ?_
 rintro e w' ⟨rfl, hd⟩
 exact ⟨rfl, hd.below⟩

/-! ### L_validDisk: a text by hand -/
def pendOk (n : Nat) (p : S79) : Bool := decide (0 ≤ p.f0) && decide (p.f0 < (n / 64 : Nat)) && decide (p.f1.length = 64)
def vD (l0 : List Int) (l1 : List S79) (a2 : Int) : Bool :=
 decide (l0.length % 64 = 0) && decide (1024 ≤ l0.length) && decide (l0.length ≤ 65599) && decide (l1.length ≤ 2000) && decide (-1 ≤ a2) && decide (a2 ≤ 1000000) && l1.all (pendOk l0.length)
theorem drop_all {α : Type} (p : α → Bool) (l : List α) (i : Nat) (h : i < l.length) : (l.drop i).all p = (p l[i] && (l.drop (i + 1)).all p) := by
 rw [List.drop_eq_getElem_cons h, List.all_cons]
theorem sectors_at (l0 : List Int) (hL : l0.length ≤ 1048576) : wrap64 ((l0.length : Int) / 64) = ((l0.length / 64 : Nat) : Int) := by unfold wrap64; omega
theorem specValid_loop (l0 : List Int) (l1 : List S79) (a2 : Int) (a3 : Bool) (hL : l1.length ≤ 1048576) : ∀ (d i : Nat), i + d = l1.length →
   Ev (fun k => spec_ValidDisk.l0 k ((l0.length / 64 : Nat) : Int) (i : Int) l0 l1 a2 a3) ((l1.drop i).all (pendOk l0.length))
 | 0, i, hd => by
   rw [List.drop_of_length_le (by omega), List.all_nil]
   exact Ev.step (fun k => by simp only [spec_ValidDisk.l0]; rw [if_neg (by omega)]) (Ev.now _)
 | d + 1, i, hd => by
   have hi : i < l1.length := by omega
   have er : rd_T79 l1 (i : Int) = l1[i] := by unfold rd_T79; rw [Int.toNat_natCast, List.getD_eq_getElem?_getD, List.getElem?_eq_getElem hi]; rfl
   rw [drop_all _ _ _ hi]
   have ih := specValid_loop l0 l1 a2 a3 hL d (i + 1) (by omega)
   have ew : wrap64 ((i : Int) + 1) = ((i + 1 : Nat) : Int) := by unfold wrap64; omega
   by_cases c1 : l1[i].f0 < 0
   ·rw [show pendOk l0.length l1[i] = false by unfold pendOk; simp <;> omega, Bool.false_and]
    exact Ev.step (fun k => by simp only [spec_ValidDisk.l0]; rw [if_pos (by omega), if_pos (by omega), er, if_pos c1]) (Ev.now _)
   by_cases c2 : l1[i].f0 ≥ ((l0.length / 64 : Nat) : Int)
   ·rw [show pendOk l0.length l1[i] = false by unfold pendOk; simp <;> omega, Bool.false_and]
    exact Ev.step (fun k => by simp only [spec_ValidDisk.l0]; rw [if_pos (by omega), if_pos (by omega), er, if_neg c1, if_pos c2]) (Ev.now _)
   by_cases c3 : (l1[i].f1.length : Int) = 64
   ·rw [show pendOk l0.length l1[i] = true by unfold pendOk; simp <;> omega, Bool.true_and]
    exact Ev.step (fun k => by simp only [spec_ValidDisk.l0]; rw [if_pos (by omega), if_pos (by omega), er, if_neg c1, if_neg c2, if_pos c3, ew]) ih
   ·rw [show pendOk l0.length l1[i] = false by unfold pendOk; simp <;> omega, Bool.false_and]
    exact Ev.step (fun k => by simp only [spec_ValidDisk.l0]; rw [if_pos (by omega), if_pos (by omega), er, if_neg c1, if_neg c2, if_neg c3]) (Ev.now _)
theorem specValid_ev (l0 : List Int) (l1 : List S79) (a2 : Int) (a3 : Bool) (h0 : l0.length ≤ 1048576) (hL : l1.length ≤ 1048576) : Ev (fun k => spec_ValidDisk.f k l0 l1 a2 a3) (vD l0 l1 a2) := by
 have hl := specValid_loop l0 l1 a2 a3 hL l1.length 0 (by omega)
 rw [List.drop_zero] at hl
 have ht : Ev (fun k => spec_ValidDisk.j0 k ((l0.length / 64 : Nat) : Int) true l0 l1 a2 a3) false := Ev.step (fun k => by simp only [spec_ValidDisk.j0]; rw [if_true]) (Ev.now _)
 refine Ev.congr (fun k => by unfold spec_ValidDisk.f spec_l1Sectors.f; rw [sectors_at l0 h0, Option.bind_some]) ?_
 by_cases c1 : ((l0.length : Int) % 64) = 0
 ·by_cases c2 : ((l0.length / 64 : Nat) : Int) < 16
  ·rw [show vD l0 l1 a2 = false by unfold vD; simp <;> omega]
   exact Ev.congr (fun k => by rw [if_pos c1, if_pos c2]) ht
  by_cases c3 : ((l0.length / 64 : Nat) : Int) > 1024
  ·rw [show vD l0 l1 a2 = false by unfold vD; simp <;> omega]
   exact Ev.congr (fun k => by rw [if_pos c1, if_neg c2, if_pos c3]) ht
  by_cases c4 : (l1.length : Int) > 2000
  ·rw [show vD l0 l1 a2 = false by unfold vD; simp <;> omega]
   exact Ev.congr (fun k => by rw [if_pos c1, if_neg c2, if_neg c3, if_pos c4]) ht
  by_cases c5 : a2 < -1
  ·rw [show vD l0 l1 a2 = false by unfold vD; simp <;> omega]
   exact Ev.congr (fun k => by rw [if_pos c1, if_neg c2, if_neg c3, if_neg c4, if_pos c5]) ht
  by_cases c6 : a2 > 1000000
  ·rw [show vD l0 l1 a2 = false by unfold vD; simp <;> omega]
   exact Ev.congr (fun k => by rw [if_pos c1, if_neg c2, if_neg c3, if_neg c4, if_neg c5, decide_eq_true c6]) ht
  ·rw [show vD l0 l1 a2 = l1.all (pendOk l0.length) by unfold vD; rw [decide_eq_true (by omega), decide_eq_true (by omega), decide_eq_true (by omega), decide_eq_true (by omega), decide_eq_true (by omega), decide_eq_true (by omega)]; simp]
   refine Ev.congr (fun k => by rw [if_pos c1, if_neg c2, if_neg c3, if_neg c4, if_neg c5, decide_eq_false c6]) ?_
   exact Ev.step (fun k => by simp only [spec_ValidDisk.j0]; rw [if_neg (by decide)]; rfl) hl
 ·rw [show vD l0 l1 a2 = false by unfold vD; simp <;> omega]
  exact Ev.congr (fun k => by rw [if_neg c1]) ht
theorem implValid_loop (l0 : List Int) (l1 : List S79) (a2 : Int) (a3 : Bool) (h0 : l0.length ≤ 1048576) (hL : l1.length ≤ 1048576) : ∀ (d i : Nat), i + d = l1.length →
   Ev (fun k => impl_ValidDisk.l0 k l1 (l1.length : Int) (i : Int) l0 l1 a2 a3) ((l1.drop i).all (pendOk l0.length))
 | 0, i, hd => by
   rw [List.drop_of_length_le (by omega), List.all_nil]
   exact Ev.step (fun k => by simp only [impl_ValidDisk.l0]; rw [if_neg (by omega)]) (Ev.now _)
 | d + 1, i, hd => by
   have hi : i < l1.length := by omega
   have er : rd_T79 l1 (i : Int) = l1[i] := by unfold rd_T79; rw [Int.toNat_natCast, List.getD_eq_getElem?_getD, List.getElem?_eq_getElem hi]; rfl
   rw [drop_all _ _ _ hi]
   have ih := implValid_loop l0 l1 a2 a3 h0 hL d (i + 1) (by omega)
   have ew : wrap64 ((i : Int) + 1) = ((i + 1 : Nat) : Int) := by unfold wrap64; omega
   have hh : impl_Disk_has.f l0 l1 a2 a3 l1[i].f0 = some (decide (0 ≤ l1[i].f0) && decide (l1[i].f0 < ((l0.length / 64 : Nat) : Int))) := by
    unfold impl_Disk_has.f impl_Disk_sectors.f
    rw [sectors_at l0 h0]
    by_cases c : l1[i].f0 ≥ 0
    ·rw [if_pos c, decide_eq_true (show 0 ≤ l1[i].f0 from c)]; simp
    ·rw [if_neg c, decide_eq_false (show ¬ 0 ≤ l1[i].f0 from c)]; simp
   by_cases c1 : (decide (0 ≤ l1[i].f0) && decide (l1[i].f0 < ((l0.length / 64 : Nat) : Int))) = true
   ·by_cases c3 : (l1[i].f1.length : Int) = 64
    ·rw [show pendOk l0.length l1[i] = true by unfold pendOk; rw [c1, decide_eq_true (by omega)]; rfl, Bool.true_and]
     exact Ev.step (fun k => by simp only [impl_ValidDisk.l0]; rw [if_pos (by omega), if_pos (by omega), if_pos (by omega), er, hh, c1]; simp only [Option.bind_some, if_true]; rw [if_pos c3, ew]) ih
    ·rw [show pendOk l0.length l1[i] = false by unfold pendOk; rw [decide_eq_false (show ¬ l1[i].f1.length = 64 by omega)]; simp, Bool.false_and]
     exact Ev.step (fun k => by simp only [impl_ValidDisk.l0]; rw [if_pos (by omega), if_pos (by omega), if_pos (by omega), er, hh, c1]; simp only [Option.bind_some, if_true]; rw [if_neg c3]) (Ev.now _)
   ·have c1' := Bool.eq_false_iff.2 c1
    rw [show pendOk l0.length l1[i] = false by unfold pendOk; rw [c1']; rfl, Bool.false_and]
    exact Ev.step (fun k => by simp only [impl_ValidDisk.l0]; rw [if_pos (by omega), if_pos (by omega), if_pos (by omega), er, hh, c1']; simp) (Ev.now _)
theorem implValid_ev (l0 : List Int) (l1 : List S79) (a2 : Int) (a3 : Bool) (h0 : l0.length ≤ 1048576) (hL : l1.length ≤ 1048576) : Ev (fun k => impl_ValidDisk.f k l0 l1 a2 a3) (vD l0 l1 a2) := by
 have hl := implValid_loop l0 l1 a2 a3 h0 hL l1.length 0 (by omega)
 rw [List.drop_zero] at hl
 have ht0 : Ev (fun k => impl_ValidDisk.j0 k true l0 l1 a2 a3) false := Ev.step (fun k => by simp only [impl_ValidDisk.j0]; rw [if_true]) (Ev.now _)
 have ht1 : Ev (fun k => impl_ValidDisk.j1 k true l0 l1 a2 a3) false := Ev.step (fun k => by simp only [impl_ValidDisk.j1]; rw [if_true]) (Ev.now _)
 refine Ev.congr (fun k => by unfold impl_ValidDisk.f impl_Disk_sectors.f; rw [sectors_at l0 h0, Option.bind_some, Option.bind_some]) ?_
 by_cases c1 : ((l0.length : Int) % 64) = 0
 ·by_cases c2 : ((l0.length / 64 : Nat) : Int) < 16
  ·rw [show vD l0 l1 a2 = false by unfold vD; simp <;> omega]
   exact Ev.congr (fun k => by rw [if_pos c1, if_pos c2]) ht0
  by_cases c3 : ((l0.length / 64 : Nat) : Int) > 1024
  ·rw [show vD l0 l1 a2 = false by unfold vD; simp <;> omega]
   exact Ev.congr (fun k => by rw [if_pos c1, if_neg c2, decide_eq_true c3]) ht0
  refine Ev.congr (fun k => by rw [if_pos c1, if_neg c2, decide_eq_false c3]) ?_
  by_cases c4 : (l1.length : Int) > 2000
  ·rw [show vD l0 l1 a2 = false by unfold vD; simp <;> omega]
   exact Ev.step (fun k => by simp only [impl_ValidDisk.j0]; rw [if_neg (by decide), if_pos c4]) ht1
  by_cases c5 : a2 < -1
  ·rw [show vD l0 l1 a2 = false by unfold vD; simp <;> omega]
   exact Ev.step (fun k => by simp only [impl_ValidDisk.j0]; rw [if_neg (by decide), if_neg c4, if_pos c5]) ht1
  by_cases c6 : a2 > 1000000
  ·rw [show vD l0 l1 a2 = false by unfold vD; simp <;> omega]
   exact Ev.step (fun k => by simp only [impl_ValidDisk.j0]; rw [if_neg (by decide), if_neg c4, if_neg c5, decide_eq_true c6]) ht1
  ·rw [show vD l0 l1 a2 = l1.all (pendOk l0.length) by unfold vD; rw [decide_eq_true (by omega), decide_eq_true (by omega), decide_eq_true (by omega), decide_eq_true (by omega), decide_eq_true (by omega), decide_eq_true (by omega)]; simp]
   refine Ev.step (fun k => by simp only [impl_ValidDisk.j0]; rw [if_neg (by decide), if_neg c4, if_neg c5, decide_eq_false c6]) ?_
   exact Ev.step (fun k => by simp only [impl_ValidDisk.j1]; rw [if_neg (by decide)]; rfl) hl
 ·rw [show vD l0 l1 a2 = false by unfold vD; simp <;> omega]
  exact Ev.congr (fun k => by rw [if_neg c1]) ht0

/-! ### L_vD2: a text by hand -/
def inD (l0 : List Int) (s : Int) : Bool := decide (0 ≤ s) && decide (s < ((l0.length / 64 : Nat) : Int))
theorem has_eq (l0 : List Int) (l1 : List S79) (a2 : Int) (a3 : Bool) (s : Int) (h0 : l0.length ≤ 1048576) : impl_Disk_has.f l0 l1 a2 a3 s = some (inD l0 s) := by
 unfold impl_Disk_has.f impl_Disk_sectors.f inD
 rw [sectors_at l0 h0]
 by_cases c : s ≥ 0
 ·rw [if_pos c, Option.bind_some, decide_eq_true (show 0 ≤ s from c), Bool.true_and]
 ·rw [if_neg c, decide_eq_false (show ¬ 0 ≤ s from c), Bool.false_and]
theorem vD_facts {l0 : List Int} {l1 : List S79} {a2 : Int} (h : vD l0 l1 a2 = true) : l0.length % 64 = 0 ∧ 1024 ≤ l0.length ∧ l0.length ≤ 65599 ∧ l1.length ≤ 2000 ∧ -1 ≤ a2 ∧ a2 ≤ 1000000 ∧ ∀ x ∈ l1, 0 ≤ x.f0 ∧ x.f0 < ((l0.length / 64 : Nat) : Int) ∧ x.f1.length = 64 := by
 unfold vD at h
 simp only [Bool.and_eq_true, decide_eq_true_eq, List.all_eq_true] at h
 obtain ⟨⟨⟨⟨⟨⟨h1, h2⟩, h3⟩, h4⟩, h5⟩, h6⟩, h7⟩ := h
 refine ⟨h1, h2, h3, h4, h5, h6, fun x hx => ?_⟩
 have := h7 x hx
 unfold pendOk at this
 simp only [Bool.and_eq_true, decide_eq_true_eq] at this
 exact ⟨this.1.1, this.1.2, this.2⟩

/-! ### L_specRead: a text by hand -/
theorem specRead_loop (l0 : List Int) (l1 : List S79) (a2 : Int) (a3 : Bool) (s : Int) (h0 : 0 ≤ s) (h1 : s * 64 + 64 ≤ l0.length) (h2 : l0.length ≤ 65599) (h3 : l1.length ≤ 2000) (h4 : ∀ x ∈ l1, x.f1.length = 64) :
   ∀ d : Nat, d ≤ l1.length → Ev (fun k => spec_DiskRead.l0 k s ((d : Int) - 1) l0 l1 a2 a3) (rdAll s (sec l0 s) (l1.take d)) := by
 intro d
 induction d with
 | zero =>
   intro _
   have hs := sec_len l0 s h0 h1 h2
   have e1 : wrap64 (s * 64) = s * 64 := by unfold wrap64; omega
   have e2 : wrap64 (wrap64 (s + 1) * 64) = (s + 1) * 64 := by unfold wrap64; omega
   refine Ev.step (fun K => by
    simp only [spec_DiskRead.l0]
    rw [if_neg (by omega), Option.bind_some, if_pos (by omega), if_pos (by omega), if_pos (by omega)]
    refine (if_pos ?_).trans rfl
    unfold sec at hs
    rw [hs]
    decide) (Ev.now _)
 | succ d ih =>
   intro hd
   have ih' := ih (by omega)
   rw [rdAll_take _ _ _ _ (by omega)]
   have hx : (rd_T79 l1 (d : Int)).f1.length = 64 := h4 _ (by unfold rd_T79; rw [Int.toNat_natCast, List.getD_eq_getElem?_getD, List.getElem?_eq_getElem (by omega)]; exact List.getElem_mem _)
   have e3 : (((d + 1 : Nat) : Int) - 1) = (d : Int) := by omega
   rw [e3]
   by_cases c : (rd_T79 l1 (d : Int)).f0 = s
   ·rw [if_pos c]
    exact Ev.step (fun K => by
     simp only [spec_DiskRead.l0]
     rw [if_pos (by omega), if_pos (by omega), if_pos (by omega), if_pos c, Option.bind_some, if_pos (by rw [hx]; decide)]; rfl) (Ev.now _)
   ·rw [if_neg c]
    exact Ev.step (fun K => by
     simp only [spec_DiskRead.l0]
     rw [if_pos (by omega), if_pos (by omega), if_pos (by omega), if_neg c, show wrap64 ((d : Int) - 1) = (d : Int) - 1 by unfold wrap64; omega]) ih'
theorem specRead_ev (l0 : List Int) (l1 : List S79) (a2 : Int) (a3 : Bool) (s : Int) (h0 : l0.length ≤ 1048576) (hL : l1.length ≤ 1048576) : Ev (fun k => spec_DiskRead.f k l0 l1 a2 a3 s) (if (vD l0 l1 a2 && inD l0 s) = true then dRd l0 l1 s else []) := by
 have hj : Ev (fun k => spec_DiskRead.j0 k s true l0 l1 a2 a3) ([] : List Int) := Ev.step (fun K => by simp only [spec_DiskRead.j0]; rw [if_true]) (Ev.now _)
 unfold spec_DiskRead.f
 refine Ev.bind (specValid_ev l0 l1 a2 a3 h0 hL) ?_
 by_cases cv : vD l0 l1 a2 = true
 case neg =>
  have cv' : vD l0 l1 a2 = false := by simpa using cv
  rw [cv', Bool.false_and, if_neg (by decide)]
  exact Ev.congr (fun K => by rw [if_neg (by decide)]) hj
 rw [cv, Bool.true_and]
 refine Ev.congr (fun K => by rw [if_pos rfl]) ?_
 obtain ⟨f1, f2, f3, f4, f5, f6, f7⟩ := vD_facts cv
 by_cases c : s < 0
 ·rw [show inD l0 s = false by unfold inD; simp <;> omega, if_neg (by decide)]
  exact Ev.congr (fun K => by rw [if_pos c]) hj
 have hsec : spec_l1Sectors.f l0 l1 a2 a3 = some ((l0.length / 64 : Nat) : Int) := by unfold spec_l1Sectors.f; rw [sectors_at l0 h0]
 refine Ev.congr (fun K => by rw [if_neg c, hsec, Option.bind_some]) ?_
 by_cases c2 : s ≥ ((l0.length / 64 : Nat) : Int)
 ·rw [show inD l0 s = false by unfold inD; simp <;> omega, if_neg (by decide)]
  exact Ev.congr (fun K => by rw [decide_eq_true c2]) hj
 ·rw [show inD l0 s = true by unfold inD; simp <;> omega, if_pos rfl]
  have h := specRead_loop l0 l1 a2 a3 s (by omega) (by omega) f3 f4 (fun x hx => (f7 x hx).2.2) l1.length (Nat.le_refl _)
  rw [List.take_length] at h
  refine Ev.congr (fun K => by rw [decide_eq_false c2]) (Ev.step (fun K => by simp only [spec_DiskRead.j0]; rw [if_neg (by decide), show wrap64 ((l1.length : Int) - 1) = (l1.length : Int) - 1 by unfold wrap64; omega]) h)

/-! ### L_put4: a text by hand -/
def put4 (x : Int) : List Int := [x % 256, x / 256 % 256, x / 256 / 256 % 256, x / 256 / 256 / 256 % 256]
theorem put_step (k : Nat) (x : Int) (l : List Int) (i : Int) (h0 : 0 ≤ i) (hi : i < 4) (hl : l.length < 100) (hx : 0 ≤ x) (hx2 : x < 4294967296) :
  spec_l2Put.l0 (k + 1) x 4 l i = spec_l2Put.l0 k (x / 256) 4 (l ++ [x % 256]) (i + 1) := by
 rw [spec_l2Put.l0, if_pos hi, if_pos (by omega), Int.tdiv_eq_ediv_of_nonneg hx, Int.tmod_eq_emod_of_nonneg hx]
 rw [show wrap64 (x / 256) = x / 256 from by unfold wrap64; omega, show wrap64 (i + 1) = i + 1 from by unfold wrap64; omega, show x % 256 % 256 = x % 256 from by omega]
theorem iput_step (k : Nat) (xs : List Int) (p x : Int) (i n : Nat) (hi : i < 4) (hp : 0 ≤ p) (hpl : p + i < xs.length) (hxl : xs.length < 1000) (hn : (p + i).toNat = n) :
  impl_put.l0 (k + 1) xs p x 4 i = impl_put.l0 k (xs.set n (x / 2 ^ (8 * i) % 256)) p x 4 ((i + 1 : Nat) : Int) := by
 have e1 : wrap64 (8 * (i : Int)) = ((8 * i : Nat) : Int) := by unfold wrap64; omega
 have e2 : wrap64 (p + (i : Int)) = p + i := by unfold wrap64; omega
 have e3 : wrap64 ((i : Int) + 1) = ((i + 1 : Nat) : Int) := by unfold wrap64; omega
 have e4 : shr IntKind.i64 x ((8 * i : Nat) : Int) = x / 2 ^ (8 * i) := by
  show x / 2 ^ min (((8 * i : Nat) : Int)).toNat 64 = _
  rw [Int.toNat_natCast, Nat.min_eq_left (by omega)]
 rw [impl_put.l0, if_pos (by omega), e1, if_pos (by omega), e2, if_pos (by omega), if_pos (by omega), e3, e4, hn]
theorem impl_put4 (xs : List Int) (p x : Int) (n : Nat) (hp : 0 ≤ p) (hn : p.toNat = n) (hpl : p + 4 ≤ xs.length) (hxl : xs.length < 1000) (hx : 0 ≤ x) (hx2 : x < 4294967296) :
  impl_put.f 5 xs p 4 x = some ((((xs.set n (x % 256)).set (n + 1) (x / 256 % 256)).set (n + 2) (x / 256 / 256 % 256)).set (n + 3) (x / 256 / 256 / 256 % 256)) := by
 unfold impl_put.f
 rw [show (0 : Int) = ((0 : Nat) : Int) from rfl, iput_step 4 xs p x 0 n (by decide) hp (by omega) hxl (by omega), iput_step 3 _ p x 1 (n + 1) (by decide) hp (by simp; omega) (by simpa using hxl) (by omega), iput_step 2 _ p x 2 (n + 2) (by decide) hp (by simp; omega) (by simpa using hxl) (by omega), iput_step 1 _ p x 3 (n + 3) (by decide) hp (by simp; omega) (by simpa using hxl) (by omega), impl_put.l0, if_neg (by decide)]
 rw [show x / 2 ^ (8 * 0) = x from by simp, show x / 2 ^ (8 * 1) = x / 256 from by rw [show (2 : Int) ^ (8 * 1) = 256 from rfl], show x / 2 ^ (8 * 2) = x / 256 / 256 from by rw [show (2 : Int) ^ (8 * 2) = 65536 from rfl]; omega, show x / 2 ^ (8 * 3) = x / 256 / 256 / 256 from by rw [show (2 : Int) ^ (8 * 3) = 16777216 from rfl]; omega]
theorem crc_bd (k : Nat) (l : List Int) (c : Int) (hl : l.length ≤ 9223372036854775807) (h : spec_Crc32.f k l = some c) : 0 ≤ c ∧ c < 4294967296 := by
 rw [(crcSpec l c hl k).1 _ 0 h (by omega) rfl]
 have h0 := bits_lo_u32 .xor (crcT l l.length) 4294967295
 have h1 := bits_hi_u32 .xor (crcT l l.length) 4294967295
 exact ⟨h0, by omega⟩

/-! ### L_putEv: a text by hand -/
theorem put_ev (x : Int) (hx : 0 ≤ x) (hx2 : x < 4294967296) : Ev (fun k => spec_l2Put.f k x 4) (put4 x) := by
 refine Ev.of (fun k => spec_l2Put.mono _ _ k) (k := 5) ?_
 unfold spec_l2Put.f
 have hx' : 0 ≤ x / 256 ∧ x / 256 < 4294967296 := by omega
 have hx'' : 0 ≤ x / 256 / 256 ∧ x / 256 / 256 < 4294967296 := by omega
 have hx3 : 0 ≤ x / 256 / 256 / 256 ∧ x / 256 / 256 / 256 < 4294967296 := by omega
 rw [put_step _ _ _ _ (by decide) (by decide) (by simp) hx hx2, put_step _ _ _ _ (by decide) (by decide) (by simp) hx'.1 hx'.2, put_step _ _ _ _ (by decide) (by decide) (by simp) hx''.1 hx''.2, put_step _ _ _ _ (by decide) (by decide) (by simp) hx3.1 hx3.2, spec_l2Put.l0, if_neg (by decide)]
 rfl
theorem cat_ev (ls : List (List Int)) (hl : ls.length < 1000) (hb : ∀ x ∈ ls, x.length ≤ 100) : ∀ (m i : Nat) (acc : List Int), i + m = ls.length → acc.length ≤ 100 * i → Ev (fun k => spec_l2Cat.l0 k ls acc i) (acc ++ (ls.drop i).flatten)
 | 0, i, acc, hi, ha => by
   have e : ls.drop i = [] := List.drop_of_length_le (by omega)
   rw [e]
   refine Ev.step (f := fun _ => some (acc ++ [].flatten)) (fun K => ?_) (Ev.now _)
   rw [spec_l2Cat.l0, if_neg (by omega)]
   simp
 | m + 1, i, acc, hi, ha => by
   have hlt : i < ls.length := by omega
   have e : rd_L2 ls i = ls[i] := by simp [rd_L2, hlt]
   have hx := hb ls[i] (List.getElem_mem hlt)
   have ih := cat_ev ls hl hb m (i + 1) (acc ++ ls[i]) (by omega) (by rw [List.length_append]; omega)
   rw [List.drop_eq_getElem_cons hlt, List.flatten_cons, ← List.append_assoc]
   refine Ev.step (fun K => ?_) ih
   rw [spec_l2Cat.l0, if_pos (by omega), if_pos (by omega), e, if_pos (by omega), show wrap64 ((i : Int) + 1) = ((i + 1 : Nat) : Int) from by unfold wrap64; omega]
theorem cat_evf (ls : List (List Int)) (hl : ls.length < 1000) (hb : ∀ x ∈ ls, x.length ≤ 100) : Ev (fun k => spec_l2Cat.f k ls) ls.flatten := by
 have : Ev (fun k => spec_l2Cat.l0 k ls [] 0) ls.flatten := by simpa using cat_ev ls hl hb ls.length 0 [] (by omega) (by simp)
 exact this
theorem crc_l1_ev (l : List Int) (i : Nat) (hi : i < 4611686018427387904) (next : ∀ x, ∃ r, Ev (fun k => spec_Crc32.l0 k l x ((i + 1 : Nat) : Int)) r) : ∀ (m j : Nat), j + m = 8 → ∀ x, ∃ r, Ev (fun k => spec_Crc32.l1 k l x i j) r
 | 0, j, hj, x => by
   obtain ⟨r, hr⟩ := next x
   exact ⟨r, Ev.step (fun K => by rw [spec_Crc32.l1, if_neg (by omega), show wrap64 ((i : Int) + 1) = ((i + 1 : Nat) : Int) from by unfold wrap64; omega]) hr⟩
 | m + 1, j, hj, x => by
   have ew : wrap64 ((j : Int) + 1) = ((j + 1 : Nat) : Int) := by unfold wrap64; omega
   by_cases c : Int.tmod x 2 = 1
   ·obtain ⟨r, hr⟩ := crc_l1_ev l i hi next m (j + 1) (by omega) (Go.bits .xor .u32 ((Int.tdiv x 2) % 4294967296) 3988292384)
    exact ⟨r, Ev.step (fun K => by rw [spec_Crc32.l1, if_pos (by omega), if_pos c, ew]) hr⟩
   ·obtain ⟨r, hr⟩ := crc_l1_ev l i hi next m (j + 1) (by omega) ((Int.tdiv x 2) % 4294967296)
    exact ⟨r, Ev.step (fun K => by rw [spec_Crc32.l1, if_pos (by omega), if_neg c, ew]) hr⟩
theorem crc_l0_ev (l : List Int) (hl : l.length < 4611686018427387904) : ∀ (m i : Nat), i + m = l.length → ∀ x, ∃ r, Ev (fun k => spec_Crc32.l0 k l x i) r
 | 0, i, hi, x => ⟨_, Ev.step (f := fun _ => some (Go.bits .xor .u32 x 4294967295)) (fun K => by rw [spec_Crc32.l0, if_neg (by omega)]) (Ev.now _)⟩
 | m + 1, i, hi, x => by
   obtain ⟨r, hr⟩ := crc_l1_ev l i (by omega) (fun y => crc_l0_ev l hl m (i + 1) (by omega) y) 8 0 rfl (Go.bits .xor .u32 x ((rd l i) % 4294967296))
   exact ⟨r, Ev.step (fun K => by rw [spec_Crc32.l0, if_pos (by omega), if_pos (by omega)]; rfl) hr⟩
theorem crc_ev (l : List Int) (hl : l.length < 4611686018427387904) : ∃ r, Ev (fun k => spec_Crc32.f k l) r := crc_l0_ev l hl l.length 0 (by omega) 4294967295

/-! ### impl_get: function 71 -/
def impl_get.l0 : Nat → List Int → Int → Int → Int → Option (Int)
 | 0, _, _, _, _ => none
 | k + 1, x0, x1, x7, x8 => if x8 ≥ 0 then (if 0 ≤ (wrap64 (x1 + x8)) then (if (wrap64 (x1 + x8)) < (x0.length : Int) then (impl_get.l0 k x0 x1 (Go.bits .or .i64 (wrap64 (x7 * 256)) (wrap64 (rd x0 (wrap64 (x1 + x8))))) (wrap64 (x8 - 1))) else (none)) else (none)) else (some x7)
def impl_get.f (k : Nat) (l0 : List Int) (a1 : Int) (a2 : Int) : Option (Int) := impl_get.l0 k l0 a1 0 (wrap64 (a2 - 1))
set_option maxHeartbeats 8000000 in
set_option maxRecDepth 100000 in
theorem impl_get.calls (k : Nat) (A0 : Option Addr) (c0 : Nat) (l0 : List Int) (a1 : Int) (a2 : Int) (r : Int) (w : World) (hr0 : Kd.C (Kd.int .u8) w A0 l0.length l0) (hc0 : l0.length ≤ c0) (h : impl_get.f k l0 a1 a2 = some r) :
  Calls Try.prog 71 #[.slice A0 l0.length c0, .int .i64 a1, .int .i64 a2] w fun e w' => e = .returned (.int .i64 r) ∧ Drawn0 w w' := by
 have HR0 := Aside0.mk hr0
 have HC0 := Aside0.mk hc0
 clear hr0 hc0
 have H : (impl_get.l0 k l0 a1 0 (wrap64 (a2 - 1))) = some r := h
 clear h
 have H' := Aside0.mk H
 clear H
 go_enter Try.func71, Try.ntmps71
 go_wp2
 go_loopg [7, 8] k (fun kq v7 v8 w' => ∃ (x7_1 : Int) (x8_1 : Int), v7 = .int .i64 x7_1 ∧ v8 = .int .i64 x8_1 ∧ Aside0 (impl_get.l0 kq l0 a1 x7_1 x8_1 = some r) ∧ Aside0 (kq ≤ k) ∧ Drawn0 w w')
 case atStart => exact ⟨(0), (wrap64 (a2 - 1)), (by first | rfl | (simp; done) | (simp [*]; done)), (by first | rfl | (simp; done) | (simp [*]; done)), H', ⟨Nat.le_refl _⟩, by repeat (first | exact Drawn0.refl _ | apply Drawn0.step)⟩
 case round =>
  clear H'
  try clear p2
  obtain ⟨x7_1, x8_1, rfl, rfl, HA, HK1, ⟨m1, rfl⟩⟩ := hrel
  cases gk with
  | zero => exact absurd HA.out (by simp [impl_get.l0])
  | succ k1 =>
    have H := HA.out
    clear HA
    simp only [impl_get.l0] at H
    by_cases c4 : x8_1 ≥ 0
    ·rw [if_pos c4] at H
     have c4b0 : decide (0 ≤ x8_1) = true := decide_eq_true c4
     clear c4
     obtain ⟨ji5, hji5⟩ : ∃ j_ : Int, (wrap64 (a1 + x8_1)) = j_ := ⟨_, rfl⟩
     replace H : (if 0 ≤ (ji5) then (if (ji5) < (l0.length : Int) then (impl_get.l0 k1 l0 a1 (Go.bits .or .i64 (wrap64 (x7_1 * 256)) (wrap64 (rd l0 (ji5)))) (wrap64 (x8_1 - 1))) else (none)) else (none)) = some r := by first | (rw [hji5] at H; exact H) | (simp only [hji5] at H ⊢; exact H)
     have hji5w : (IntKind.i64.wrap (a1 + x8_1)) = ji5 := (i64_w _).trans hji5
     by_cases c6 : 0 ≤ (ji5)
     ·rw [if_pos c6] at H
      have c6b0 : decide (0 ≤ (ji5)) = true := decide_eq_true c6
      clear c6
      by_cases c7 : (ji5) < (l0.length : Int)
      ·rw [if_pos c7] at H
       have c7b0 : decide ((ji5) < (l0.length : Int)) = true := decide_eq_true c7
       clear c7
       have H' := Aside0.mk H
       clear H
       have p1081 : 0 ≤ ((ji5) : Int) := of_decide_eq_true (by first | (with_reducible assumption) | assumption)
       have q1081 : (ji5) < (l0.length : Int) := of_decide_eq_true (by first | (with_reducible assumption) | assumption)
       obtain ⟨ad1081, e1081, hx1081_0⟩ := Kd.at_int HR0.out (ji5) p1081 q1081
       cases e1081
       replace p1081 := eq_true p1081
       replace q1081 := eq_true q1081
       go_wp2
       go_roundg k1
       case measure => have := HK1.out; omega
       case rel => exact ⟨(Go.bits .or .i64 (wrap64 (x7_1 * 256)) (wrap64 (rd l0 (ji5)))), (wrap64 (x8_1 - 1)), (by first | rfl | (simp; done) | (simp only [← hji5] <;> (first | rfl | simp)) | (simp [*]; done)), (by first | rfl | (simp; done) | (simp [*]; done)), H', ⟨by have := HK1.out; omega⟩, by repeat (first | exact Drawn0.refl _ | apply Drawn0.step)⟩
      ·rw [if_neg c7] at H
       exact absurd H (by simp)
     ·rw [if_neg c6] at H
      exact absurd H (by simp)
    ·rw [if_neg c4] at H
     have c4b0 : decide (0 ≤ x8_1) = false := decide_eq_false c4
     clear c4
     obtain rfl := Option.some.inj H
     go_wp2
     go_ret
     exact ⟨by first | rfl | (simp; done) | (simp [*]; done), by repeat (first | exact Drawn0.refl _ | apply Drawn0.step)⟩

/-! ### L_eqArr: a text by hand -/
-- import Derived.Laws.StructEq
theorem part_byte {w : World} (xs : List Int) (i : Nat) (x : Int) (hx : xs[i]? = some x) : (part 5 (xs.map (Value.int .u8)).toArray i).run Try.prog w = .ok (.int .u8 x) w := by
 have hag : (isAgg 5).run Try.prog w = .ok false w := by kernel_rfl
 unfold part
 simp [hag, hx]
theorem run_equal_arr (len : Nat) (d : Nat) (t : TypeId) (ht : Try.prog.underlying t = some (.array len 5)) (xs ys : List Int) (hx : xs.length = len) (hy : ys.length = len) (w : World) :
  (Op.equalIn (d + 2) t (.agg (xs.map (Value.int .u8)).toArray) (.agg (ys.map (Value.int .u8)).toArray)).run Try.prog w = .ok (xs == ys) w := by
 have hsz : (sizeOf 5).run Try.prog w = .ok 1 w := by kernel_rfl
 rw [Op.equalIn]
 simp only [Sem.run_bind, run_underlying ht, Result.andThen_ok, hsz]
 simp only [Std.Legacy.Range.forIn_eq_forIn_range', Std.Legacy.Range.size, Nat.sub_zero, Nat.add_one_sub_one, Nat.div_one]
 have key : ∀ (n s : Nat), s + n = len → Sem.run Try.prog (forIn (List.range' s n) ((none : Option Bool), ()) fun i __s => do
      let __do_lift ← part 5 (List.map (Value.int IntKind.u8) xs).toArray (i * 1)
      let __do_lift_1 ← part 5 (List.map (Value.int IntKind.u8) ys).toArray (i * 1)
      let __do_lift ← Op.equalIn (d + 1) 5 __do_lift __do_lift_1
      if (!__do_lift) = true then pure (ForInStep.done (some false, ())) else pure (ForInStep.yield (none, ()))) w = .ok ((if xs.drop s = ys.drop s then none else some false), ()) w := by
  intro n
  induction n with
  | zero =>
    intro s hs
    have e1 : xs.drop s = [] := List.drop_eq_nil_of_le (by omega)
    have e2 : ys.drop s = [] := List.drop_eq_nil_of_le (by omega)
    rw [e1, e2, if_pos rfl]
    simp
  | succ n ih =>
    intro s hs
    have hsx : s < xs.length := by omega
    have hsy : s < ys.length := by omega
    have px := part_byte (w := w) xs s _ (List.getElem?_eq_getElem hsx)
    have py := part_byte (w := w) ys s _ (List.getElem?_eq_getElem hsy)
    rw [List.drop_eq_getElem_cons hsx, List.drop_eq_getElem_cons hsy, List.range'_succ, List.forIn_cons]
    simp only [Sem.run_bind, Nat.mul_one, px, py, Result.andThen_ok, run_equalIn_int w d 5 .u8 .u8 _ _ Try.underlying5]
    by_cases he : xs[s] = ys[s]
    ·have := ih (s + 1) (by omega)
     simp only [Nat.mul_one] at this
     rw [beq_iff_eq.2 he]
     simp only [Bool.not_true, Bool.false_eq_true, if_false, Sem.run_pure, Result.andThen_ok]
     rw [this]
     simp only [he, List.cons.injEq, true_and]
    ·rw [beq_eq_false_iff_ne.2 he, if_neg (fun h => he (List.cons.inj h).1)]
     simp
 rw [key len 0 (by omega)]
 simp only [List.drop_zero, Result.andThen_ok]
 by_cases he : xs = ys
 ·rw [if_pos he, beq_iff_eq.2 he]
  simp
 ·rw [if_neg he, beq_eq_false_iff_ne.2 he]
  simp
theorem run_neq_sector (xs ys : List Int) (hx : xs.length = 64) (hy : ys.length = 64) (w : World) :
  (binOp .neq 84 (.agg (xs.map (Value.int .u8)).toArray) (.agg (ys.map (Value.int .u8)).toArray)).run Try.prog w = .ok (.bool (xs != ys)) w := by
 rw [run_neq_struct, run_equal_arr 64 9998 84 (by kernel_rfl) xs ys hx hy w]
 rfl

/-! ### impl_Disk_read2: a text by hand -/
set_option maxHeartbeats 4000000 in
set_option maxRecDepth 100000 in
theorem impl_Disk_read.calls (A0 : Option Addr) (c0 : Nat) (l0 : List Int) (A1 : Option Addr) (c1 : Nat) (l1 : List S79) (a2 : Int) (a3 : Bool) (s : Int) (w : World) (hr0 : Kd.C (Kd.int .u8) w A0 l0.length l0) (hc0 : l0.length ≤ c0) (hr1 : Kd.C k79 w A1 l1.length l1) (hc1 : l1.length ≤ c1)
  (h0 : 0 ≤ s) (h1 : s * 64 + 64 ≤ l0.length) (h2 : l0.length ≤ 65599) (h3 : l1.length ≤ 2000) (h4 : ∀ x ∈ l1, x.f1.length = 64) :
  Calls Try.prog 55 #[.agg #[.slice A0 l0.length c0, .slice A1 l1.length c1, .int .i64 a2, .bool a3], .int .i64 s] w fun e w' => e = .returned (.agg ((dRd l0 l1 s).map (Value.int .u8)).toArray) ∧ Below w.heap.size w w' := by
 have HR0 := Aside0.mk hr0
 have HC0 := Aside0.mk hc0
 have HR1 := Aside0.mk hr1
 have HC1 := Aside0.mk hc1
 have HP := Aside0.mk h4
 clear hr0 hc0 hr1 hc1 h4
 have hu25 := Try.underlying25
 have hu79 := Try.underlying79
 have e1 : wrap64 (s * 64) = s * 64 := by unfold wrap64; omega
 have e2 : wrap64 (s + 1) = s + 1 := by unfold wrap64; omega
 have e3 : wrap64 ((s + 1) * 64) = (s + 1) * 64 := by unfold wrap64; omega
 have HB := Aside0.mk (Below.refl w.heap.size w)
 have e4 : ¬ c0 = (s * 64).toNat := by have := HC0.out; omega
 have e5 : (s + 1) * 64 ≤ (c0 : Int) := by have := HC0.out; omega
 have e6 : 0 ≤ (s + 1) * 64 := by omega
 have e7 : 0 ≤ s * 64 := by omega
 have e8 : s * 64 ≤ (s + 1) * 64 := by omega
 have e9 : ((s + 1) * 64).toNat - (s * 64).toNat = 64 := by omega
 have e10 : (s * 64 ≤ (((s + 1) * 64).toNat : Int)) := by omega
 go_enter Try.func55, Try.ntmps55
 go_wp2_with fail
 clear e1 e2 e3 e5 e6 e7 e8 e10
 go_loopg [5, 19] l1.length (fun kq v5 v19 w' => ∃ (i cb : Nat) (B : Option Addr), v19 = .int .i64 i ∧ v5 = .slice B 64 cb ∧ Aside0 (64 ≤ cb ∧ i ≤ l1.length ∧ kq = l1.length - i) ∧ Aside0 (Kd.C (Kd.int .u8) w' B 64 (rdAll s (sec l0 s) (l1.take i))) ∧ Aside0 (∃ Z : Array Value, Z.size = 64 ∧ w'.heap[w.heap.size + 1]? = some (.cells Z 84 (0, 0))) ∧ Aside0 (Below w.heap.size w w'))
 case atStart =>
  have hm := Kd.C_mid (lo := (s * 64).toNat) (hi := ((s + 1) * 64).toNat) HR0.out (by omega) (by omega) HC0.out
  rw [if_neg e4] at hm
  refine ⟨0, _, _, rfl, rfl, ⟨by have := HC0.out; omega, by omega, rfl⟩, ⟨?_⟩, ⟨⟨_, by rfl, blk_new2 w _ _⟩⟩, ⟨below_alloc (below_alloc HB.out _) _⟩⟩
  refine Kd.C_alloc (Kd.C_alloc ?_ _) _
  have hl : ((l0.take ((s + 1) * 64).toNat).drop (s * 64).toNat).length = 64 := by simp; omega
  rw [hl] at hm
  show Kd.C _ _ _ _ (sec l0 s)
  unfold sec
  rw [show wrap64 (s * 64) = s * 64 by unfold wrap64; omega, show wrap64 (s + 1) = s + 1 by unfold wrap64; omega, show wrap64 ((s + 1) * 64) = (s + 1) * 64 by unfold wrap64; omega]
  rw [show (s * 64).toNat * (Kd.int .u8).sz = (s * 64).toNat from Nat.mul_one _] at hm
  exact hm
 case round =>
  obtain ⟨i, cb, B, rfl, rfl, HI, HC, HZ, HB⟩ := hrel
  by_cases ci : (i : Int) < (l1.length : Int)
  · obtain ⟨ad, A1', c1', e_, hx0, hx1, hl, hC⟩ := at_T79 (Kd.C_below HR1.out HB.out) (i : Int) (by omega) (by omega)
    cases e_
    rw [Int.toNat_natCast] at hx0 hx1
    have hC := Aside0.mk hC
    have hl := Aside0.mk hl
    have hT := rdAll_take s (sec l0 s) l1 i (by omega)
    have hT := Aside0.mk hT
    have hF : (rd_T79 l1 (i : Int)).f1.length = 64 := HP.out _ (by unfold rd_T79; rw [Int.toNat_natCast, List.getD_eq_getElem?_getD, List.getElem?_eq_getElem (by omega)]; exact List.getElem_mem _)
    rw [hF] at hx1
    have hF := Aside0.mk hF
    generalize hp : rd_T79 l1 (i : Int) = p at *
    clear hp
    by_cases cf : p.f0 = s
    ·have cb : (p.f0 == s) = true := beq_iff_eq.2 cf
     have cf := Aside0.mk cf
     go_wp2_with fail
     go_roundg (l1.length - (i + 1))
     case measure => have := HI.out; omega
     case rel => exact ⟨i + 1, c1', A1', by first | rfl | simp, rfl, ⟨by have := hl.out; have := hF.out; omega, by omega, rfl⟩, ⟨by rw [hT.out, if_pos cf.out]; have h := hC.out; rw [hF.out] at h; exact Kd.C_alloc h _⟩, ⟨by obtain ⟨Z, h1, h2⟩ := HZ.out; exact ⟨Z, h1, blk_alloc h2 _⟩⟩, ⟨below_alloc HB.out _⟩⟩
    ·have cb : (p.f0 == s) = false := beq_eq_false_iff_ne.2 cf
     have cf := Aside0.mk cf
     go_wp2_with fail
     go_roundg (l1.length - (i + 1))
     case measure => have := HI.out; omega
     case rel => exact ⟨i + 1, _, B, by first | rfl | simp, rfl, ⟨by have := HI.out; omega, by omega, rfl⟩, ⟨by rw [hT.out, if_neg cf.out]; exact Kd.C_alloc HC.out _⟩, ⟨by obtain ⟨Z, h1, h2⟩ := HZ.out; exact ⟨Z, h1, blk_alloc h2 _⟩⟩, ⟨below_alloc HB.out _⟩⟩
  · obtain ⟨ad, rfl, hcs⟩ := C_cells HC.out (by omega)
    have hcs := Aside0.mk hcs
    have har : ∀ W, (Instr.arrayAt 84 (.slice (some ad) 64 cb)).run Try.prog W = .ok (.pointer (some ad)) W := fun W => arr_at _ 5 64 _ _ _ (by kernel_rfl) (by omega) W
    have hN : (rdAll s (sec l0 s) (l1.take i)).length = 64 := HC.out.1
    have hld : (Instr.loadAt 84 (.pointer (some ad))).run Try.prog wr = .ok (.agg ((rdAll s (sec l0 s) (l1.take i)).map (Value.int .u8)).toArray) wr := load_arr wr ad _ _ 64 5 hcs.out (by kernel_rfl) (by rw [List.length_map, hN]; kernel_rfl)
    obtain ⟨Z, hz, hZ⟩ := HZ.out
    have hst := store_arr (P := Try.prog) wr (w.heap.size + 1) 84 84 Z ((rdAll s (sec l0 s) (l1.take i)).map (Value.int .u8)).toArray hZ (by rw [List.size_toArray, List.length_map, hN]; kernel_rfl) (by rw [hz, List.size_toArray, List.length_map, hN]) (by simp [Value.oneCell'])
    have hZ := Aside0.mk hZ
    have hz := Aside0.mk hz
    have hN := Aside0.mk hN
    have hld := Aside0.mk hld
    have hst := Aside0.mk hst
    clear HZ
    go_wp2_with (first | ((with_reducible refine gate_dst (N := 32) rfl ?_); refine Kd.event_run rfl (exec_load _ _ rfl rfl hld.out) ?_) | ((with_reducible refine gate_store (t := 84) (p := 4) rfl ?_); refine store_event rfl rfl rfl (exec_store _ _ _ rfl rfl rfl hst.out) ?_; intro w2 hw2; have hw2 := Aside0.mk hw2))
    have hi : l1.take i = l1 := List.take_of_length_le (by omega)
    refine bodyPost_ret (results_cell_row rfl _ _ (w.heap.size + 1) 84 ((rdAll s (sec l0 s) (l1.take i)).map (Value.int .u8)).toArray (0, 0) _ rfl (setRow_heap _ _ _ _ _ _ hZ.out) Try.underlying84 rfl (by rw [List.size_toArray, List.length_map, hN.out]; kernel_rfl)) rfl ⟨by rw [hi]; rfl, below_row HB.out (by omega) _⟩

/-! ### yL_get: a text by hand -/
def byteL (l : List Int) : Prop := ∀ y ∈ l, 0 ≤ y ∧ y < 256
theorem rdAll_bytes (s : Int) (l : List S79) (h : ∀ p ∈ l, byteL p.f1) : ∀ b : List Int, byteL b → byteL (rdAll s b l) := by
 induction l with
 | nil => intro b hb; exact hb
 | cons x xs ih =>
   intro b hb
   refine ih (fun y hy => h y (List.mem_cons_of_mem _ hy)) _ ?_
   show byteL (if x.f0 = s then x.f1 else b)
   split
   ·exact h x List.mem_cons_self
   ·exact hb
theorem dRd_bytes (l0 : List Int) (l1 : List S79) (s : Int) (h0 : byteL l0) (h : ∀ p ∈ l1, byteL p.f1) : byteL (dRd l0 l1 s) :=
 rdAll_bytes s l1 h _ (fun y hy => h0 y (List.mem_of_mem_take (List.mem_of_mem_drop hy)))
theorem sget_step (k : Nat) (l : List Int) (x b : Int) (i : Nat) (hi : i < l.length) (hl : l.length < 1000) (hb : rd l (i : Int) = b) (h0 : 0 ≤ x) (h1 : x < 72057594037927936 / 4) (h2 : 0 ≤ b) (h3 : b < 256) :
  spec_l2Get.l0 (k + 1) l x (i : Int) = spec_l2Get.l0 k l (256 * x + b) ((i : Int) - 1) := by
 rw [spec_l2Get.l0, if_pos (by omega), if_pos (by omega), if_pos (by omega), hb]
 rw [show wrap64 (wrap64 (256 * x) + wrap64 b) = 256 * x + b by unfold wrap64; omega, show wrap64 ((i : Int) - 1) = (i : Int) - 1 by unfold wrap64; omega]
theorem sget_end (k : Nat) (l : List Int) (x : Int) : spec_l2Get.l0 (k + 1) l x (-1) = some x := by
 rw [spec_l2Get.l0, if_neg (by omega)]
theorem or_byte (x b : Int) (h0 : 0 ≤ x) (h1 : x < 4294967296) (h2 : 0 ≤ b) (h3 : b < 256) : Go.bits .or .i64 (wrap64 (x * 256)) (wrap64 b) = wrap64 (256 * x + b) := by
 rw [show wrap64 (x * 256) = x * 256 by unfold wrap64; omega, show wrap64 b = b by unfold wrap64; omega, show wrap64 (256 * x + b) = x * 256 + b by unfold wrap64; omega]
 exact bits_join .i64 63 (by decide) (fun n h0 h1 => by rw [IntKind.wrap_i64]; omega) 8 (x * 256) b (by omega) (by omega) (by omega) h2 (by omega) (by omega)
theorem iget_step (k : Nat) (l : List Int) (p x b : Int) (i : Nat) (hp : 0 ≤ p) (hi : p + i < l.length) (hl : l.length < 1000) (hb : rd l (p + i) = b) (h0 : 0 ≤ x) (h1 : x < 4294967296) (h2 : 0 ≤ b) (h3 : b < 256) :
  impl_get.l0 (k + 1) l p x (i : Int) = impl_get.l0 k l p (256 * x + b) ((i : Int) - 1) := by
 rw [impl_get.l0, if_pos (by omega), show wrap64 (p + (i : Int)) = p + i by unfold wrap64; omega, if_pos (by omega), if_pos (by omega), hb, or_byte x b h0 h1 h2 h3]
 rw [show wrap64 (256 * x + b) = 256 * x + b by unfold wrap64; omega, show wrap64 ((i : Int) - 1) = (i : Int) - 1 by unfold wrap64; omega]
theorem rd_nat (t : List Int) (i : Nat) (hi : i < t.length) : rd t (i : Int) = t[i] := by
 simp [rd, List.getD_eq_getElem?_getD, List.getElem?_eq_getElem hi]
theorem str_inj (xs ys : List Int) (hx : byteL xs) (hy : byteL ys) (h : (strOfNums xs).toList = (strOfNums ys).toList) : xs = ys := by
 rw [ByteArray.toList_eq, ByteArray.toList_eq] at h
 rw [strOfNums_data, strOfNums_data] at h
 induction xs generalizing ys with
 | nil => cases ys with
   | nil => rfl
   | cons y ys => simp at h
 | cons x xs ih =>
   cases ys with
   | nil => simp at h
   | cons y ys =>
     simp only [List.map_cons, List.cons.injEq] at h
     have h1 := hx x (by simp)
     have h2 := hy y (by simp)
     have e : x = y := by
      have := congrArg UInt8.toNat h.1
      simp at this
      omega
     rw [e, ih ys (fun z hz => hx z (List.mem_cons_of_mem _ hz)) (fun z hz => hy z (List.mem_cons_of_mem _ hz)) h.2]

/-! ### laws_markByteS: function 39 -/
def laws_markByteS.l0 : Nat → List Int → Int → Int → Option (Int × List Int)
 | 0, _, _, _ => none
 | k + 1, x0, x1, x5 => if x5 < (x0.length : Int) then (if 0 ≤ x5 then (laws_markByteS.l0 k (x0.set (x5 : Int).toNat ((x1) % 256)) (wrap64 (x1 + 1)) (wrap64 (x5 + 1))) else (none)) else (some (x1, x0))
def laws_markByteS.f (k : Nat) (l0 : List Int) (a1 : Int) : Option (Int × List Int) := laws_markByteS.l0 k l0 a1 0
set_option maxHeartbeats 8000000 in
set_option maxRecDepth 100000 in
theorem laws_markByteS.calls (k : Nat) (P0_ : Nat → Prop) (u9000_ : Value) (l0 : List Int) (a1 : Int) (r1 : Int) (r2 : List Int) (w0 w : World) (hB : Below w0.heap.size w0 w) (ho0 : Kd.R (Kd.int .u8) 5 w w0.heap.size P0_ u9000_ l0) (h : laws_markByteS.f k l0 a1 = some (r1, r2)) :
  Calls Try.prog 39 #[u9000_, .int .i64 a1] w fun e w' => e = .returned (.int .i64 r1) ∧ Kd.R (Kd.int .u8) 5 w' w0.heap.size (fun k_ => (P0_ k_ ∨ w.heap.size ≤ k_)) u9000_ r2 ∧ Below w0.heap.size w0 w' ∧ Kept w w' (fun k_ => P0_ k_) := by
 have HO0 := Aside0.mk (show Kd.R (Kd.int .u8) 5 w w0.heap.size (fun k_ => (P0_ k_ ∨ w.heap.size ≤ k_)) u9000_ l0 from Kd.R_mono ho0 (fun k_ hk => (.inl hk)))
 have HK := Aside0.mk (Kept.refl w (fun k_ => P0_ k_))
 have HW0 := Aside0.mk hB.size
 have HB := Aside0.mk hB
 clear hB
 have H : (laws_markByteS.l0 k l0 a1 0) = some (r1, r2) := h
 clear h
 have H' := Aside0.mk H
 clear H
 go_enter Try.func39, Try.ntmps39
 go_wp2
 go_loopg [1, 5] k (fun kq v1 v5 w' => ∃ (x0_1 : List Int) (x1_1 : Int) (x5_1 : Int), v1 = .int .i64 x1_1 ∧ v5 = .int .i64 x5_1 ∧ Aside0 (laws_markByteS.l0 kq x0_1 x1_1 x5_1 = some (r1, r2)) ∧ Aside0 (kq ≤ k) ∧ Aside0 (Kd.R (Kd.int .u8) 5 w' w0.heap.size (fun k_ => (P0_ k_ ∨ w.heap.size ≤ k_)) u9000_ x0_1) ∧ Aside0 (Kept w w' (fun k_ => P0_ k_)) ∧ Aside0 (Below w0.heap.size w0 w'))
 case atStart => exact ⟨(l0), (a1), (0), (by first | rfl | (simp; done) | (simp [*]; done)), (by first | rfl | (simp; done) | (simp [*]; done)), H', ⟨Nat.le_refl _⟩, ⟨by (with_reducible repeat (first | apply Kd.R_alloc | apply Kd.R_drewN | apply Kd.R_drew)); exact HO0.out⟩, ⟨by repeat (first | (with_reducible first | exact HK.out | apply Kept.alloc | apply Kept.drewN | apply Kept.drew) | exact HK.out)⟩, ⟨by repeat (first | (with_reducible first | exact HB.out | apply below_alloc | apply pw_below_drewN | apply below_drew1) | exact HB.out)⟩⟩
 case round =>
  clear H'
  try clear p2
  obtain ⟨x0_1, x1_1, x5_1, rfl, rfl, HA, HK1, HO_0, HK, HB⟩ := hrel
  cases gk with
  | zero => exact absurd HA.out (by simp [laws_markByteS.l0])
  | succ k1 =>
    have H := HA.out
    clear HA
    simp only [laws_markByteS.l0] at H
    by_cases c3 : x5_1 < (x0_1.length : Int)
    ·rw [if_pos c3] at H
     have c3b0 : decide (x5_1 < (x0_1.length : Int)) = true := decide_eq_true c3
     clear c3
     by_cases c4 : 0 ≤ x5_1
     ·rw [if_pos c4] at H
      have c4b0 : decide (0 ≤ x5_1) = true := decide_eq_true c4
      clear c4
      obtain ⟨y355, hy355⟩ : ∃ y_ : List Int, y_ = (x0_1.set (x5_1 : Int).toNat ((x1_1) % 256)) := ⟨_, rfl⟩
      replace H : (laws_markByteS.l0 k1 y355 (wrap64 (x1_1 + 1)) (wrap64 (x5_1 + 1))) = some (r1, r2) := by first | (rw [hy355]; with_reducible exact H) | (have H2_ := (Option.bind_some _ _).symm.trans H; rw [hy355]; with_reducible exact H2_) | (have H2_ := (Option.bind_some _ _).symm.trans H; with_reducible exact H2_) | with_reducible exact H | (rw [hy355]; exact H) | exact H
      have Ny355 := Aside0.mk hy355
      clear hy355
      have H' := Aside0.mk H
      clear H
      obtain ⟨Ao6, co6, eo6⟩ := Kd.R_slice HO_0.out
      subst eo6
      have p5 : 0 ≤ (x5_1 : Int) := of_decide_eq_true (by first | (with_reducible assumption) | assumption)
      have q5 : (x5_1 : Int) < ((x0_1.length : Int) : Int) := of_decide_eq_true (by first | (with_reducible assumption) | assumption)
      obtain ⟨go5, co5, eo5, gb5, gl5, cl5, HG5⟩ := Kd.R_form HO_0.out (by omega)
      (first | cases eo5 | (injection eo5 with ea_ en_ ec_; (first | subst ea_ | (injection ea_ with ea_; subst ea_)); subst ec_; clear en_))
      have GB5 := Aside0.mk gb5
      have GG5 := Aside0.mk HG5
      clear gb5 gl5 HG5
      have HMgo5 := Aside0.mk (show (P0_ go5 ∨ w.heap.size ≤ go5) from (HO_0.out.1 _ rfl))
      obtain ⟨hx5_0, hf5_0⟩ := Kd.R_celln 0 HO_0.out (x5_1 : Int) p5 q5
      replace p5 := eq_true p5
      replace q5 := eq_true q5
      have HP7 := Kd.R_putg HO_0.out (x5_1 : Int) ((x1_1) % 256)
      go_wp2_with (first | ((with_reducible refine gate_store (t := 5) (p := 16) rfl ?_); refine store_event (t := 5) (p := 16) (v := ?vo_w8) (w1 := (wr.setCell ⟨go5, (x5_1 : Int).toNat, none⟩ (.int .u8 ((x1_1) % 256)))) ?hg ?ho ?hn ?hr ?_; (case ho => rfl); (case hg => rfl); (case hn => rfl); (case hr => first | (go_simp; done) | (go_simp; rfl)); intro w8 hw; have hg : wr.grownBy w8 (some go5) := (by rw [hw]; exact HP7.2); have hp_ : Kd.R (Kd.int .u8) 5 w8 w0.heap.size (fun k_ => (P0_ k_ ∨ w.heap.size ≤ k_)) (.slice (some ⟨go5, 0, none⟩) x0_1.length co6) y355 := (by rw [hw, Ny355.out]; exact HP7.1); clear HP7; have n0_ := Aside0.mk (hp_); have n1_ := Aside0.mk ((by rw [hw]; exact below_set (HB.out) GB5.out : Below w0.heap.size w0 w8)); have n2_ := Aside0.mk (Kept.of_grown (S := (fun k_ => P0_ k_)) hg (by repeat (first | (with_reducible first | exact HK.out | apply Kept.alloc | apply Kept.drewN | apply Kept.drew) | exact HK.out)) (fun k_ e_ => (HO_0.out.1 k_ e_))); clear HO_0; clear HB; clear HK; have HO_0 := n0_; have HB := n1_; have HK := n2_; clear n0_ n1_ n2_; clear hg hw hp_))
      go_roundg k1
      case measure => have := HK1.out; omega
      case rel => exact ⟨(y355), (wrap64 (x1_1 + 1)), (wrap64 (x5_1 + 1)), (by first | rfl | (simp; done) | (simp [*]; done)), (by first | rfl | (simp; done) | (simp [*]; done)), H', ⟨by have := HK1.out; omega⟩, ⟨by (with_reducible repeat (first | apply Kd.R_alloc | apply Kd.R_drewN | apply Kd.R_drew)); exact HO_0.out⟩, ⟨by repeat (first | (with_reducible first | exact HK.out | apply Kept.alloc | apply Kept.drewN | apply Kept.drew) | exact HK.out)⟩, ⟨by repeat (first | (with_reducible first | exact HB.out | apply below_alloc | apply pw_below_drewN | apply below_drew1) | exact HB.out)⟩⟩
     ·rw [if_neg c4] at H
      exact absurd H (by simp)
    ·rw [if_neg c3] at H
     have c3b0 : decide (x5_1 < (x0_1.length : Int)) = false := decide_eq_false c3
     clear c3
     simp only [Option.some.injEq, Prod.mk.injEq] at H
     obtain ⟨rfl, rfl⟩ := H
     obtain ⟨Ao9, co9, eo9⟩ := Kd.R_slice HO_0.out
     subst eo9
     go_wp2
     go_ret
     exact ⟨by first | rfl | (simp [errW_none, errW_some] <;> rfl) | (simp [*, errW_none, errW_some] <;> rfl), by (with_reducible repeat (first | apply Kd.R_alloc | apply Kd.R_drewN | apply Kd.R_drew)); exact HO_0.out, by repeat (first | (with_reducible first | exact HB.out | apply below_alloc | apply pw_below_drewN | apply below_drew1) | exact HB.out), by repeat (first | (with_reducible first | exact HK.out | apply Kept.alloc | apply Kept.drewN | apply Kept.drew) | exact HK.out)⟩

/-! ### L_base: a text by hand -/
-- words of this session's own: stores into a variable's block that is elder than what is held
theorem below_allocB {B : Nat} {w W : World} (h : Below B w W) (hB : B ≤ W.heap.size) (o : Obj) : Below B w (W.alloc o) := h.alloc hB o
theorem blk_cells4 {w : World} {g t : Nat} {a b c d : Value} (h : w.heap[g]? = some (.cells #[a, b, c, d] t (0, 0))) : w.cell? ⟨g, 0, none⟩ = some a ∧ w.cell? ⟨g, 1, none⟩ = some b ∧ w.cell? ⟨g, 2, none⟩ = some c ∧ w.cell? ⟨g, 3, none⟩ = some d ∧
  w.frozen? ⟨g, 0, none⟩ = false ∧ w.frozen? ⟨g, 1, none⟩ = false ∧ w.frozen? ⟨g, 2, none⟩ = false ∧ w.frozen? ⟨g, 3, none⟩ = false :=
 ⟨(blk_cell h 0).trans rfl, (blk_cell h 1).trans rfl, (blk_cell h 2).trans rfl, (blk_cell h 3).trans rfl, blk_frozen h 0, blk_frozen h 1, blk_frozen h 2, blk_frozen h 3⟩
theorem R_iv {α : Type} {d : Kd α} {e b : Nat} {w : World} {ok : Nat → Prop} {v : Value} {xs : List α} (h : d.R e w b ok v xs) (B lo : Nat) (hB : B ≤ b) (hlo : lo ≤ b) : d.R e w B (fun k => (lo ≤ k ∧ k < w.heap.size) ∧ ok k) v xs :=
 Kd.R_mono (Kd.R_lower (Kd.R_bound h) hB) (fun k hk => ⟨⟨Nat.le_trans hlo hk.2.1, hk.2.2.1⟩, hk.1⟩)
theorem S_iv {α : Type} {d : Kd α} {e b : Nat} {w : World} {ok : Nat → Prop} {v : Value} {xs : List α} (h : Kd.S d e w b ok v xs) (B lo : Nat) (hB : B ≤ b) (hlo : lo ≤ b) : Kd.S d e w B (fun k => (lo ≤ k ∧ k < w.heap.size) ∧ ok k) v xs :=
 Kd.S_mono (Kd.S_lower (Kd.S_bound h) hB) (fun k hk => ⟨⟨Nat.le_trans hlo hk.2.1, hk.2.2.1⟩, hk.1⟩)

/-! ### laws_heldByteS: function 74 -/
def laws_heldByteS.l0 : Nat → List Int → Int → Int → Option (Int)
 | 0, _, _, _ => none
 | k + 1, x0, x1, x5 => if x5 < (x0.length : Int) then (if 0 ≤ x5 then (if (rd x0 x5) = ((x1) % 256) then (laws_heldByteS.l0 k x0 (wrap64 (x1 + 1)) (wrap64 (x5 + 1))) else (some (-1))) else (none)) else (some x1)
def laws_heldByteS.f (k : Nat) (l0 : List Int) (a1 : Int) : Option (Int) := laws_heldByteS.l0 k l0 a1 0
set_option maxHeartbeats 8000000 in
set_option maxRecDepth 100000 in
theorem laws_heldByteS.calls (k : Nat) (A0 : Option Addr) (c0 : Nat) (l0 : List Int) (a1 : Int) (r : Int) (w : World) (hr0 : Kd.C (Kd.int .u8) w A0 l0.length l0) (hc0 : l0.length ≤ c0) (h : laws_heldByteS.f k l0 a1 = some r) :
  Calls Try.prog 74 #[.slice A0 l0.length c0, .int .i64 a1] w fun e w' => e = .returned (.int .i64 r) ∧ Drawn0 w w' := by
 have HR0 := Aside0.mk hr0
 have HC0 := Aside0.mk hc0
 clear hr0 hc0
 have H : (laws_heldByteS.l0 k l0 a1 0) = some r := h
 clear h
 have H' := Aside0.mk H
 clear H
 go_enter Try.func74, Try.ntmps74
 go_wp2
 go_loopg [1, 5] k (fun kq v1 v5 w' => ∃ (x1_1 : Int) (x5_1 : Int), v1 = .int .i64 x1_1 ∧ v5 = .int .i64 x5_1 ∧ Aside0 (laws_heldByteS.l0 kq l0 x1_1 x5_1 = some r) ∧ Aside0 (kq ≤ k) ∧ Drawn0 w w')
 case atStart => exact ⟨(a1), (0), (by first | rfl | (simp; done) | (simp [*]; done)), (by first | rfl | (simp; done) | (simp [*]; done)), H', ⟨Nat.le_refl _⟩, by repeat (first | exact Drawn0.refl _ | apply Drawn0.step)⟩
 case round =>
  clear H'
  try clear p2
  obtain ⟨x1_1, x5_1, rfl, rfl, HA, HK1, ⟨m1, rfl⟩⟩ := hrel
  cases gk with
  | zero => exact absurd HA.out (by simp [laws_heldByteS.l0])
  | succ k1 =>
    have H := HA.out
    clear HA
    simp only [laws_heldByteS.l0] at H
    by_cases c3 : x5_1 < (l0.length : Int)
    ·rw [if_pos c3] at H
     have c3b0 : decide (x5_1 < (l0.length : Int)) = true := decide_eq_true c3
     clear c3
     by_cases c4 : 0 ≤ x5_1
     ·rw [if_pos c4] at H
      have c4b0 : decide (0 ≤ x5_1) = true := decide_eq_true c4
      clear c4
      by_cases c5 : (rd l0 x5_1) = ((x1_1) % 256)
      ·rw [if_pos c5] at H
       have c5b0 : ((rd l0 x5_1) == ((x1_1) % 256)) = true := beq_iff_eq.mpr c5
       have c5b1 : ((rd l0 x5_1) != ((x1_1) % 256)) = false := bne_eq_false_iff_eq.mpr c5
       clear c5
       have H' := Aside0.mk H
       clear H
       have p529 : 0 ≤ (x5_1 : Int) := of_decide_eq_true (by first | (with_reducible assumption) | assumption)
       have q529 : x5_1 < (l0.length : Int) := of_decide_eq_true (by first | (with_reducible assumption) | assumption)
       obtain ⟨ad529, e529, hx529_0⟩ := Kd.at_int HR0.out x5_1 p529 q529
       cases e529
       replace p529 := eq_true p529
       replace q529 := eq_true q529
       go_wp2
       go_roundg k1
       case measure => have := HK1.out; omega
       case rel => exact ⟨(wrap64 (x1_1 + 1)), (wrap64 (x5_1 + 1)), (by first | rfl | (simp; done) | (simp [*]; done)), (by first | rfl | (simp; done) | (simp [*]; done)), H', ⟨by have := HK1.out; omega⟩, by repeat (first | exact Drawn0.refl _ | apply Drawn0.step)⟩
      ·rw [if_neg c5] at H
       have c5b0 : ((rd l0 x5_1) == ((x1_1) % 256)) = false := beq_eq_false_iff_ne.mpr c5
       have c5b1 : ((rd l0 x5_1) != ((x1_1) % 256)) = true := bne_iff_ne.mpr c5
       obtain rfl := Option.some.inj H
       have p529 : 0 ≤ (x5_1 : Int) := of_decide_eq_true (by first | (with_reducible assumption) | assumption)
       have q529 : x5_1 < (l0.length : Int) := of_decide_eq_true (by first | (with_reducible assumption) | assumption)
       obtain ⟨ad529, e529, hx529_0⟩ := Kd.at_int HR0.out x5_1 p529 q529
       cases e529
       replace p529 := eq_true p529
       replace q529 := eq_true q529
       go_wp2
       go_ret
       exact ⟨by first | rfl | (simp; done) | (simp [*]; done), by repeat (first | exact Drawn0.refl _ | apply Drawn0.step)⟩
     ·rw [if_neg c4] at H
      exact absurd H (by simp)
    ·rw [if_neg c3] at H
     have c3b0 : decide (x5_1 < (l0.length : Int)) = false := decide_eq_false c3
     clear c3
     obtain rfl := Option.some.inj H
     go_wp2
     go_ret
     exact ⟨by first | rfl | (simp; done) | (simp [*]; done), by repeat (first | exact Drawn0.refl _ | apply Drawn0.step)⟩

/-! ### laws_heldPendS: function 83 -/
def laws_heldPendS.l0 : Nat → List (S79) → Int → Int → Option (Int)
 | 0, _, _, _ => none
 | k + 1, x0, x1, x5 => if x5 < (x0.length : Int) then (if 0 ≤ x5 then (if ((rd_T79 x0 x5).f0) = x1 then ((laws_heldByteS.f k ((rd_T79 x0 x5).f1) (wrap64 (x1 + 1))).bind fun t532 => (if t532 < 0 then (some (-1)) else (laws_heldPendS.l0 k x0 t532 (wrap64 (x5 + 1))))) else (some (-1))) else (none)) else (some x1)
def laws_heldPendS.f (k : Nat) (l0 : List (S79)) (a1 : Int) : Option (Int) := laws_heldPendS.l0 k l0 a1 0

/-! ### laws_heldDisk: function 34 -/
def laws_heldDisk.f (k : Nat) (l0_0 : List Int) (l0_1 : List (S79)) (a0_2 : Int) (a0_3 : Bool) (a1 : Int) : Option (Int) := (laws_heldByteS.f k l0_0 a1).bind fun t534 => (if t534 < 0 then (some (-1)) else ((laws_heldPendS.f k l0_1 t534).bind fun t535 => (if t535 < 0 then (some (-1)) else (some t535))))

/-! ### spec_RecSectors: function 46 -/
def spec_RecSectors.j0 : Nat → Int → Bool → Option (Int)
 | 0, _, _ => none
 | k + 1, x0, x8 => if x8 = true then (some 0) else (if x0 = 0 then (some 1) else (some (wrap64 (Int.tdiv (wrap64 ((wrap64 (x0 + 48)) - 1)) 48))))
def spec_RecSectors.f (k : Nat) (a0 : Int) : Option (Int) := if a0 < 0 then (spec_RecSectors.j0 k a0 true) else (spec_RecSectors.j0 k a0 (decide (a0 > 30000)))
set_option maxHeartbeats 8000000 in
set_option maxRecDepth 100000 in
theorem spec_RecSectors.calls (k : Nat) (a0 : Int) (r : Int) (w : World) (h : spec_RecSectors.f k a0 = some r) :
  Calls Try.prog 46 #[.int .i64 a0] w fun e w' => e = .returned (.int .i64 r) ∧ Drawn0 w w' := by
 have H : (if a0 < 0 then (spec_RecSectors.j0 k a0 true) else (spec_RecSectors.j0 k a0 (decide (a0 > 30000)))) = some r := h
 clear h
 have HC2 := Aside0.mk H
 clear H
 go_enter Try.func46, Try.ntmps46
 go_upto_region 1 with (fail)
 go_cut [8] (fun v8 wc => ∃ (kq : Nat) (x8_1 : Bool), v8 = .bool x8_1 ∧ Aside0 (spec_RecSectors.j0 kq a0 x8_1 = some r) ∧ Aside0 (kq ≤ k) ∧ Drawn0 w wc)
 case first =>
  have H := HC2.out
  clear HC2
  by_cases c3 : a0 < 0
  · rw [if_pos c3] at H
    have c3b0 : decide (a0 < 0) = true := decide_eq_true c3
    clear c3
    (first | rw [c3b0] | (simp only [i64_w, i32_w]; rw [c3b0]) | skip)
    have H' := Aside0.mk H
    clear H
    go_wp2
    go_meet
    case rel => exact ⟨_, (true), (by first | rfl | (simp; done) | (simp [*]; done)), H', ⟨by first | omega | exact Nat.le_refl _⟩, by repeat (first | exact Drawn0.refl _ | apply Drawn0.step)⟩
  · rw [if_neg c3] at H
    have c3b0 : decide (a0 < 0) = false := decide_eq_false c3
    clear c3
    (first | rw [c3b0] | (simp only [i64_w, i32_w]; rw [c3b0]) | skip)
    have H' := Aside0.mk H
    clear H
    go_wp2
    go_meet
    case rel => exact ⟨_, (decide (a0 > 30000)), (by first | rfl | (simp; done) | (simp [*]; done)), H', ⟨by first | omega | exact Nat.le_refl _⟩, by repeat (first | exact Drawn0.refl _ | apply Drawn0.step)⟩
 case rest =>
  clear HC2
  try clear p2
  try clear c3
  try clear c3b0
  obtain ⟨kq, x8_1, rfl, HA, HJ1, ⟨mc1, rfl⟩⟩ := hcut
  cases kq with
  | zero => exact absurd HA.out (by simp [spec_RecSectors.j0])
  | succ kj1 =>
    have H := HA.out
    clear HA
    simp only [spec_RecSectors.j0] at H
    by_cases c4 : x8_1 = true
    · subst c4
      have H1 : (some 0) = some r := by rw [if_pos rfl] at H; exact H
      clear H
      have H := H1
      clear H1
      obtain rfl := Option.some.inj H
      go_wp2
      go_ret
      exact ⟨by first | rfl | (simp; done) | (simp [*]; done), by repeat (first | exact Drawn0.refl _ | apply Drawn0.step)⟩
    · replace c4 := Bool.eq_false_iff.mpr c4
      subst c4
      have H1 : (if a0 = 0 then (some 1) else (some (wrap64 (Int.tdiv (wrap64 ((wrap64 (a0 + 48)) - 1)) 48)))) = some r := by rw [if_neg (show ¬ (false = true) by decide)] at H; exact H
      clear H
      have H := H1
      clear H1
      by_cases c5 : a0 = 0
      ·rw [if_pos c5] at H
       have c5b0 : (a0 == 0) = true := beq_iff_eq.mpr c5
       have c5b1 : (a0 != 0) = false := bne_eq_false_iff_eq.mpr c5
       clear c5
       obtain rfl := Option.some.inj H
       go_wp2
       go_ret
       exact ⟨by first | rfl | (simp; done) | (simp [*]; done), by repeat (first | exact Drawn0.refl _ | apply Drawn0.step)⟩
      ·rw [if_neg c5] at H
       have c5b0 : (a0 == 0) = false := beq_eq_false_iff_ne.mpr c5
       have c5b1 : (a0 != 0) = true := bne_iff_ne.mpr c5
       obtain rfl := Option.some.inj H
       go_wp2
       go_ret
       exact ⟨by first | rfl | (simp; done) | (simp [*]; done), by repeat (first | exact Drawn0.refl _ | apply Drawn0.step)⟩
end Go.Proofs.Yteddpdonmhiplaa.PR
