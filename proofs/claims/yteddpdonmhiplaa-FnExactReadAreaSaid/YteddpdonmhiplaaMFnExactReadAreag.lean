-- Made by this session's programs out of the translation and of its own texts.
import Derived.Test.YteddpdonmhiplaaMFnExactReadAreaf
namespace Go.Proofs.Yteddpdonmhiplaa.PR
open Go.RowKit Go.Proofs.YteddpdonmhiplaaW.PrintWords Go.Proofs.YteddpdonmhiplaaW.PrintLast Go.Proofs.YteddpdonmhiplaaW.PrintMore
attribute [local go_sem] max2_int min2_int max_two min_two max_three min_three max_four min_four   -- for this text's walks alone
set_option linter.unusedVariables false
set_option linter.unusedSimpArgs false

/-! ### laws_eqPayloadS: function 92 -/
def laws_eqPayloadS.l0 : Nat → List (S111) → List (S111) → Int → Option (Bool)
 | 0, _, _, _ => none
 | k + 1, x0, x1, x5 => if x5 < (x0.length : Int) then (if 0 ≤ x5 then (if x5 < (x1.length : Int) then ((laws_eqPayload.f k ((rd_T111 x0 x5).f0) ((rd_T111 x1 x5).f0)).bind fun t1026 => (if t1026 = true then (laws_eqPayloadS.l0 k x0 x1 (wrap64 (x5 + 1))) else (some false))) else (none)) else (none)) else (some true)
def laws_eqPayloadS.f (k : Nat) (l0 : List (S111)) (l1 : List (S111)) : Option (Bool) := if (l0.length : Int) = (l1.length : Int) then (laws_eqPayloadS.l0 k l0 l1 0) else (some false)
def laws_eqPayloadS.T6 : Bool × List (List Nat × List Nat) := (true, [([], []), ([], []), ([0, 1], [0, 1]), ([2], [2]), ([], []), ([], []), ([4, 5], [4, 5]), ([6], [6]), ([3, 7], [3, 7]), ([8], [8])])
def laws_eqPayloadS.B6 : List Nat := [0, 0, 3, 7, 0, 0, 48, 112, 255, 511]
theorem laws_eqPayloadS.tab6 : rtab .any (opsOf Try.f92 6) = laws_eqPayloadS.T6 := by kernel_rfl
theorem laws_eqPayloadS.bits6 : waitsOk laws_eqPayloadS.T6.2 laws_eqPayloadS.B6 = true := by kernel_rfl
set_option maxHeartbeats 8000000 in
set_option maxRecDepth 100000 in
theorem laws_eqPayloadS.calls (k : Nat) (A0 : Option Addr) (c0 : Nat) (l0 : List (S111)) (A1 : Option Addr) (c1 : Nat) (l1 : List (S111)) (r : Bool) (w : World) (hr0 : Kd.C k111 w A0 l0.length l0) (hc0 : l0.length ≤ c0) (hr1 : Kd.C k111 w A1 l1.length l1) (hc1 : l1.length ≤ c1) (h : laws_eqPayloadS.f k l0 l1 = some r) :
  Calls Try.prog 92 #[.slice A0 l0.length c0, .slice A1 l1.length c1] w fun e w' => e = .returned (.bool r) ∧ Below w.heap.size w w' := by
 have hu111 := Try.underlying111
 have HR0 := Aside0.mk hr0
 have HC0 := Aside0.mk hc0
 clear hr0 hc0
 have HR1 := Aside0.mk hr1
 have HC1 := Aside0.mk hc1
 clear hr1 hc1
 have HB := Aside0.mk (Below.refl w.heap.size w)
 have H : (if (l0.length : Int) = (l1.length : Int) then (laws_eqPayloadS.l0 k l0 l1 0) else (some false)) = some r := h
 clear h
 by_cases c3 : (l0.length : Int) = (l1.length : Int)
 ·rw [if_pos c3] at H
  have c3b0 : ((l0.length : Int) == (l1.length : Int)) = true := beq_iff_eq.mpr c3
  have c3b1 : ((l0.length : Int) != (l1.length : Int)) = false := bne_eq_false_iff_eq.mpr c3
  have c3b2 : (l0.length == l1.length) = true := by first | simpa using c3 | (simp at c3 ⊢; omega)
  clear c3
  have H' := Aside0.mk H
  clear H
  go_enter Try.func92, Try.ntmps92
  go_wp2
  go_loopg [5] k (fun kq v5 w' => ∃ (x5_1 : Int), v5 = .int .i64 x5_1 ∧ Aside0 (laws_eqPayloadS.l0 kq l0 l1 x5_1 = some r) ∧ Aside0 (kq ≤ k) ∧ Aside0 (Below w.heap.size w w'))
  case atStart => exact ⟨(0), (by first | rfl | (simp; done) | (simp [*]; done)), H', ⟨Nat.le_refl _⟩, ⟨by repeat (first | (with_reducible first | exact HB.out | apply below_alloc | apply pw_below_drewN | apply below_drew1) | exact HB.out)⟩⟩
  case round =>
   clear H'
   try clear c1
   try clear p2
   try clear c3
   try clear c3b0
   try clear c3b1
   try clear c3b2
   obtain ⟨x5_1, rfl, HA, HK1, HB⟩ := hrel
   cases gk with
   | zero => exact absurd HA.out (by simp [laws_eqPayloadS.l0])
   | succ k1 =>
     have H := HA.out
     clear HA
     simp only [laws_eqPayloadS.l0] at H
     by_cases c4 : x5_1 < (l0.length : Int)
     ·rw [if_pos c4] at H
      have c4b0 : decide (x5_1 < (l0.length : Int)) = true := decide_eq_true c4
      clear c4
      by_cases c5 : 0 ≤ x5_1
      ·rw [if_pos c5] at H
       have c5b0 : decide (0 ≤ x5_1) = true := decide_eq_true c5
       clear c5
       by_cases c6 : x5_1 < (l1.length : Int)
       ·rw [if_pos c6] at H
        have c6b0 : decide (x5_1 < (l1.length : Int)) = true := decide_eq_true c6
        clear c6
        replace H := Option.bind_eq_some_iff.mp H
        obtain ⟨t1026, A70, H⟩ := H
        replace H : (if t1026 = true then (laws_eqPayloadS.l0 k1 l0 l1 (wrap64 (x5_1 + 1))) else (some false)) = some r := H
        have A7 := Aside0.mk A70
        clear A70
        by_cases c8 : t1026 = true
        ·subst c8
         have H1 : (laws_eqPayloadS.l0 k1 l0 l1 (wrap64 (x5_1 + 1))) = some r := by rw [if_pos rfl] at H; exact H
         clear H
         have H := H1
         clear H1
         have H' := Aside0.mk H
         clear H
         try go_wp2
         have n0_ := Aside0.mk (below_drew1 HB.out)
         clear HB
         have HB := n0_
         clear n0_
         have p1024 : 0 ≤ (x5_1 : Int) := of_decide_eq_true (by first | (with_reducible assumption) | assumption)
         have q1024 : x5_1 < (l0.length : Int) := of_decide_eq_true (by first | (with_reducible assumption) | assumption)
         obtain ⟨ad1024, A1024_0, c1024_0, e1024, hx1024_0, hl1024_0, hi1024_0⟩ := at_T111 HR0.out x5_1 p1024 q1024
         have hw1024_0 := hx1024_0
         cases e1024
         replace hx1024_0 := (HB.out.cell (World.block_lt_of_cell? w _ hx1024_0)).trans hx1024_0
         have HR1024_0 := Aside0.mk hi1024_0
         have HC1024_0 := Aside0.mk hl1024_0
         clear hi1024_0 hl1024_0
         replace p1024 := eq_true p1024
         replace q1024 := eq_true q1024
         have p1025 : 0 ≤ (x5_1 : Int) := of_decide_eq_true (by first | (with_reducible assumption) | assumption)
         have q1025 : x5_1 < (l1.length : Int) := of_decide_eq_true (by first | (with_reducible assumption) | assumption)
         obtain ⟨ad1025, A1025_0, c1025_0, e1025, hx1025_0, hl1025_0, hi1025_0⟩ := at_T111 HR1.out x5_1 p1025 q1025
         have hw1025_0 := hx1025_0
         cases e1025
         replace hx1025_0 := (HB.out.cell (World.block_lt_of_cell? w _ hx1025_0)).trans hx1025_0
         have HR1025_0 := Aside0.mk hi1025_0
         have HC1025_0 := Aside0.mk hl1025_0
         clear hi1025_0 hl1025_0
         replace p1025 := eq_true p1025
         replace q1025 := eq_true q1025
         refine start_ (n := 10) (S := fun w' => w'.cell? (ad1024.add (x5_1).toNat) = some (.slice A1024_0 ((rd_T111 l0 x5_1).f0).length c1024_0) ∧ w'.cell? (ad1025.add (x5_1).toNat) = some (.slice A1025_0 ((rd_T111 l1 x5_1).f0).length c1025_0)) (ds := []) #[false, false, false, false, false, false, false, false, false, false] (by kernel_rfl) rfl rfl ⟨((HB.out.cell (World.block_lt_of_cell? w _ hw1024_0)).trans hw1024_0), ((HB.out.cell (World.block_lt_of_cell? w _ hw1025_0)).trans hw1025_0)⟩ (fun hHeld => ?_); refine with_tabW laws_eqPayloadS.tab6 laws_eqPayloadS.bits6 (fun HT_ HW_ => ?_)
         generalize wr.drew = w9 at HB HR1024_0 HR1025_0 hx1024_0 hx1025_0 hHeld ⊢
         refine pure_ (i := 0) (N := some 17) (v := ?_) (a' := ?_) #[true, false, false, false, false, false, false, false, false, false] rfl rfl (any_of HT_.out (by kernel_rfl)) (fun _ _ _ h => h) (Or.inl ⟨by rfl, ?_⟩) ?_ ?_
         rotate_left
         · intro w'
           go_simp
           with_reducible rfl
         rotate_left
         · simp only [Act.put, List.setIfInBounds_toArray, List.set_cons_zero, List.set_cons_succ, i64_w, i32_w]
           rfl
         refine pure_ (i := 1) (N := some 18) (v := ?_) (a' := ?_) #[true, true, false, false, false, false, false, false, false, false] rfl rfl (any_of HT_.out (by kernel_rfl)) (fun _ _ _ h => h) (Or.inl ⟨by rfl, ?_⟩) ?_ ?_
         rotate_left
         · intro w'
           go_simp
           with_reducible rfl
         rotate_left
         · simp only [Act.put, List.setIfInBounds_toArray, List.set_cons_zero, List.set_cons_succ, i64_w, i32_w]
           rfl
         refine pure_ (i := 2) (N := some 19) (v := ?_) (a' := ?_) #[true, true, true, false, false, false, false, false, false, false] rfl rfl (any_of HT_.out (by kernel_rfl)) (fun _ _ _ h => h) (Or.inl ⟨by rfl, ?_⟩) ?_ ?_
         rotate_left
         · intro w'
           go_simp
           with_reducible rfl
         rotate_left
         · simp only [Act.put, List.setIfInBounds_toArray, List.set_cons_zero, List.set_cons_succ, i64_w, i32_w]
           rfl
         refine pure_ (i := 4) (N := some 21) (v := ?_) (a' := ?_) #[true, true, true, false, true, false, false, false, false, false] rfl rfl (any_of HT_.out (by kernel_rfl)) (fun _ _ _ h => h) (Or.inl ⟨by rfl, ?_⟩) ?_ ?_
         rotate_left
         · intro w'
           go_simp
           with_reducible rfl
         rotate_left
         · simp only [Act.put, List.setIfInBounds_toArray, List.set_cons_zero, List.set_cons_succ, i64_w, i32_w]
           rfl
         refine pure_ (i := 5) (N := some 22) (v := ?_) (a' := ?_) #[true, true, true, false, true, true, false, false, false, false] rfl rfl (any_of HT_.out (by kernel_rfl)) (fun _ _ _ h => h) (Or.inl ⟨by rfl, ?_⟩) ?_ ?_
         rotate_left
         · intro w'
           go_simp
           with_reducible rfl
         rotate_left
         · simp only [Act.put, List.setIfInBounds_toArray, List.set_cons_zero, List.set_cons_succ, i64_w, i32_w]
           rfl
         refine pure_ (i := 6) (N := some 23) (v := ?_) (a' := ?_) #[true, true, true, false, true, true, true, false, false, false] rfl rfl (any_of HT_.out (by kernel_rfl)) (fun _ _ _ h => h) (Or.inl ⟨by rfl, ?_⟩) ?_ ?_
         rotate_left
         · intro w'
           go_simp
           with_reducible rfl
         rotate_left
         · simp only [Act.put, List.setIfInBounds_toArray, List.set_cons_zero, List.set_cons_succ, i64_w, i32_w]
           rfl
         refine take_ (i := 3) (N := some 20) (v := ?_) (a' := ?_) #[true, true, true, true, true, true, true, false, false, false] rfl rfl (take_ofW HT_.out HW_.out (by kernel_rfl)) (fun _ _ _ h => h) (Or.inl ⟨by rfl, ?_⟩) hHeld ?_ ?_
         rotate_left
         · rintro w' ⟨s0, s1⟩
           go_simp
           with_reducible rfl
         rotate_left
         · simp only [Act.put, List.setIfInBounds_toArray, List.set_cons_zero, List.set_cons_succ, i64_w, i32_w]
           rfl
         refine take_ (i := 7) (N := some 24) (v := ?_) (a' := ?_) #[true, true, true, true, true, true, true, true, false, false] rfl rfl (take_ofW HT_.out HW_.out (by kernel_rfl)) (fun _ _ _ h => h) (Or.inl ⟨by rfl, ?_⟩) hHeld ?_ ?_
         rotate_left
         · rintro w' ⟨s0, s1⟩
           go_simp
           with_reducible rfl
         rotate_left
         · simp only [Act.put, List.setIfInBounds_toArray, List.set_cons_zero, List.set_cons_succ, i64_w, i32_w]
           rfl
         refine one_ (i := 8) (N := some 25) #[true, true, true, true, true, true, true, true, true, false] rfl rfl (one_of HT_.out (by kernel_rfl)) (by decide) (fun K hK => ?_)
         refine goes_ Try.func119 (by kernel_rfl) rfl #[.agg #[.slice A1024_0 ((rd_T111 l0 x5_1).f0).length c1024_0], .agg #[.slice A1025_0 ((rd_T111 l1 x5_1).f0).length c1025_0]] (by rfl) rfl rfl (by (try simp only [List.map_toArray, List.map_cons, List.map_nil]); first | done | rfl | (simp only [List.length_drop, List.length_take]; rfl)) ?_
         with_reducible refine (laws_eqPayload.calls k1 _ _ ((rd_T111 l0 x5_1).f0) _ _ ((rd_T111 l1 x5_1).f0) true _ ?side1 ?side2 ?side3 ?side4 A7.out).mono ?_
         (case side1 => repeat (first | exact (Kd.C_below HR1024_0.out HB.out) | (with_reducible refine Kd.C_alloc ?_ _) | (with_reducible refine Kd.C_drewN ?_ _) | (with_reducible refine Kd.C_drew ?_)))
         (case side2 => exact HC1024_0.out)
         (case side3 => repeat (first | exact (Kd.C_below HR1025_0.out HB.out) | (with_reducible refine Kd.C_alloc ?_ _) | (with_reducible refine Kd.C_drewN ?_ _) | (with_reducible refine Kd.C_drew ?_)))
         (case side4 => exact HC1025_0.out)
         rintro e w10 ⟨rfl, hb⟩
         refine ⟨_, rfl, ?_⟩
         have n0_ := Aside0.mk (below_step (by repeat (first | (with_reducible first | exact HB.out | apply below_alloc | apply pw_below_drewN | apply below_drew1) | exact HB.out)) hb)
         clear HB
         have HB := n0_
         clear n0_
         (try clear hb)
         (try clear hb2)
         (try clear hk)
         (try clear hi)
         refine hK.out _ _ ⟨((HB.out.cell (World.block_lt_of_cell? w _ hw1024_0)).trans hw1024_0), ((HB.out.cell (World.block_lt_of_cell? w _ hw1025_0)).trans hw1025_0)⟩ (fun hHeld => ?_)
         clear hK K
         refine norm_ (a' := ?_) ?_ ?_
         rotate_left
         · show Act.put _ (some 25) _ = _
           simp only [Act.put, List.setIfInBounds_toArray, List.set_cons_zero, List.set_cons_succ, i64_w, i32_w]
           rfl
         refine pure_ (i := 9) (N := some 26) (v := ?_) (a' := ?_) #[true, true, true, true, true, true, true, true, true, true] rfl rfl (any_of HT_.out (by kernel_rfl)) (fun _ _ _ h => h) (Or.inl ⟨by rfl, ?_⟩) ?_ ?_
         rotate_left
         · intro w'
           go_simp
           with_reducible rfl
         rotate_left
         · simp only [Act.put, List.setIfInBounds_toArray, List.set_cons_zero, List.set_cons_succ, i64_w, i32_w]
           rfl
         refine done_ (done_of HT_.out (by kernel_rfl)) ?_
         try go_wp2
         go_roundg k1
         case measure => have := HK1.out; omega
         case rel => exact ⟨(wrap64 (x5_1 + 1)), (by first | rfl | (simp; done) | (simp [*]; done)), H', ⟨by have := HK1.out; omega⟩, ⟨by repeat (first | (with_reducible first | exact HB.out | apply below_alloc | apply pw_below_drewN | apply below_drew1) | exact HB.out)⟩⟩
        ·replace c8 := Bool.eq_false_iff.mpr c8
         subst c8
         have H1 : (some false) = some r := by rw [if_neg (show ¬ (false = true) by decide)] at H; exact H
         clear H
         have H := H1
         clear H1
         obtain rfl := Option.some.inj H
         try go_wp2
         have n0_ := Aside0.mk (below_drew1 HB.out)
         clear HB
         have HB := n0_
         clear n0_
         have p1024 : 0 ≤ (x5_1 : Int) := of_decide_eq_true (by first | (with_reducible assumption) | assumption)
         have q1024 : x5_1 < (l0.length : Int) := of_decide_eq_true (by first | (with_reducible assumption) | assumption)
         obtain ⟨ad1024, A1024_0, c1024_0, e1024, hx1024_0, hl1024_0, hi1024_0⟩ := at_T111 HR0.out x5_1 p1024 q1024
         have hw1024_0 := hx1024_0
         cases e1024
         replace hx1024_0 := (HB.out.cell (World.block_lt_of_cell? w _ hx1024_0)).trans hx1024_0
         have HR1024_0 := Aside0.mk hi1024_0
         have HC1024_0 := Aside0.mk hl1024_0
         clear hi1024_0 hl1024_0
         replace p1024 := eq_true p1024
         replace q1024 := eq_true q1024
         have p1025 : 0 ≤ (x5_1 : Int) := of_decide_eq_true (by first | (with_reducible assumption) | assumption)
         have q1025 : x5_1 < (l1.length : Int) := of_decide_eq_true (by first | (with_reducible assumption) | assumption)
         obtain ⟨ad1025, A1025_0, c1025_0, e1025, hx1025_0, hl1025_0, hi1025_0⟩ := at_T111 HR1.out x5_1 p1025 q1025
         have hw1025_0 := hx1025_0
         cases e1025
         replace hx1025_0 := (HB.out.cell (World.block_lt_of_cell? w _ hx1025_0)).trans hx1025_0
         have HR1025_0 := Aside0.mk hi1025_0
         have HC1025_0 := Aside0.mk hl1025_0
         clear hi1025_0 hl1025_0
         replace p1025 := eq_true p1025
         replace q1025 := eq_true q1025
         refine start_ (n := 10) (S := fun w' => w'.cell? (ad1024.add (x5_1).toNat) = some (.slice A1024_0 ((rd_T111 l0 x5_1).f0).length c1024_0) ∧ w'.cell? (ad1025.add (x5_1).toNat) = some (.slice A1025_0 ((rd_T111 l1 x5_1).f0).length c1025_0)) (ds := []) #[false, false, false, false, false, false, false, false, false, false] (by kernel_rfl) rfl rfl ⟨((HB.out.cell (World.block_lt_of_cell? w _ hw1024_0)).trans hw1024_0), ((HB.out.cell (World.block_lt_of_cell? w _ hw1025_0)).trans hw1025_0)⟩ (fun hHeld => ?_); refine with_tabW laws_eqPayloadS.tab6 laws_eqPayloadS.bits6 (fun HT_ HW_ => ?_)
         generalize wr.drew = w11 at HB HR1024_0 HR1025_0 hx1024_0 hx1025_0 hHeld ⊢
         refine pure_ (i := 0) (N := some 17) (v := ?_) (a' := ?_) #[true, false, false, false, false, false, false, false, false, false] rfl rfl (any_of HT_.out (by kernel_rfl)) (fun _ _ _ h => h) (Or.inl ⟨by rfl, ?_⟩) ?_ ?_
         rotate_left
         · intro w'
           go_simp
           with_reducible rfl
         rotate_left
         · simp only [Act.put, List.setIfInBounds_toArray, List.set_cons_zero, List.set_cons_succ, i64_w, i32_w]
           rfl
         refine pure_ (i := 1) (N := some 18) (v := ?_) (a' := ?_) #[true, true, false, false, false, false, false, false, false, false] rfl rfl (any_of HT_.out (by kernel_rfl)) (fun _ _ _ h => h) (Or.inl ⟨by rfl, ?_⟩) ?_ ?_
         rotate_left
         · intro w'
           go_simp
           with_reducible rfl
         rotate_left
         · simp only [Act.put, List.setIfInBounds_toArray, List.set_cons_zero, List.set_cons_succ, i64_w, i32_w]
           rfl
         refine pure_ (i := 2) (N := some 19) (v := ?_) (a' := ?_) #[true, true, true, false, false, false, false, false, false, false] rfl rfl (any_of HT_.out (by kernel_rfl)) (fun _ _ _ h => h) (Or.inl ⟨by rfl, ?_⟩) ?_ ?_
         rotate_left
         · intro w'
           go_simp
           with_reducible rfl
         rotate_left
         · simp only [Act.put, List.setIfInBounds_toArray, List.set_cons_zero, List.set_cons_succ, i64_w, i32_w]
           rfl
         refine pure_ (i := 4) (N := some 21) (v := ?_) (a' := ?_) #[true, true, true, false, true, false, false, false, false, false] rfl rfl (any_of HT_.out (by kernel_rfl)) (fun _ _ _ h => h) (Or.inl ⟨by rfl, ?_⟩) ?_ ?_
         rotate_left
         · intro w'
           go_simp
           with_reducible rfl
         rotate_left
         · simp only [Act.put, List.setIfInBounds_toArray, List.set_cons_zero, List.set_cons_succ, i64_w, i32_w]
           rfl
         refine pure_ (i := 5) (N := some 22) (v := ?_) (a' := ?_) #[true, true, true, false, true, true, false, false, false, false] rfl rfl (any_of HT_.out (by kernel_rfl)) (fun _ _ _ h => h) (Or.inl ⟨by rfl, ?_⟩) ?_ ?_
         rotate_left
         · intro w'
           go_simp
           with_reducible rfl
         rotate_left
         · simp only [Act.put, List.setIfInBounds_toArray, List.set_cons_zero, List.set_cons_succ, i64_w, i32_w]
           rfl
         refine pure_ (i := 6) (N := some 23) (v := ?_) (a' := ?_) #[true, true, true, false, true, true, true, false, false, false] rfl rfl (any_of HT_.out (by kernel_rfl)) (fun _ _ _ h => h) (Or.inl ⟨by rfl, ?_⟩) ?_ ?_
         rotate_left
         · intro w'
           go_simp
           with_reducible rfl
         rotate_left
         · simp only [Act.put, List.setIfInBounds_toArray, List.set_cons_zero, List.set_cons_succ, i64_w, i32_w]
           rfl
         refine take_ (i := 3) (N := some 20) (v := ?_) (a' := ?_) #[true, true, true, true, true, true, true, false, false, false] rfl rfl (take_ofW HT_.out HW_.out (by kernel_rfl)) (fun _ _ _ h => h) (Or.inl ⟨by rfl, ?_⟩) hHeld ?_ ?_
         rotate_left
         · rintro w' ⟨s0, s1⟩
           go_simp
           with_reducible rfl
         rotate_left
         · simp only [Act.put, List.setIfInBounds_toArray, List.set_cons_zero, List.set_cons_succ, i64_w, i32_w]
           rfl
         refine take_ (i := 7) (N := some 24) (v := ?_) (a' := ?_) #[true, true, true, true, true, true, true, true, false, false] rfl rfl (take_ofW HT_.out HW_.out (by kernel_rfl)) (fun _ _ _ h => h) (Or.inl ⟨by rfl, ?_⟩) hHeld ?_ ?_
         rotate_left
         · rintro w' ⟨s0, s1⟩
           go_simp
           with_reducible rfl
         rotate_left
         · simp only [Act.put, List.setIfInBounds_toArray, List.set_cons_zero, List.set_cons_succ, i64_w, i32_w]
           rfl
         refine one_ (i := 8) (N := some 25) #[true, true, true, true, true, true, true, true, true, false] rfl rfl (one_of HT_.out (by kernel_rfl)) (by decide) (fun K hK => ?_)
         refine goes_ Try.func119 (by kernel_rfl) rfl #[.agg #[.slice A1024_0 ((rd_T111 l0 x5_1).f0).length c1024_0], .agg #[.slice A1025_0 ((rd_T111 l1 x5_1).f0).length c1025_0]] (by rfl) rfl rfl (by (try simp only [List.map_toArray, List.map_cons, List.map_nil]); first | done | rfl | (simp only [List.length_drop, List.length_take]; rfl)) ?_
         with_reducible refine (laws_eqPayload.calls k1 _ _ ((rd_T111 l0 x5_1).f0) _ _ ((rd_T111 l1 x5_1).f0) false _ ?side1 ?side2 ?side3 ?side4 A7.out).mono ?_
         (case side1 => repeat (first | exact (Kd.C_below HR1024_0.out HB.out) | (with_reducible refine Kd.C_alloc ?_ _) | (with_reducible refine Kd.C_drewN ?_ _) | (with_reducible refine Kd.C_drew ?_)))
         (case side2 => exact HC1024_0.out)
         (case side3 => repeat (first | exact (Kd.C_below HR1025_0.out HB.out) | (with_reducible refine Kd.C_alloc ?_ _) | (with_reducible refine Kd.C_drewN ?_ _) | (with_reducible refine Kd.C_drew ?_)))
         (case side4 => exact HC1025_0.out)
         rintro e w12 ⟨rfl, hb⟩
         refine ⟨_, rfl, ?_⟩
         have n0_ := Aside0.mk (below_step (by repeat (first | (with_reducible first | exact HB.out | apply below_alloc | apply pw_below_drewN | apply below_drew1) | exact HB.out)) hb)
         clear HB
         have HB := n0_
         clear n0_
         (try clear hb)
         (try clear hb2)
         (try clear hk)
         (try clear hi)
         refine hK.out _ _ ⟨((HB.out.cell (World.block_lt_of_cell? w _ hw1024_0)).trans hw1024_0), ((HB.out.cell (World.block_lt_of_cell? w _ hw1025_0)).trans hw1025_0)⟩ (fun hHeld => ?_)
         clear hK K
         refine norm_ (a' := ?_) ?_ ?_
         rotate_left
         · show Act.put _ (some 25) _ = _
           simp only [Act.put, List.setIfInBounds_toArray, List.set_cons_zero, List.set_cons_succ, i64_w, i32_w]
           rfl
         refine pure_ (i := 9) (N := some 26) (v := ?_) (a' := ?_) #[true, true, true, true, true, true, true, true, true, true] rfl rfl (any_of HT_.out (by kernel_rfl)) (fun _ _ _ h => h) (Or.inl ⟨by rfl, ?_⟩) ?_ ?_
         rotate_left
         · intro w'
           go_simp
           with_reducible rfl
         rotate_left
         · simp only [Act.put, List.setIfInBounds_toArray, List.set_cons_zero, List.set_cons_succ, i64_w, i32_w]
           rfl
         refine done_ (done_of HT_.out (by kernel_rfl)) ?_
         try go_wp2
         go_ret
         exact ⟨by first | rfl | (simp [errW_none, errW_some] <;> rfl) | (simp [*, errW_none, errW_some] <;> rfl), by repeat (first | (with_reducible first | exact HB.out | apply below_alloc | apply pw_below_drewN | apply below_drew1) | exact HB.out)⟩
       ·rw [if_neg c6] at H
        exact absurd H (by simp)
      ·rw [if_neg c5] at H
       exact absurd H (by simp)
     ·rw [if_neg c4] at H
      have c4b0 : decide (x5_1 < (l0.length : Int)) = false := decide_eq_false c4
      clear c4
      obtain rfl := Option.some.inj H
      go_wp2
      go_ret
      exact ⟨by first | rfl | (simp [errW_none, errW_some] <;> rfl) | (simp [*, errW_none, errW_some] <;> rfl), by repeat (first | (with_reducible first | exact HB.out | apply below_alloc | apply pw_below_drewN | apply below_drew1) | exact HB.out)⟩
 ·rw [if_neg c3] at H
  have c3b0 : ((l0.length : Int) == (l1.length : Int)) = false := beq_eq_false_iff_ne.mpr c3
  have c3b1 : ((l0.length : Int) != (l1.length : Int)) = true := bne_iff_ne.mpr c3
  have c3b2 : (l0.length == l1.length) = false := by first | simpa using c3 | (simp at c3 ⊢; omega)
  obtain rfl := Option.some.inj H
  go_enter Try.func92, Try.ntmps92
  go_wp2
  go_ret
  exact ⟨by first | rfl | (simp [errW_none, errW_some] <;> rfl) | (simp [*, errW_none, errW_some] <;> rfl), by repeat (first | (with_reducible first | exact HB.out | apply below_alloc | apply pw_below_drewN | apply below_drew1) | exact HB.out)⟩

/-! ### laws_eqAreaRes: function 42 -/
def laws_eqAreaRes.f (k : Nat) (a0_0 : Bool) (l0_1 : List (S111)) (a0_2 : Int) (a0_3 : Int) (a1_0 : Bool) (l1_1 : List (S111)) (a1_2 : Int) (a1_3 : Int) : Option (Bool) := if (a0_0 != a1_0) = true then (some false) else ((laws_eqPayloadS.f k l0_1 l1_1).bind fun t1029 => (if t1029 = true then (if a0_2 = a1_2 then (if a0_3 = a1_3 then (some true) else (some false)) else (some false)) else (some false)))
set_option maxHeartbeats 8000000 in
set_option maxRecDepth 100000 in
theorem laws_eqAreaRes.calls (k : Nat) (a0_0 : Bool) (A0_1 : Option Addr) (c0_1 : Nat) (l0_1 : List (S111)) (a0_2 : Int) (a0_3 : Int) (a1_0 : Bool) (A1_1 : Option Addr) (c1_1 : Nat) (l1_1 : List (S111)) (a1_2 : Int) (a1_3 : Int) (r : Bool) (w : World) (hr0_1 : Kd.C k111 w A0_1 l0_1.length l0_1) (hc0_1 : l0_1.length ≤ c0_1) (hr1_1 : Kd.C k111 w A1_1 l1_1.length l1_1) (hc1_1 : l1_1.length ≤ c1_1) (h : laws_eqAreaRes.f k a0_0 l0_1 a0_2 a0_3 a1_0 l1_1 a1_2 a1_3 = some r) :
   Calls Try.prog 42 #[.agg #[.bool a0_0, .slice A0_1 l0_1.length c0_1, .int .i64 a0_2, .int .i64 a0_3], .agg #[.bool a1_0, .slice A1_1 l1_1.length c1_1, .int .i64 a1_2, .int .i64 a1_3]] w fun e w' => e = .returned (.bool r) ∧ Below w.heap.size w w' := by
 have hu65 := Try.underlying65
 have HR0_1 := Aside0.mk hr0_1
 have HC0_1 := Aside0.mk hc0_1
 clear hr0_1 hc0_1
 have HR1_1 := Aside0.mk hr1_1
 have HC1_1 := Aside0.mk hc1_1
 clear hr1_1 hc1_1
 have HB := Aside0.mk (Below.refl w.heap.size w)
 have H : (if (a0_0 != a1_0) = true then (some false) else ((laws_eqPayloadS.f k l0_1 l1_1).bind fun t1029 => (if t1029 = true then (if a0_2 = a1_2 then (if a0_3 = a1_3 then (some true) else (some false)) else (some false)) else (some false)))) = some r := h
 clear h
 by_cases c3 : (a0_0 != a1_0) = true
 rw [if_pos c3] at H
 have c3b0 : (a0_0 != a1_0) = true := c3
 (try (have c3b1 : decide (a0_0 = a1_0) = false := by simpa using c3))
 (try (have c3b2 : (a0_0 == a1_0) = false := by simpa using c3))
 (try (have c3b3 : ¬ (a0_0 = a1_0) := by simpa using c3))
 clear c3
 obtain rfl := Option.some.inj H
 rotate_left
 rw [if_neg c3] at H
 have c3b0 : (a0_0 != a1_0) = false := by simpa using c3
 (try (have c3b1 : decide (a0_0 = a1_0) = true := by simpa using c3))
 (try (have c3b2 : (a0_0 == a1_0) = true := by simpa using c3))
 clear c3
 replace H := Option.bind_eq_some_iff.mp H
 obtain ⟨t1029, A90, H⟩ := H
 replace H : (if t1029 = true then (if a0_2 = a1_2 then (if a0_3 = a1_3 then (some true) else (some false)) else (some false)) else (some false)) = some r := H
 have A9 := Aside0.mk A90
 clear A90
 by_cases c10 : t1029 = true
 subst c10
 have H1 : (if a0_2 = a1_2 then (if a0_3 = a1_3 then (some true) else (some false)) else (some false)) = some r := by rw [if_pos rfl] at H; exact H
 clear H
 have H := H1
 clear H1
 by_cases c11 : a0_2 = a1_2
 rw [if_pos c11] at H
 have c11b0 : (a0_2 == a1_2) = true := beq_iff_eq.mpr c11
 have c11b1 : (a0_2 != a1_2) = false := bne_eq_false_iff_eq.mpr c11
 clear c11
 by_cases c12 : a0_3 = a1_3
 rw [if_pos c12] at H
 have c12b0 : (a0_3 == a1_3) = true := beq_iff_eq.mpr c12
 have c12b1 : (a0_3 != a1_3) = false := bne_eq_false_iff_eq.mpr c12
 clear c12
 obtain rfl := Option.some.inj H
 rotate_left
 rw [if_neg c12] at H
 have c12b0 : (a0_3 == a1_3) = false := beq_eq_false_iff_ne.mpr c12
 have c12b1 : (a0_3 != a1_3) = true := bne_iff_ne.mpr c12
 obtain rfl := Option.some.inj H
 rotate_left
 rw [if_neg c11] at H
 have c11b0 : (a0_2 == a1_2) = false := beq_eq_false_iff_ne.mpr c11
 have c11b1 : (a0_2 != a1_2) = true := bne_iff_ne.mpr c11
 obtain rfl := Option.some.inj H
 rotate_left
 replace c10 := Bool.eq_false_iff.mpr c10
 subst c10
 have H1 : (some false) = some r := by rw [if_neg (show ¬ (false = true) by decide)] at H; exact H
 clear H
 have H := H1
 clear H1
 obtain rfl := Option.some.inj H
 rotate_left
 all_goals
   go_enter Try.func42, Try.ntmps42
   first
    | (go_wp2_with (first | ((with_reducible refine gate_dst (N := 2) rfl ?_); refine box_event ?hg (N := 2) ?hd (cs := #[.bool a0_0, .slice A0_1 l0_1.length c0_1, .int .i64 a0_2, .int .i64 a0_3]) (t := 65) ?hr ?_; (case hd => rfl); (case hg => rfl); (case hr => first | (go_simp; done) | (go_simp; rfl)); intro gb1027 hg w7_ hbox hb; have n0_ := Aside0.mk (below_step (by repeat (first | (with_reducible first | exact HB.out | apply below_alloc | apply pw_below_drewN | apply below_drew1) | exact HB.out)) hb); have n1_ := Aside0.mk (hbox); have n2_ := Aside0.mk ((by rw [hg]; exact (below_size (by repeat (first | (with_reducible first | exact HB.out | apply below_alloc | apply pw_below_drewN | apply below_drew1) | exact HB.out))) : w.heap.size ≤ gb1027)); have n3_ := Aside0.mk ((by rw [hg]; exact (below_size (by repeat (first | (with_reducible first | exact HB.out | apply below_alloc | apply pw_below_drewN | apply below_drew1) | exact HB.out))) : w.heap.size ≤ gb1027)); clear HB; have HB := n0_; have BK1027 := n1_; have GW1027 := n2_; have GE1027 := n3_; clear n0_ n1_ n2_ n3_; clear hb hbox hg) | ((with_reducible refine gate_dst (N := 3) rfl ?_); refine box_event ?hg (N := 3) ?hd (cs := #[.bool a1_0, .slice A1_1 l1_1.length c1_1, .int .i64 a1_2, .int .i64 a1_3]) (t := 65) ?hr ?_; (case hd => rfl); (case hg => rfl); (case hr => first | (go_simp; done) | (go_simp; rfl)); intro gb1028 hg w8_ hbox hb; have n0_ := Aside0.mk (blk_below (g := gb1027) (o := .cells #[.bool a0_0, .slice A0_1 l0_1.length c0_1, .int .i64 a0_2, .int .i64 a0_3] 65 (0, 0)) (by (with_reducible repeat (first | refine blk_drewN ?_ _ | refine blk_drew ?_ | refine blk_alloc ?_ _)); exact BK1027.out) hb); have n1_ := Aside0.mk (below_step (by repeat (first | (with_reducible first | exact HB.out | apply below_alloc | apply pw_below_drewN | apply below_drew1 | refine below_set ?_ GE1027.out) | exact HB.out)) hb); have n2_ := Aside0.mk (hbox); have n3_ := Aside0.mk ((by rw [hg]; exact (below_size (by repeat (first | (with_reducible first | exact HB.out | apply below_alloc | apply pw_below_drewN | apply below_drew1 | refine below_set ?_ GE1027.out) | exact HB.out))) : w.heap.size ≤ gb1028)); have n4_ := Aside0.mk ((by rw [hg]; exact (below_size (by repeat (first | (with_reducible first | exact HB.out | apply below_alloc | apply pw_below_drewN | apply below_drew1 | refine below_set ?_ GE1027.out) | exact HB.out))) : w.heap.size ≤ gb1028)); have n5_ := Aside0.mk ((by rw [hg]; exact Nat.ne_of_lt (blk_lt (g := gb1027) (o := .cells #[.bool a0_0, .slice A0_1 l0_1.length c0_1, .int .i64 a0_2, .int .i64 a0_3] 65 (0, 0)) (by (with_reducible repeat (first | refine blk_drewN ?_ _ | refine blk_drew ?_ | refine blk_alloc ?_ _)); exact BK1027.out)) : gb1027 ≠ gb1028)); have n6_ := Aside0.mk ((by rw [hg]; exact Nat.ne_of_gt (blk_lt (g := gb1027) (o := .cells #[.bool a0_0, .slice A0_1 l0_1.length c0_1, .int .i64 a0_2, .int .i64 a0_3] 65 (0, 0)) (by (with_reducible repeat (first | refine blk_drewN ?_ _ | refine blk_drew ?_ | refine blk_alloc ?_ _)); exact BK1027.out)) : gb1028 ≠ gb1027)); clear BK1027; clear HB; have BK1027 := n0_; have HB := n1_; have BK1028 := n2_; have GW1028 := n3_; have GE1028 := n4_; have NB1027_1028 := n5_; have NB1028_1027 := n6_; clear n0_ n1_ n2_ n3_ n4_ n5_ n6_; clear hb hbox hg; have hnbq1 := NB1027_1028.out; have hncq2 := NB1028_1027.out; have hczq3_0 : w8_.cell? ⟨gb1027, 0, none⟩ = some (.bool a0_0) := (blk_cell BK1027.out 0).trans rfl; have hczq3_1 : w8_.cell? ⟨gb1027, 1, none⟩ = some (.slice A0_1 l0_1.length c0_1) := (blk_cell BK1027.out 1).trans rfl; have hczq3_2 : w8_.cell? ⟨gb1027, 2, none⟩ = some (.int .i64 a0_2) := (blk_cell BK1027.out 2).trans rfl; have hczq3_3 : w8_.cell? ⟨gb1027, 3, none⟩ = some (.int .i64 a0_3) := (blk_cell BK1027.out 3).trans rfl; have hfzq4_0 := blk_frozen BK1027.out 0; have hfzq4_1 := blk_frozen BK1027.out 1; have hfzq4_2 := blk_frozen BK1027.out 2; have hfzq4_3 := blk_frozen BK1027.out 3; have hczq5_0 : w8_.cell? ⟨gb1028, 0, none⟩ = some (.bool a1_0) := (blk_cell BK1028.out 0).trans rfl; have hczq5_1 : w8_.cell? ⟨gb1028, 1, none⟩ = some (.slice A1_1 l1_1.length c1_1) := (blk_cell BK1028.out 1).trans rfl; have hczq5_2 : w8_.cell? ⟨gb1028, 2, none⟩ = some (.int .i64 a1_2) := (blk_cell BK1028.out 2).trans rfl; have hczq5_3 : w8_.cell? ⟨gb1028, 3, none⟩ = some (.int .i64 a1_3) := (blk_cell BK1028.out 3).trans rfl; have hfzq6_0 := blk_frozen BK1028.out 0; have hfzq6_1 := blk_frozen BK1028.out 1; have hfzq6_2 := blk_frozen BK1028.out 2; have hfzq6_3 := blk_frozen BK1028.out 3))
       go_ret
       exact ⟨by first | rfl | (simp [errW_none, errW_some] <;> rfl) | (simp [*, errW_none, errW_some] <;> rfl), by repeat (first | (with_reducible first | exact HB.out | apply below_alloc | apply pw_below_drewN | apply below_drew1 | refine below_set ?_ GE1027.out | refine below_set ?_ GE1028.out) | exact HB.out)⟩)
    | (go_wp2_with (first | ((with_reducible refine gate_dst (N := 2) rfl ?_); refine box_event ?hg (N := 2) ?hd (cs := #[.bool a0_0, .slice A0_1 l0_1.length c0_1, .int .i64 a0_2, .int .i64 a0_3]) (t := 65) ?hr ?_; (case hd => rfl); (case hg => rfl); (case hr => first | (go_simp; done) | (go_simp; rfl)); intro gb1027 hg w11_ hbox hb; have n0_ := Aside0.mk (below_step (by repeat (first | (with_reducible first | exact HB.out | apply below_alloc | apply pw_below_drewN | apply below_drew1) | exact HB.out)) hb); have n1_ := Aside0.mk (hbox); have n2_ := Aside0.mk ((by rw [hg]; exact (below_size (by repeat (first | (with_reducible first | exact HB.out | apply below_alloc | apply pw_below_drewN | apply below_drew1) | exact HB.out))) : w.heap.size ≤ gb1027)); have n3_ := Aside0.mk ((by rw [hg]; exact (below_size (by repeat (first | (with_reducible first | exact HB.out | apply below_alloc | apply pw_below_drewN | apply below_drew1) | exact HB.out))) : w.heap.size ≤ gb1027)); clear HB; have HB := n0_; have BK1027 := n1_; have GW1027 := n2_; have GE1027 := n3_; clear n0_ n1_ n2_ n3_; clear hb hbox hg) | ((with_reducible refine gate_dst (N := 3) rfl ?_); refine box_event ?hg (N := 3) ?hd (cs := #[.bool a1_0, .slice A1_1 l1_1.length c1_1, .int .i64 a1_2, .int .i64 a1_3]) (t := 65) ?hr ?_; (case hd => rfl); (case hg => rfl); (case hr => first | (go_simp; done) | (go_simp; rfl)); intro gb1028 hg w12_ hbox hb; have n0_ := Aside0.mk (blk_below (g := gb1027) (o := .cells #[.bool a0_0, .slice A0_1 l0_1.length c0_1, .int .i64 a0_2, .int .i64 a0_3] 65 (0, 0)) (by (with_reducible repeat (first | refine blk_drewN ?_ _ | refine blk_drew ?_ | refine blk_alloc ?_ _)); exact BK1027.out) hb); have n1_ := Aside0.mk (below_step (by repeat (first | (with_reducible first | exact HB.out | apply below_alloc | apply pw_below_drewN | apply below_drew1 | refine below_set ?_ GE1027.out) | exact HB.out)) hb); have n2_ := Aside0.mk (hbox); have n3_ := Aside0.mk ((by rw [hg]; exact (below_size (by repeat (first | (with_reducible first | exact HB.out | apply below_alloc | apply pw_below_drewN | apply below_drew1 | refine below_set ?_ GE1027.out) | exact HB.out))) : w.heap.size ≤ gb1028)); have n4_ := Aside0.mk ((by rw [hg]; exact (below_size (by repeat (first | (with_reducible first | exact HB.out | apply below_alloc | apply pw_below_drewN | apply below_drew1 | refine below_set ?_ GE1027.out) | exact HB.out))) : w.heap.size ≤ gb1028)); have n5_ := Aside0.mk ((by rw [hg]; exact Nat.ne_of_lt (blk_lt (g := gb1027) (o := .cells #[.bool a0_0, .slice A0_1 l0_1.length c0_1, .int .i64 a0_2, .int .i64 a0_3] 65 (0, 0)) (by (with_reducible repeat (first | refine blk_drewN ?_ _ | refine blk_drew ?_ | refine blk_alloc ?_ _)); exact BK1027.out)) : gb1027 ≠ gb1028)); have n6_ := Aside0.mk ((by rw [hg]; exact Nat.ne_of_gt (blk_lt (g := gb1027) (o := .cells #[.bool a0_0, .slice A0_1 l0_1.length c0_1, .int .i64 a0_2, .int .i64 a0_3] 65 (0, 0)) (by (with_reducible repeat (first | refine blk_drewN ?_ _ | refine blk_drew ?_ | refine blk_alloc ?_ _)); exact BK1027.out)) : gb1028 ≠ gb1027)); clear BK1027; clear HB; have BK1027 := n0_; have HB := n1_; have BK1028 := n2_; have GW1028 := n3_; have GE1028 := n4_; have NB1027_1028 := n5_; have NB1028_1027 := n6_; clear n0_ n1_ n2_ n3_ n4_ n5_ n6_; clear hb hbox hg; have hnbq1 := NB1027_1028.out; have hncq2 := NB1028_1027.out; have hczq3_0 : w12_.cell? ⟨gb1027, 0, none⟩ = some (.bool a0_0) := (blk_cell BK1027.out 0).trans rfl; have hczq3_1 : w12_.cell? ⟨gb1027, 1, none⟩ = some (.slice A0_1 l0_1.length c0_1) := (blk_cell BK1027.out 1).trans rfl; have hczq3_2 : w12_.cell? ⟨gb1027, 2, none⟩ = some (.int .i64 a0_2) := (blk_cell BK1027.out 2).trans rfl; have hczq3_3 : w12_.cell? ⟨gb1027, 3, none⟩ = some (.int .i64 a0_3) := (blk_cell BK1027.out 3).trans rfl; have hfzq4_0 := blk_frozen BK1027.out 0; have hfzq4_1 := blk_frozen BK1027.out 1; have hfzq4_2 := blk_frozen BK1027.out 2; have hfzq4_3 := blk_frozen BK1027.out 3; have hczq5_0 : w12_.cell? ⟨gb1028, 0, none⟩ = some (.bool a1_0) := (blk_cell BK1028.out 0).trans rfl; have hczq5_1 : w12_.cell? ⟨gb1028, 1, none⟩ = some (.slice A1_1 l1_1.length c1_1) := (blk_cell BK1028.out 1).trans rfl; have hczq5_2 : w12_.cell? ⟨gb1028, 2, none⟩ = some (.int .i64 a1_2) := (blk_cell BK1028.out 2).trans rfl; have hczq5_3 : w12_.cell? ⟨gb1028, 3, none⟩ = some (.int .i64 a1_3) := (blk_cell BK1028.out 3).trans rfl; have hfzq6_0 := blk_frozen BK1028.out 0; have hfzq6_1 := blk_frozen BK1028.out 1; have hfzq6_2 := blk_frozen BK1028.out 2; have hfzq6_3 := blk_frozen BK1028.out 3) | ((with_reducible refine gate_callee (f := 92) rfl ?_); refine goesL_ (some 14) rfl rfl Try.func92 (by kernel_rfl) rfl #[.slice A0_1 l0_1.length c0_1, .slice A1_1 l1_1.length c1_1] rfl (by (try simp only [List.map_toArray, List.map_cons, List.map_nil]); first | done | rfl | (simp only [List.length_drop, List.length_take]; rfl)) ?_; (with_reducible refine (laws_eqPayloadS.calls k _ _ l0_1 _ _ l1_1 true _ ?side1 ?side2 ?side3 ?side4 A9.out).mono ?_); (case side1 => repeat (first | exact (Kd.C_below HR0_1.out HB.out) | (with_reducible refine Kd.C_alloc ?_ _) | (with_reducible refine Kd.C_drewN ?_ _) | (with_reducible refine Kd.C_drew ?_))); (case side2 => exact HC0_1.out); (case side3 => repeat (first | exact (Kd.C_below HR1_1.out HB.out) | (with_reducible refine Kd.C_alloc ?_ _) | (with_reducible refine Kd.C_drewN ?_ _) | (with_reducible refine Kd.C_drew ?_))); (case side4 => exact HC1_1.out); rintro e w13_ ⟨rfl, hb⟩; refine ⟨_, rfl, ?_⟩; have n0_ := Aside0.mk (blk_below (g := gb1027) (o := .cells #[.bool a0_0, .slice A0_1 l0_1.length c0_1, .int .i64 a0_2, .int .i64 a0_3] 65 (0, 0)) (by (with_reducible repeat (first | refine blk_drewN ?_ _ | refine blk_drew ?_ | refine blk_alloc ?_ _)); exact BK1027.out) hb); have n1_ := Aside0.mk (blk_below (g := gb1028) (o := .cells #[.bool a1_0, .slice A1_1 l1_1.length c1_1, .int .i64 a1_2, .int .i64 a1_3] 65 (0, 0)) (by (with_reducible repeat (first | refine blk_drewN ?_ _ | refine blk_drew ?_ | refine blk_alloc ?_ _)); exact BK1028.out) hb); have n2_ := Aside0.mk (below_step (by repeat (first | (with_reducible first | exact HB.out | apply below_alloc | apply pw_below_drewN | apply below_drew1 | refine below_set ?_ GE1027.out | refine below_set ?_ GE1028.out) | exact HB.out)) hb); clear BK1027; clear BK1028; clear HB; have BK1027 := n0_; have BK1028 := n1_; have HB := n2_; clear n0_ n1_ n2_; (try clear hb); (try clear hb2); (try clear hk); (try clear hi); have hczq7_0 : w13_.cell? ⟨gb1027, 0, none⟩ = some (.bool a0_0) := (blk_cell BK1027.out 0).trans rfl; have hczq7_1 : w13_.cell? ⟨gb1027, 1, none⟩ = some (.slice A0_1 l0_1.length c0_1) := (blk_cell BK1027.out 1).trans rfl; have hczq7_2 : w13_.cell? ⟨gb1027, 2, none⟩ = some (.int .i64 a0_2) := (blk_cell BK1027.out 2).trans rfl; have hczq7_3 : w13_.cell? ⟨gb1027, 3, none⟩ = some (.int .i64 a0_3) := (blk_cell BK1027.out 3).trans rfl; have hfzq8_0 := blk_frozen BK1027.out 0; have hfzq8_1 := blk_frozen BK1027.out 1; have hfzq8_2 := blk_frozen BK1027.out 2; have hfzq8_3 := blk_frozen BK1027.out 3; have hczq9_0 : w13_.cell? ⟨gb1028, 0, none⟩ = some (.bool a1_0) := (blk_cell BK1028.out 0).trans rfl; have hczq9_1 : w13_.cell? ⟨gb1028, 1, none⟩ = some (.slice A1_1 l1_1.length c1_1) := (blk_cell BK1028.out 1).trans rfl; have hczq9_2 : w13_.cell? ⟨gb1028, 2, none⟩ = some (.int .i64 a1_2) := (blk_cell BK1028.out 2).trans rfl; have hczq9_3 : w13_.cell? ⟨gb1028, 3, none⟩ = some (.int .i64 a1_3) := (blk_cell BK1028.out 3).trans rfl; have hfzq10_0 := blk_frozen BK1028.out 0; have hfzq10_1 := blk_frozen BK1028.out 1; have hfzq10_2 := blk_frozen BK1028.out 2; have hfzq10_3 := blk_frozen BK1028.out 3))
       go_ret
       exact ⟨by first | rfl | (simp [errW_none, errW_some] <;> rfl) | (simp [*, errW_none, errW_some] <;> rfl), by repeat (first | (with_reducible first | exact HB.out | apply below_alloc | apply pw_below_drewN | apply below_drew1 | refine below_set ?_ GE1027.out | refine below_set ?_ GE1028.out) | exact HB.out)⟩)
    | (go_wp2_with (first | ((with_reducible refine gate_dst (N := 2) rfl ?_); refine box_event ?hg (N := 2) ?hd (cs := #[.bool a0_0, .slice A0_1 l0_1.length c0_1, .int .i64 a0_2, .int .i64 a0_3]) (t := 65) ?hr ?_; (case hd => rfl); (case hg => rfl); (case hr => first | (go_simp; done) | (go_simp; rfl)); intro gb1027 hg w7_ hbox hb; have n0_ := Aside0.mk (below_step (by repeat (first | (with_reducible first | exact HB.out | apply below_alloc | apply pw_below_drewN | apply below_drew1) | exact HB.out)) hb); have n1_ := Aside0.mk (hbox); have n2_ := Aside0.mk ((by rw [hg]; exact (below_size (by repeat (first | (with_reducible first | exact HB.out | apply below_alloc | apply pw_below_drewN | apply below_drew1) | exact HB.out))) : w.heap.size ≤ gb1027)); have n3_ := Aside0.mk ((by rw [hg]; exact (below_size (by repeat (first | (with_reducible first | exact HB.out | apply below_alloc | apply pw_below_drewN | apply below_drew1) | exact HB.out))) : w.heap.size ≤ gb1027)); clear HB; have HB := n0_; have BK1027 := n1_; have GW1027 := n2_; have GE1027 := n3_; clear n0_ n1_ n2_ n3_; clear hb hbox hg) | ((with_reducible refine gate_dst (N := 3) rfl ?_); refine box_event ?hg (N := 3) ?hd (cs := #[.bool a1_0, .slice A1_1 l1_1.length c1_1, .int .i64 a1_2, .int .i64 a1_3]) (t := 65) ?hr ?_; (case hd => rfl); (case hg => rfl); (case hr => first | (go_simp; done) | (go_simp; rfl)); intro gb1028 hg w8_ hbox hb; have n0_ := Aside0.mk (blk_below (g := gb1027) (o := .cells #[.bool a0_0, .slice A0_1 l0_1.length c0_1, .int .i64 a0_2, .int .i64 a0_3] 65 (0, 0)) (by (with_reducible repeat (first | refine blk_drewN ?_ _ | refine blk_drew ?_ | refine blk_alloc ?_ _)); exact BK1027.out) hb); have n1_ := Aside0.mk (below_step (by repeat (first | (with_reducible first | exact HB.out | apply below_alloc | apply pw_below_drewN | apply below_drew1 | refine below_set ?_ GE1027.out) | exact HB.out)) hb); have n2_ := Aside0.mk (hbox); have n3_ := Aside0.mk ((by rw [hg]; exact (below_size (by repeat (first | (with_reducible first | exact HB.out | apply below_alloc | apply pw_below_drewN | apply below_drew1 | refine below_set ?_ GE1027.out) | exact HB.out))) : w.heap.size ≤ gb1028)); have n4_ := Aside0.mk ((by rw [hg]; exact (below_size (by repeat (first | (with_reducible first | exact HB.out | apply below_alloc | apply pw_below_drewN | apply below_drew1 | refine below_set ?_ GE1027.out) | exact HB.out))) : w.heap.size ≤ gb1028)); have n5_ := Aside0.mk ((by rw [hg]; exact Nat.ne_of_lt (blk_lt (g := gb1027) (o := .cells #[.bool a0_0, .slice A0_1 l0_1.length c0_1, .int .i64 a0_2, .int .i64 a0_3] 65 (0, 0)) (by (with_reducible repeat (first | refine blk_drewN ?_ _ | refine blk_drew ?_ | refine blk_alloc ?_ _)); exact BK1027.out)) : gb1027 ≠ gb1028)); have n6_ := Aside0.mk ((by rw [hg]; exact Nat.ne_of_gt (blk_lt (g := gb1027) (o := .cells #[.bool a0_0, .slice A0_1 l0_1.length c0_1, .int .i64 a0_2, .int .i64 a0_3] 65 (0, 0)) (by (with_reducible repeat (first | refine blk_drewN ?_ _ | refine blk_drew ?_ | refine blk_alloc ?_ _)); exact BK1027.out)) : gb1028 ≠ gb1027)); clear BK1027; clear HB; have BK1027 := n0_; have HB := n1_; have BK1028 := n2_; have GW1028 := n3_; have GE1028 := n4_; have NB1027_1028 := n5_; have NB1028_1027 := n6_; clear n0_ n1_ n2_ n3_ n4_ n5_ n6_; clear hb hbox hg; have hnbq1 := NB1027_1028.out; have hncq2 := NB1028_1027.out; have hczq3_0 : w8_.cell? ⟨gb1027, 0, none⟩ = some (.bool a0_0) := (blk_cell BK1027.out 0).trans rfl; have hczq3_1 : w8_.cell? ⟨gb1027, 1, none⟩ = some (.slice A0_1 l0_1.length c0_1) := (blk_cell BK1027.out 1).trans rfl; have hczq3_2 : w8_.cell? ⟨gb1027, 2, none⟩ = some (.int .i64 a0_2) := (blk_cell BK1027.out 2).trans rfl; have hczq3_3 : w8_.cell? ⟨gb1027, 3, none⟩ = some (.int .i64 a0_3) := (blk_cell BK1027.out 3).trans rfl; have hfzq4_0 := blk_frozen BK1027.out 0; have hfzq4_1 := blk_frozen BK1027.out 1; have hfzq4_2 := blk_frozen BK1027.out 2; have hfzq4_3 := blk_frozen BK1027.out 3; have hczq5_0 : w8_.cell? ⟨gb1028, 0, none⟩ = some (.bool a1_0) := (blk_cell BK1028.out 0).trans rfl; have hczq5_1 : w8_.cell? ⟨gb1028, 1, none⟩ = some (.slice A1_1 l1_1.length c1_1) := (blk_cell BK1028.out 1).trans rfl; have hczq5_2 : w8_.cell? ⟨gb1028, 2, none⟩ = some (.int .i64 a1_2) := (blk_cell BK1028.out 2).trans rfl; have hczq5_3 : w8_.cell? ⟨gb1028, 3, none⟩ = some (.int .i64 a1_3) := (blk_cell BK1028.out 3).trans rfl; have hfzq6_0 := blk_frozen BK1028.out 0; have hfzq6_1 := blk_frozen BK1028.out 1; have hfzq6_2 := blk_frozen BK1028.out 2; have hfzq6_3 := blk_frozen BK1028.out 3) | ((with_reducible refine gate_callee (f := 92) rfl ?_); refine goesL_ (some 14) rfl rfl Try.func92 (by kernel_rfl) rfl #[.slice A0_1 l0_1.length c0_1, .slice A1_1 l1_1.length c1_1] rfl (by (try simp only [List.map_toArray, List.map_cons, List.map_nil]); first | done | rfl | (simp only [List.length_drop, List.length_take]; rfl)) ?_; (with_reducible refine (laws_eqPayloadS.calls k _ _ l0_1 _ _ l1_1 false _ ?side1 ?side2 ?side3 ?side4 A9.out).mono ?_); (case side1 => repeat (first | exact (Kd.C_below HR0_1.out HB.out) | (with_reducible refine Kd.C_alloc ?_ _) | (with_reducible refine Kd.C_drewN ?_ _) | (with_reducible refine Kd.C_drew ?_))); (case side2 => exact HC0_1.out); (case side3 => repeat (first | exact (Kd.C_below HR1_1.out HB.out) | (with_reducible refine Kd.C_alloc ?_ _) | (with_reducible refine Kd.C_drewN ?_ _) | (with_reducible refine Kd.C_drew ?_))); (case side4 => exact HC1_1.out); rintro e w9_ ⟨rfl, hb⟩; refine ⟨_, rfl, ?_⟩; have n0_ := Aside0.mk (blk_below (g := gb1027) (o := .cells #[.bool a0_0, .slice A0_1 l0_1.length c0_1, .int .i64 a0_2, .int .i64 a0_3] 65 (0, 0)) (by (with_reducible repeat (first | refine blk_drewN ?_ _ | refine blk_drew ?_ | refine blk_alloc ?_ _)); exact BK1027.out) hb); have n1_ := Aside0.mk (blk_below (g := gb1028) (o := .cells #[.bool a1_0, .slice A1_1 l1_1.length c1_1, .int .i64 a1_2, .int .i64 a1_3] 65 (0, 0)) (by (with_reducible repeat (first | refine blk_drewN ?_ _ | refine blk_drew ?_ | refine blk_alloc ?_ _)); exact BK1028.out) hb); have n2_ := Aside0.mk (below_step (by repeat (first | (with_reducible first | exact HB.out | apply below_alloc | apply pw_below_drewN | apply below_drew1 | refine below_set ?_ GE1027.out | refine below_set ?_ GE1028.out) | exact HB.out)) hb); clear BK1027; clear BK1028; clear HB; have BK1027 := n0_; have BK1028 := n1_; have HB := n2_; clear n0_ n1_ n2_; (try clear hb); (try clear hb2); (try clear hk); (try clear hi)))
       go_ret
       exact ⟨by first | rfl | (simp [errW_none, errW_some] <;> rfl) | (simp [*, errW_none, errW_some] <;> rfl), by repeat (first | (with_reducible first | exact HB.out | apply below_alloc | apply pw_below_drewN | apply below_drew1 | refine below_set ?_ GE1027.out | refine below_set ?_ GE1028.out) | exact HB.out)⟩)

/-! ### laws_heldPayloadS: function 94 -/
def laws_heldPayloadS.l0 : Nat → List (S111) → Int → Int → Option (Int)
 | 0, _, _, _ => none
 | k + 1, x0, x1, x5 => if x5 < (x0.length : Int) then (if 0 ≤ x5 then ((laws_heldByteS.f k ((rd_T111 x0 x5).f0) x1).bind fun t1033 => (if t1033 < 0 then (some (-1)) else (laws_heldPayloadS.l0 k x0 t1033 (wrap64 (x5 + 1))))) else (none)) else (some x1)
def laws_heldPayloadS.f (k : Nat) (l0 : List (S111)) (a1 : Int) : Option (Int) := laws_heldPayloadS.l0 k l0 a1 0
set_option maxHeartbeats 8000000 in
set_option maxRecDepth 100000 in
theorem laws_heldPayloadS.calls (k : Nat) (A0 : Option Addr) (c0 : Nat) (l0 : List (S111)) (a1 : Int) (r : Int) (w : World) (hr0 : Kd.C k111 w A0 l0.length l0) (hc0 : l0.length ≤ c0) (h : laws_heldPayloadS.f k l0 a1 = some r) :
  Calls Try.prog 94 #[.slice A0 l0.length c0, .int .i64 a1] w fun e w' => e = .returned (.int .i64 r) ∧ Drawn0 w w' := by
 have HR0 := Aside0.mk hr0
 have HC0 := Aside0.mk hc0
 clear hr0 hc0
 have H : (laws_heldPayloadS.l0 k l0 a1 0) = some r := h
 clear h
 have H' := Aside0.mk H
 clear H
 go_enter Try.func94, Try.ntmps94
 go_wp2
 go_loopg [1, 5] k (fun kq v1 v5 w' => ∃ (x1_1 : Int) (x5_1 : Int), v1 = .int .i64 x1_1 ∧ v5 = .int .i64 x5_1 ∧ Aside0 (laws_heldPayloadS.l0 kq l0 x1_1 x5_1 = some r) ∧ Aside0 (kq ≤ k) ∧ Drawn0 w w')
 case atStart => exact ⟨(a1), (0), (by first | rfl | (simp; done) | (simp [*]; done)), (by first | rfl | (simp; done) | (simp [*]; done)), H', ⟨Nat.le_refl _⟩, by repeat (first | exact Drawn0.refl _ | apply Drawn0.step)⟩
 case round =>
  clear H'
  try clear p2
  obtain ⟨x1_1, x5_1, rfl, rfl, HA, HK1, ⟨m1, rfl⟩⟩ := hrel
  cases gk with
  | zero => exact absurd HA.out (by simp [laws_heldPayloadS.l0])
  | succ k1 =>
    have H := HA.out
    clear HA
    simp only [laws_heldPayloadS.l0] at H
    by_cases c3 : x5_1 < (l0.length : Int)
    ·rw [if_pos c3] at H
     have c3b0 : decide (x5_1 < (l0.length : Int)) = true := decide_eq_true c3
     clear c3
     by_cases c4 : 0 ≤ x5_1
     ·rw [if_pos c4] at H
      have c4b0 : decide (0 ≤ x5_1) = true := decide_eq_true c4
      clear c4
      replace H := Option.bind_eq_some_iff.mp H
      obtain ⟨t1033, A50, H⟩ := H
      replace H : (if t1033 < 0 then (some (-1)) else (laws_heldPayloadS.l0 k1 l0 t1033 (wrap64 (x5_1 + 1)))) = some r := H
      have A5 := Aside0.mk A50
      clear A50
      by_cases c6 : t1033 < 0
      ·rw [if_pos c6] at H
       have c6b0 : decide (t1033 < 0) = true := decide_eq_true c6
       clear c6
       obtain rfl := Option.some.inj H
       have p1032 : 0 ≤ (x5_1 : Int) := of_decide_eq_true (by first | (with_reducible assumption) | assumption)
       have q1032 : x5_1 < (l0.length : Int) := of_decide_eq_true (by first | (with_reducible assumption) | assumption)
       obtain ⟨ad1032, A1032_0, c1032_0, e1032, hx1032_0, hl1032_0, hi1032_0⟩ := at_T111 HR0.out x5_1 p1032 q1032
       cases e1032
       have HR1032_0 := Aside0.mk hi1032_0
       have HC1032_0 := Aside0.mk hl1032_0
       clear hi1032_0 hl1032_0
       replace p1032 := eq_true p1032
       replace q1032 := eq_true q1032
       go_wp2_with (first | ((with_reducible refine gate_callee (f := 74) rfl ?_); refine goesL_ (some 18) rfl rfl Try.func74 (by kernel_rfl) rfl #[.slice A1032_0 ((rd_T111 l0 x5_1).f0).length c1032_0, .int .i64 x1_1] rfl (by (try simp only [List.map_toArray, List.map_cons, List.map_nil]); first | done | rfl | (simp only [List.length_drop, List.length_take]; rfl)) ?_; (with_reducible refine (laws_heldByteS.calls k1 _ _ ((rd_T111 l0 x5_1).f0) x1_1 t1033 _ ?side1 ?side2 A5.out).mono ?_); (case side1 => repeat (first | exact HR1032_0.out | (with_reducible refine Kd.C_alloc ?_ _) | (with_reducible refine Kd.C_drewN ?_ _) | (with_reducible refine Kd.C_drew ?_))); (case side2 => exact HC1032_0.out); rintro e w' ⟨rfl, ⟨nd, rfl⟩⟩; refine ⟨_, rfl, ?_⟩))
       go_ret
       exact ⟨by first | rfl | (simp; done) | (simp [*]; done), by repeat (first | exact Drawn0.refl _ | apply Drawn0.step)⟩
      ·rw [if_neg c6] at H
       have c6b0 : decide (t1033 < 0) = false := decide_eq_false c6
       clear c6
       have H' := Aside0.mk H
       clear H
       have p1032 : 0 ≤ (x5_1 : Int) := of_decide_eq_true (by first | (with_reducible assumption) | assumption)
       have q1032 : x5_1 < (l0.length : Int) := of_decide_eq_true (by first | (with_reducible assumption) | assumption)
       obtain ⟨ad1032, A1032_0, c1032_0, e1032, hx1032_0, hl1032_0, hi1032_0⟩ := at_T111 HR0.out x5_1 p1032 q1032
       cases e1032
       have HR1032_0 := Aside0.mk hi1032_0
       have HC1032_0 := Aside0.mk hl1032_0
       clear hi1032_0 hl1032_0
       replace p1032 := eq_true p1032
       replace q1032 := eq_true q1032
       go_wp2_with (first | ((with_reducible refine gate_callee (f := 74) rfl ?_); refine goesL_ (some 18) rfl rfl Try.func74 (by kernel_rfl) rfl #[.slice A1032_0 ((rd_T111 l0 x5_1).f0).length c1032_0, .int .i64 x1_1] rfl (by (try simp only [List.map_toArray, List.map_cons, List.map_nil]); first | done | rfl | (simp only [List.length_drop, List.length_take]; rfl)) ?_; (with_reducible refine (laws_heldByteS.calls k1 _ _ ((rd_T111 l0 x5_1).f0) x1_1 t1033 _ ?side1 ?side2 A5.out).mono ?_); (case side1 => repeat (first | exact HR1032_0.out | (with_reducible refine Kd.C_alloc ?_ _) | (with_reducible refine Kd.C_drewN ?_ _) | (with_reducible refine Kd.C_drew ?_))); (case side2 => exact HC1032_0.out); rintro e w' ⟨rfl, ⟨nd, rfl⟩⟩; refine ⟨_, rfl, ?_⟩))
       go_roundg k1
       case measure => have := HK1.out; omega
       case rel => exact ⟨(t1033), (wrap64 (x5_1 + 1)), (by first | rfl | (simp; done) | (simp [*]; done)), (by first | rfl | (simp; done) | (simp [*]; done)), H', ⟨by have := HK1.out; omega⟩, by repeat (first | exact Drawn0.refl _ | apply Drawn0.step)⟩
     ·rw [if_neg c4] at H
      exact absurd H (by simp)
    ·rw [if_neg c3] at H
     have c3b0 : decide (x5_1 < (l0.length : Int)) = false := decide_eq_false c3
     clear c3
     obtain rfl := Option.some.inj H
     go_wp2
     go_ret
     exact ⟨by first | rfl | (simp; done) | (simp [*]; done), by repeat (first | exact Drawn0.refl _ | apply Drawn0.step)⟩

/-! ### laws_heldAreaRes: function 44 -/
def laws_heldAreaRes.f (k : Nat) (a0_0 : Bool) (l0_1 : List (S111)) (a0_2 : Int) (a0_3 : Int) (a1 : Int) : Option (Int) := (laws_heldPayloadS.f k l0_1 a1).bind fun t1035 => (if t1035 < 0 then (some (-1)) else (some t1035))
set_option maxHeartbeats 8000000 in
set_option maxRecDepth 100000 in
theorem laws_heldAreaRes.calls (k : Nat) (a0_0 : Bool) (A0_1 : Option Addr) (c0_1 : Nat) (l0_1 : List (S111)) (a0_2 : Int) (a0_3 : Int) (a1 : Int) (r : Int) (w : World) (hr0_1 : Kd.C k111 w A0_1 l0_1.length l0_1) (hc0_1 : l0_1.length ≤ c0_1) (h : laws_heldAreaRes.f k a0_0 l0_1 a0_2 a0_3 a1 = some r) :
  Calls Try.prog 44 #[.agg #[.bool a0_0, .slice A0_1 l0_1.length c0_1, .int .i64 a0_2, .int .i64 a0_3], .int .i64 a1] w fun e w' => e = .returned (.int .i64 r) ∧ Below w.heap.size w w' := by
 have hu65 := Try.underlying65
 have HR0_1 := Aside0.mk hr0_1
 have HC0_1 := Aside0.mk hc0_1
 clear hr0_1 hc0_1
 have HB := Aside0.mk (Below.refl w.heap.size w)
 have H : ((laws_heldPayloadS.f k l0_1 a1).bind fun t1035 => (if t1035 < 0 then (some (-1)) else (some t1035))) = some r := h
 clear h
 replace H := Option.bind_eq_some_iff.mp H
 obtain ⟨t1035, A30, H⟩ := H
 replace H : (if t1035 < 0 then (some (-1)) else (some t1035)) = some r := H
 have A3 := Aside0.mk A30
 clear A30
 by_cases c4 : t1035 < 0
 ·rw [if_pos c4] at H
  have c4b0 : decide (t1035 < 0) = true := decide_eq_true c4
  clear c4
  obtain rfl := Option.some.inj H
  go_enter Try.func44, Try.ntmps44
  go_wp2_with (first | ((with_reducible refine gate_dst (N := 2) rfl ?_); refine box_event ?hg (N := 2) ?hd (cs := #[.bool a0_0, .slice A0_1 l0_1.length c0_1, .int .i64 a0_2, .int .i64 a0_3]) (t := 65) ?hr ?_; (case hd => rfl); (case hg => rfl); (case hr => first | (go_simp; done) | (go_simp; rfl)); intro gb1034 hg w5 hbox hb; have n0_ := Aside0.mk (below_step (by repeat (first | (with_reducible first | exact HB.out | apply below_alloc | apply pw_below_drewN | apply below_drew1) | exact HB.out)) hb); have n1_ := Aside0.mk (hbox); have n2_ := Aside0.mk ((by rw [hg]; exact (below_size (by repeat (first | (with_reducible first | exact HB.out | apply below_alloc | apply pw_below_drewN | apply below_drew1) | exact HB.out))) : w.heap.size ≤ gb1034)); have n3_ := Aside0.mk ((by rw [hg]; exact (below_size (by repeat (first | (with_reducible first | exact HB.out | apply below_alloc | apply pw_below_drewN | apply below_drew1) | exact HB.out))) : w.heap.size ≤ gb1034)); clear HB; have HB := n0_; have BK1034 := n1_; have GW1034 := n2_; have GE1034 := n3_; clear n0_ n1_ n2_ n3_; clear hb hbox hg; have hcz6_0 : w5.cell? ⟨gb1034, 0, none⟩ = some (.bool a0_0) := (blk_cell BK1034.out 0).trans rfl; have hcz6_1 : w5.cell? ⟨gb1034, 1, none⟩ = some (.slice A0_1 l0_1.length c0_1) := (blk_cell BK1034.out 1).trans rfl; have hcz6_2 : w5.cell? ⟨gb1034, 2, none⟩ = some (.int .i64 a0_2) := (blk_cell BK1034.out 2).trans rfl; have hcz6_3 : w5.cell? ⟨gb1034, 3, none⟩ = some (.int .i64 a0_3) := (blk_cell BK1034.out 3).trans rfl; have hfz6_0 := blk_frozen BK1034.out 0; have hfz6_1 := blk_frozen BK1034.out 1; have hfz6_2 := blk_frozen BK1034.out 2; have hfz6_3 := blk_frozen BK1034.out 3) | ((with_reducible refine gate_callee (f := 94) rfl ?_); refine goesL_ (some 8) rfl rfl Try.func94 (by kernel_rfl) rfl #[.slice A0_1 l0_1.length c0_1, .int .i64 a1] rfl (by (try simp only [List.map_toArray, List.map_cons, List.map_nil]); first | done | rfl | (simp only [List.length_drop, List.length_take]; rfl)) ?_; (with_reducible refine (laws_heldPayloadS.calls k _ _ l0_1 a1 t1035 _ ?side1 ?side2 A3.out).mono ?_); (case side1 => repeat (first | exact (Kd.C_below HR0_1.out HB.out) | (with_reducible refine Kd.C_alloc ?_ _) | (with_reducible refine Kd.C_drewN ?_ _) | (with_reducible refine Kd.C_drew ?_))); (case side2 => exact HC0_1.out); rintro e w' ⟨rfl, ⟨nd, rfl⟩⟩; refine ⟨_, rfl, ?_⟩))
  go_ret
  exact ⟨by first | rfl | (simp [errW_none, errW_some] <;> rfl) | (simp [*, errW_none, errW_some] <;> rfl), by repeat (first | (with_reducible first | exact HB.out | apply below_alloc | apply pw_below_drewN | apply below_drew1 | refine below_set ?_ GE1034.out) | exact HB.out)⟩
 ·rw [if_neg c4] at H
  have c4b0 : decide (t1035 < 0) = false := decide_eq_false c4
  clear c4
  obtain rfl := Option.some.inj H
  go_enter Try.func44, Try.ntmps44
  go_wp2_with (first | ((with_reducible refine gate_dst (N := 2) rfl ?_); refine box_event ?hg (N := 2) ?hd (cs := #[.bool a0_0, .slice A0_1 l0_1.length c0_1, .int .i64 a0_2, .int .i64 a0_3]) (t := 65) ?hr ?_; (case hd => rfl); (case hg => rfl); (case hr => first | (go_simp; done) | (go_simp; rfl)); intro gb1034 hg w7 hbox hb; have n0_ := Aside0.mk (below_step (by repeat (first | (with_reducible first | exact HB.out | apply below_alloc | apply pw_below_drewN | apply below_drew1) | exact HB.out)) hb); have n1_ := Aside0.mk (hbox); have n2_ := Aside0.mk ((by rw [hg]; exact (below_size (by repeat (first | (with_reducible first | exact HB.out | apply below_alloc | apply pw_below_drewN | apply below_drew1) | exact HB.out))) : w.heap.size ≤ gb1034)); have n3_ := Aside0.mk ((by rw [hg]; exact (below_size (by repeat (first | (with_reducible first | exact HB.out | apply below_alloc | apply pw_below_drewN | apply below_drew1) | exact HB.out))) : w.heap.size ≤ gb1034)); clear HB; have HB := n0_; have BK1034 := n1_; have GW1034 := n2_; have GE1034 := n3_; clear n0_ n1_ n2_ n3_; clear hb hbox hg; have hcz8_0 : w7.cell? ⟨gb1034, 0, none⟩ = some (.bool a0_0) := (blk_cell BK1034.out 0).trans rfl; have hcz8_1 : w7.cell? ⟨gb1034, 1, none⟩ = some (.slice A0_1 l0_1.length c0_1) := (blk_cell BK1034.out 1).trans rfl; have hcz8_2 : w7.cell? ⟨gb1034, 2, none⟩ = some (.int .i64 a0_2) := (blk_cell BK1034.out 2).trans rfl; have hcz8_3 : w7.cell? ⟨gb1034, 3, none⟩ = some (.int .i64 a0_3) := (blk_cell BK1034.out 3).trans rfl; have hfz8_0 := blk_frozen BK1034.out 0; have hfz8_1 := blk_frozen BK1034.out 1; have hfz8_2 := blk_frozen BK1034.out 2; have hfz8_3 := blk_frozen BK1034.out 3) | ((with_reducible refine gate_callee (f := 94) rfl ?_); refine goesL_ (some 8) rfl rfl Try.func94 (by kernel_rfl) rfl #[.slice A0_1 l0_1.length c0_1, .int .i64 a1] rfl (by (try simp only [List.map_toArray, List.map_cons, List.map_nil]); first | done | rfl | (simp only [List.length_drop, List.length_take]; rfl)) ?_; (with_reducible refine (laws_heldPayloadS.calls k _ _ l0_1 a1 t1035 _ ?side1 ?side2 A3.out).mono ?_); (case side1 => repeat (first | exact (Kd.C_below HR0_1.out HB.out) | (with_reducible refine Kd.C_alloc ?_ _) | (with_reducible refine Kd.C_drewN ?_ _) | (with_reducible refine Kd.C_drew ?_))); (case side2 => exact HC0_1.out); rintro e w' ⟨rfl, ⟨nd, rfl⟩⟩; refine ⟨_, rfl, ?_⟩))
  go_ret
  exact ⟨by first | rfl | (simp [errW_none, errW_some] <;> rfl) | (simp [*, errW_none, errW_some] <;> rfl), by repeat (first | (with_reducible first | exact HB.out | apply below_alloc | apply pw_below_drewN | apply below_drew1 | refine below_set ?_ GE1034.out) | exact HB.out)⟩

/-! ### L_markBytes: a text by hand -/
theorem rd_mid (pre : List Int) (x : Int) (rest : List Int) : rd (pre ++ x :: rest) (pre.length : Int) = x := by unfold rd; rw [Int.toNat_natCast, List.getD_eq_getElem?_getD, List.getElem?_append_right (Nat.le_refl _)]; simp
theorem set_mid {α : Type} (pre : List α) (x y : α) (rest : List α) : (pre ++ x :: rest).set (pre.length : Int).toNat y = (pre ++ [y]) ++ rest := by rw [Int.toNat_natCast, List.set_append_right _ _ (Nat.le_refl _)]; simp
def mkB : Int → List Int → List Int
 | _, [] => []
 | k, _ :: xs => k % 256 :: mkB (k + 1) xs
theorem mkB_len (k : Int) (l : List Int) : (mkB k l).length = l.length := by induction l generalizing k with
 | nil => rfl
 | cons x xs ih => simp [mkB, ih]
theorem markB_loop (rest : List Int) : ∀ (pre : List Int) (k : Int), 0 ≤ k → k + rest.length ≤ 4611686018427387904 → pre.length + rest.length ≤ 4611686018427387904 →
   Ev (fun K => laws_markByteS.l0 K (pre ++ rest) k (pre.length : Int)) (k + rest.length, pre ++ mkB k rest) := by
 induction rest with
 | nil => intro pre k _ _ _; exact Ev.step (fun K => by simp only [laws_markByteS.l0]; rw [if_neg (by simp)]) (by simpa [mkB] using Ev.now _)
 | cons x xs ih =>
   intro pre k h0 h1 h2
   simp only [List.length_cons] at h1 h2
   have ih' := ih (pre ++ [k % 256]) (k + 1) (by omega) (by omega) (by simp; omega)
   rw [show ((pre ++ [k % 256]).length : Int) = wrap64 ((pre.length : Int) + 1) by simp; unfold wrap64; omega] at ih'
   have e : (k + 1 + (xs.length : Int), pre ++ [k % 256] ++ mkB (k + 1) xs) = (k + ((x :: xs).length : Int), pre ++ mkB k (x :: xs)) := by simp [mkB]; omega
   rw [e] at ih'
   exact Ev.step (fun K => by simp only [laws_markByteS.l0]; rw [if_pos (by simp; omega), if_pos (by omega), set_mid, show wrap64 (k + 1) = k + 1 by unfold wrap64; omega]) ih'
theorem markByteS_ev (l : List Int) (k : Int) (h0 : 0 ≤ k) (h1 : k + l.length ≤ 4611686018427387904) : Ev (fun K => laws_markByteS.f K l k) (k + l.length, mkB k l) :=
 markB_loop l [] k h0 h1 (by simp; omega)
theorem heldB_loop (rest : List Int) : ∀ (pre : List Int) (k : Int), 0 ≤ k → k + rest.length ≤ 4611686018427387904 → pre.length + rest.length ≤ 4611686018427387904 →
   Ev (fun K => laws_heldByteS.l0 K (pre ++ mkB k rest) k (pre.length : Int)) (k + rest.length) := by
 induction rest with
 | nil => intro pre k _ _ _; exact Ev.step (fun K => by simp only [laws_heldByteS.l0]; rw [if_neg (by simp [mkB])]) (by simpa using Ev.now _)
 | cons x xs ih =>
   intro pre k h0 h1 h2
   simp only [List.length_cons] at h1 h2
   have ih' := ih (pre ++ [k % 256]) (k + 1) (by omega) (by omega) (by simp; omega)
   rw [show ((pre ++ [k % 256]).length : Int) = wrap64 ((pre.length : Int) + 1) by simp; unfold wrap64; omega, List.append_assoc] at ih'
   have e : (k + 1 + (xs.length : Int)) = k + ((x :: xs).length : Int) := by simp; omega
   rw [e] at ih'
   rw [show mkB k (x :: xs) = k % 256 :: mkB (k + 1) xs from rfl]
   exact Ev.step (fun K => by simp only [laws_heldByteS.l0]; rw [if_pos (by simp [mkB_len]; omega), rd_mid, if_pos rfl, show wrap64 (k + 1) = k + 1 by unfold wrap64; omega]; rfl) ih'
theorem heldByteS_ev (l : List Int) (k : Int) (h0 : 0 ≤ k) (h1 : k + l.length ≤ 4611686018427387904) : Ev (fun K => laws_heldByteS.f K (mkB k l) k) (k + l.length) :=
 heldB_loop l [] k h0 h1 (by simp; omega)

/-! ### laws_markPendS: a text by hand -/
def laws_markPendS.l0 : Nat → List (S79) → Int → Int → Option (Int × List (S79))
 | 0, _, _, _ => none
 | k + 1, x0, x1, x5 => if x5 < (x0.length : Int) then (if 0 ≤ x5 then ((laws_markByteS.f k (rd_T79 x0 x5).f1 (wrap64 (x1 + 1))).bind fun b => laws_markPendS.l0 k (x0.set (x5 : Int).toNat (⟨x1, b.2⟩ : S79)) b.1 (wrap64 (x5 + 1))) else none) else some (x1, x0)
def laws_markPendS.f (k : Nat) (l0 : List (S79)) (a1 : Int) : Option (Int × List (S79)) := laws_markPendS.l0 k l0 a1 0
theorem pend_inner {W : World} {base g n cap : Nat} {ok : Nat → Prop} {xs : List S79} (h : Kd.S k79 79 W base ok (.slice (some ⟨g, 0, none⟩) n cap) xs) (i : Int) (h0 : 0 ≤ i) (h1 : i < xs.length) :
  ∃ (vd : Value) (oki : Nat → Prop), W.cell? ⟨g, i.toNat * 2 + 1, none⟩ = some vd ∧ Kd.R (Kd.int .u8) 5 W base oki vd (rd_T79 xs i).f1 ∧ (∀ k, oki k → ok k ∧ k ≠ g) ∧
   ∀ (W' : World) (l' : List Int) (ok' : Nat → Prop), (∀ k, k < W.heap.size → ¬ (some k = vd.ownBlock) → W'.heap[k]? = W.heap[k]?) → Kd.R (Kd.int .u8) 5 W' base ok' vd l' →
    Kd.S k79 79 W' base ok (.slice (some ⟨g, 0, none⟩) n cap) (xs.set i.toNat ⟨(rd_T79 xs i).f0, l'⟩) := by
 have hn := (Kd.S_reads' h).1
 obtain ⟨oki, c, hcl, hM, hcc, _, hoki, hH⟩ := Kd.S_elem h z79 i h0 (by omega)
 obtain ⟨vd, rfl, gd⟩ := k79_openM hM
 refine ⟨vd, oki, hcc 1 _ rfl, gd, hoki, fun W' l' ok' hk hR => ?_⟩
 have hH' := Kd.H_step hH (w1 := W') (fun k _ hn hlt => hk k hlt (fun he => hn (gd.1 k he.symm)))
 exact Kd.H_back hH' (k79_mkM W' base oki ⟨(rd_T79 xs i).f0, l'⟩ (Kd.R_reok rfl hR (fun k hk => gd.1 k hk))) (fun _ hk => hk)
theorem rdset {xs : List S79} {i : Int} {x : S79} (h0 : 0 ≤ i) (h1 : i < xs.length) : rd_T79 (xs.set i.toNat x) i = x := by
 unfold rd_T79
 rw [List.getD_eq_getElem?_getD, List.getElem?_set_self (by omega)]
 rfl
set_option maxHeartbeats 8000000 in
set_option maxRecDepth 100000 in
theorem laws_markPendS.calls (k : Nat) (P0_ : Nat → Prop) (u9000_ : Value) (l0 : List (S79)) (a1 : Int) (r1 : Int) (r2 : List (S79)) (w0 w : World) (hB : Below w0.heap.size w0 w) (ho0 : Kd.S k79 79 w w0.heap.size P0_ u9000_ l0) (h : laws_markPendS.f k l0 a1 = some (r1, r2)) :
  Calls Try.prog 73 #[u9000_, .int .i64 a1] w fun e w' => e = .returned (.int .i64 r1) ∧ Kd.S k79 79 w' w0.heap.size (fun k_ => (P0_ k_ ∨ w.heap.size ≤ k_)) u9000_ r2 ∧ Below w0.heap.size w0 w' ∧ Kept w w' (fun k_ => P0_ k_) := by
 have HO0 := Aside0.mk (show Kd.S k79 79 w w0.heap.size (fun k_ => (P0_ k_ ∨ w.heap.size ≤ k_)) u9000_ l0 from Kd.S_mono ho0 (fun k_ hk => (.inl hk)))
 have HK := Aside0.mk (Kept.refl w (fun k_ => P0_ k_))
 have HW0 := Aside0.mk hB.size
 have HB := Aside0.mk hB
 clear hB
 have H : (laws_markPendS.l0 k l0 a1 0) = some (r1, r2) := h
 clear h
 have H' := Aside0.mk H
 clear H
 go_enter Try.func73, Try.ntmps73
 go_wp2
 go_loopg [1, 5] k (fun kq v1 v5 w' => ∃ (x0_1 : List (S79)) (x1_1 : Int) (x5_1 : Int), v1 = .int .i64 x1_1 ∧ v5 = .int .i64 x5_1 ∧ Aside0 (laws_markPendS.l0 kq x0_1 x1_1 x5_1 = some (r1, r2)) ∧ Aside0 (kq ≤ k) ∧ Aside0 (Kd.S k79 79 w' w0.heap.size (fun k_ => (P0_ k_ ∨ w.heap.size ≤ k_)) u9000_ x0_1) ∧ Aside0 (Kept w w' (fun k_ => P0_ k_)) ∧ Aside0 (Below w0.heap.size w0 w'))
 case atStart => exact ⟨(l0), (a1), (0), (by first | rfl | (simp; done) | (simp [*]; done)), (by first | rfl | (simp; done) | (simp [*]; done)), H', ⟨Nat.le_refl _⟩, ⟨by (with_reducible repeat (first | apply Kd.S_alloc | apply Kd.S_drewN | apply Kd.S_drew)); exact HO0.out⟩, ⟨by repeat (first | (with_reducible first | exact HK.out | apply Kept.alloc | apply Kept.drewN | apply Kept.drew) | exact HK.out)⟩, ⟨by repeat (first | (with_reducible first | exact HB.out | apply below_alloc | apply pw_below_drewN | apply below_drew1) | exact HB.out)⟩⟩
 case round =>
  clear H'
  try clear p2
  obtain ⟨x0_1, x1_1, x5_1, rfl, rfl, HA, HK1, HO_0, HK, HB⟩ := hrel
  cases gk with
  | zero => exact absurd HA.out (by simp [laws_markPendS.l0])
  | succ k1 =>
    have H := HA.out
    clear HA
    simp only [laws_markPendS.l0] at H
    by_cases c3 : x5_1 < (x0_1.length : Int)
    ·rw [if_pos c3] at H
     have c3b0 : decide (x5_1 < (x0_1.length : Int)) = true := decide_eq_true c3
     clear c3
     by_cases c4 : 0 ≤ x5_1
     ·rw [if_pos c4] at H
      have c4b0 : decide (0 ≤ x5_1) = true := decide_eq_true c4
      clear c4
      replace H := Option.bind_eq_some_iff.mp H
      obtain ⟨⟨b1, b2⟩, HM0, H⟩ := H
      replace H : laws_markPendS.l0 k1 (x0_1.set (x5_1 : Int).toNat (⟨x1_1, b2⟩ : S79)) b1 (wrap64 (x5_1 + 1)) = some (r1, r2) := H
      have HM := Aside0.mk HM0
      clear HM0
      obtain ⟨y128, hy128⟩ : ∃ y_ : List (S79), y_ = (x0_1.set (x5_1 : Int).toNat (⟨x1_1, (rd_T79 x0_1 x5_1).f1⟩ : S79)) := ⟨_, rfl⟩
      have Ny128 := Aside0.mk hy128
      clear hy128
      have H' := Aside0.mk H
      clear H
      obtain ⟨Ao6, co6, eo6⟩ := Kd.S_slice HO_0.out
      subst eo6
      have p5 : 0 ≤ (x5_1 : Int) := of_decide_eq_true (by first | (with_reducible assumption) | assumption)
      have q5 : (x5_1 : Int) < ((x0_1.length : Int) : Int) := of_decide_eq_true (by first | (with_reducible assumption) | assumption)
      obtain ⟨go5, co5, eo5, gb5, gl5, cl5, HG5⟩ := Kd.S_form HO_0.out (by omega)
      (first | cases eo5 | (injection eo5 with ea_ en_ ec_; (first | subst ea_ | (injection ea_ with ea_; subst ea_)); subst ec_; clear en_))
      have GB5 := Aside0.mk gb5
      have GG5 := Aside0.mk HG5
      clear gb5 gl5 HG5
      have HMgo5 := Aside0.mk (show (P0_ go5 ∨ w.heap.size ≤ go5) from ((Kd.S_R HO_0.out).1 _ rfl))
      obtain ⟨_, ce5, hcl5, hM5, hcc5, hfr5, _, _⟩ := Kd.S_elem HO_0.out z79 (x5_1 : Int) p5 q5
      obtain ⟨ve5_1, rfl, ge5_1⟩ := k79_openM hM5
      have hx5_0 : wr.cell? ⟨go5, (x5_1 : Int).toNat * 2, none⟩ = some (.int .i64 ((rd_T79 x0_1 x5_1).f0)) := hcc5 0 _ rfl
      have hx5_1 : wr.cell? ⟨go5, (x5_1 : Int).toNat * 2 + 1, none⟩ = some (ve5_1) := hcc5 1 _ rfl
      have hf5_0 : wr.frozen? ⟨go5, (x5_1 : Int).toNat * 2, none⟩ = false := hfr5 0
      have hf5_1 : wr.frozen? ⟨go5, (x5_1 : Int).toNat * 2 + 1, none⟩ = false := hfr5 1
      clear hcl5 hcc5 hfr5 hM5
      replace p5 := eq_true p5
      replace q5 := eq_true q5
      have HX7 := Aside0.mk (show Kd.S k79 79 wr w0.heap.size (fun k_ => ((fun k_ => (P0_ k_ ∨ w.heap.size ≤ k_))) k_ ∧ ¬ ((fun _ => False)) k_) (.slice (some ⟨go5, 0, none⟩) x0_1.length co6) x0_1 from (by (with_reducible repeat (first | apply Kd.S_alloc | apply Kd.S_drewN | apply Kd.S_drew)); exact Kd.S_mono HO_0.out (fun k_ hk => ⟨hk, fun e_ => e_⟩)))
      obtain ⟨oki7, ce7, hcl7, hM7, hcc7, hfr7, hoki7, hH7⟩ := Kd.S_elem HX7.out z79 (x5_1 : Int) (of_decide_eq_true (by first | (with_reducible assumption) | assumption)) (by have h_ : (x5_1 : Int) < ((x0_1.length : Int) : Int) := of_decide_eq_true (by first | (with_reducible assumption) | assumption); first | exact h_ | (have e_ := (Kd.S_reads' HO_0.out).1; omega) | simpa using h_)
      obtain ⟨ve7_1, rfl, ge7_1⟩ := k79_openM hM7
      have HP7 := Kd.S_seg hH7 (of_decide_eq_true (by first | (with_reducible assumption) | assumption)) (by have h_ : (x5_1 : Int) < ((x0_1.length : Int) : Int) := of_decide_eq_true (by first | (with_reducible assumption) | assumption); first | exact h_ | (have e_ := (Kd.S_reads' HO_0.out).1; omega) | simpa using h_) (seg := [.int .i64 x1_1]) (j := 0) (show 1 ≤ 2 from by decide) (x' := (⟨x1_1, (rd_T79 x0_1 x5_1).f1⟩ : S79)) (k79_mkM _ _ _ (⟨x1_1, (rd_T79 x0_1 x5_1).f1⟩ : S79) (Kd.R_mono ge7_1 (fun _ h_ => Or.inl h_))) (fun _ hk => hk) (fun k_ hk_ => hk_.elim)
      have hx7_0 := hcc7 0 _ rfl
      (try simp only [show (k79).sz = 2 from rfl, Nat.mul_one, Nat.add_zero] at hx7_0)
      have hf7_0 := hfr7 0
      (try simp only [show (k79).sz = 2 from rfl, Nat.mul_one, Nat.add_zero] at hf7_0)
      clear hcl7 hcc7 hfr7 hM7 hoki7 hH7
      go_wp2_with (first | ((with_reducible refine gate_store (t := 2) (p := 16) rfl ?_); refine store_event (t := 2) (p := 16) (v := ?vo_w8) (w1 := (wr.setCell ⟨go5, (x5_1 : Int).toNat * 2, none⟩ (.int .i64 x1_1))) ?hg ?ho ?hn ?hr ?_; (case ho => rfl); (case hg => rfl); (case hn => rfl); (case hr => first | (go_simp; done) | (go_simp; rfl)); intro w8 hw; have hg : wr.grownBy w8 (some go5) := (by rw [hw]; exact HP7.2); have hp_ : Kd.S k79 79 w8 w0.heap.size (fun k_ => (P0_ k_ ∨ w.heap.size ≤ k_)) (.slice (some ⟨go5, 0, none⟩) x0_1.length co6) y128 := (by rw [hw, Ny128.out]; exact HP7.1); clear HP7; have n0_ := Aside0.mk (hp_); have n1_ := Aside0.mk ((by rw [hw]; exact below_set (HB.out) GB5.out : Below w0.heap.size w0 w8)); have n2_ := Aside0.mk (Kept.of_grown (S := (fun k_ => P0_ k_)) hg (by repeat (first | (with_reducible first | exact HK.out | apply Kept.alloc | apply Kept.drewN | apply Kept.drew) | exact HK.out)) (fun k_ e_ => ((Kd.S_R HO_0.out).1 k_ e_))); clear HO_0; clear HB; clear HK; have HO_0 := n0_; have HB := n1_; have HK := n2_; clear n0_ n1_ n2_; clear hg hw hp_; (have ex0 := Aside0.mk (show rd_T79 y128 x5_1 = ⟨x1_1, (rd_T79 x0_1 x5_1).f1⟩ from by rw [Ny128.out]; exact rdset (of_decide_eq_true c4b0) (of_decide_eq_true c3b0))); (have hl_ : x0_1.length = y128.length := by rw [Ny128.out, List.length_set]); (obtain ⟨vd, oki, hx8, gd, hoki, hback⟩ := pend_inner HO_0.out x5_1 (of_decide_eq_true c4b0) (by have := of_decide_eq_true c3b0; omega)); clear hl_))
      rw [ex0.out] at gd
      refine (laws_markByteS.calls k1 (fun k_ => some k_ = vd.ownBlock) vd _ _ b1 b2 w0 w8 HB.out (Kd.R_tight rfl gd) HM.out).mono ?_
      rintro e w9 ⟨rfl, hR, hB9, hK9⟩
      have n0_ := Aside0.mk hB9
      have n1_ := Aside0.mk (show Kept w w9 (fun k_ => P0_ k_) from ⟨Nat.le_trans HK.out.1 hK9.1, fun j hj hn => (hK9.2 j (Nat.lt_of_lt_of_le hj HK.out.1) (fun he => ((hoki j (gd.1 j he.symm)).1).elim hn (fun h2 => absurd h2 (Nat.not_le.2 hj)))).trans (HK.out.2 j hj hn)⟩)
      have hS := hback w9 b2 _ (fun k hlt hn => hK9.2 k hlt hn) hR
      rw [ex0.out, Ny128.out, List.set_set] at hS
      have n2_ := Aside0.mk hS
      clear hR hB9 hK9 hS hback hoki gd ex0 HO_0 HB HK
      have HB := n0_
      have HK := n1_
      have HO_0 := n2_
      clear n0_ n1_ n2_ HX7 Ny128
      go_wp2
      go_roundg k1
      case measure => have := HK1.out; omega
      case rel => exact ⟨_, _, _, rfl, rfl, H', ⟨by have := HK1.out; omega⟩, HO_0, HK, HB⟩
     ·rw [if_neg c4] at H
      exact absurd H (by simp)
    ·rw [if_neg c3] at H
     have c3b0 : decide (x5_1 < (x0_1.length : Int)) = false := decide_eq_false c3
     clear c3
     simp only [Option.some.injEq, Prod.mk.injEq] at H
     obtain ⟨rfl, rfl⟩ := H
     obtain ⟨Ao9, co9, eo9⟩ := Kd.S_slice HO_0.out
     subst eo9
     go_wp2
     go_ret
     exact ⟨by first | rfl | (simp [errW_none, errW_some] <;> rfl) | (simp [*, errW_none, errW_some] <;> rfl), by (with_reducible repeat (first | apply Kd.S_alloc | apply Kd.S_drewN | apply Kd.S_drew)); exact HO_0.out, by repeat (first | (with_reducible first | exact HB.out | apply below_alloc | apply pw_below_drewN | apply below_drew1) | exact HB.out), by repeat (first | (with_reducible first | exact HK.out | apply Kept.alloc | apply Kept.drewN | apply Kept.drew) | exact HK.out)⟩

/-! ### L_markDisk: a text by hand -/
def mkP : Int → List S79 → Int × List S79
 | k, [] => (k, [])
 | k, x :: xs => ((mkP (k + 1 + x.f1.length) xs).1, ⟨k, mkB (k + 1) x.f1⟩ :: (mkP (k + 1 + x.f1.length) xs).2)
theorem mkP_bd (l : List S79) (hl : ∀ x ∈ l, x.f1.length ≤ 1048576) : ∀ k : Int, k ≤ (mkP k l).1 ∧ (mkP k l).1 ≤ k + 1048577 * l.length := by
 induction l with
 | nil => intro k; simp [mkP]
 | cons x xs ih =>
   intro k
   have h := ih (fun y hy => hl y (List.mem_cons_of_mem _ hy)) (k + 1 + x.f1.length)
   have hx := hl x List.mem_cons_self
   simp only [mkP, List.length_cons]
   omega
theorem rd_midP (pre : List S79) (x : S79) (rest : List S79) : rd_T79 (pre ++ x :: rest) (pre.length : Int) = x := by unfold rd_T79; rw [Int.toNat_natCast, List.getD_eq_getElem?_getD, List.getElem?_append_right (Nat.le_refl _)]; simp
theorem markP_loop (rest : List S79) (hl : ∀ x ∈ rest, x.f1.length ≤ 1048576) : ∀ (pre : List S79) (k : Int), 0 ≤ k → k + 1048577 * rest.length ≤ 4611686018427387904 → pre.length + rest.length ≤ 4611686018427387904 →
   Ev (fun K => laws_markPendS.l0 K (pre ++ rest) k (pre.length : Int)) ((mkP k rest).1, pre ++ (mkP k rest).2) := by
 induction rest with
 | nil => intro pre k _ _ _; exact Ev.step (fun K => by simp only [laws_markPendS.l0]; rw [if_neg (by simp)]) (by simpa [mkP] using Ev.now _)
 | cons x xs ih =>
   intro pre k h0 h1 h2
   have hx := hl x List.mem_cons_self
   simp only [List.length_cons] at h1 h2
   have ih' := ih (fun y hy => hl y (List.mem_cons_of_mem _ hy)) (pre ++ [⟨k, mkB (k + 1) x.f1⟩]) (k + 1 + x.f1.length) (by omega) (by omega) (by simp; omega)
   rw [show ((pre ++ [(⟨k, mkB (k + 1) x.f1⟩ : S79)]).length : Int) = wrap64 ((pre.length : Int) + 1) by simp; unfold wrap64; omega] at ih'
   have e : ((mkP (k + 1 + x.f1.length) xs).1, pre ++ [(⟨k, mkB (k + 1) x.f1⟩ : S79)] ++ (mkP (k + 1 + x.f1.length) xs).2) = ((mkP k (x :: xs)).1, pre ++ (mkP k (x :: xs)).2) := by simp [mkP]
   rw [e] at ih'
   refine Ev.step (fun K => by simp only [laws_markPendS.l0]; rw [if_pos (by simp; omega), if_pos (by omega), rd_midP, show wrap64 (k + 1) = k + 1 by unfold wrap64; omega]) (Ev.bind (markByteS_ev x.f1 (k + 1) (by omega) (by omega)) ?_)
   exact Ev.congr (fun K => by rw [set_mid]) ih'
theorem markPendS_ev (l : List S79) (hl : ∀ x ∈ l, x.f1.length ≤ 1048576) (k : Int) (h0 : 0 ≤ k) (h1 : k + 1048577 * l.length ≤ 4611686018427387904) : Ev (fun K => laws_markPendS.f K l k) (mkP k l) :=
 markP_loop l hl [] k h0 h1 (by simp; omega)

/-! ### laws_markDisk: a text by hand -/
set_option maxHeartbeats 1000000 in
set_option maxRecDepth 100000 in
theorem laws_markDisk.calls (k1 k2 : Nat) (P0 P1 : Nat → Prop) (v0 v1 : Value) (l0 : List Int) (l1 : List S79) (a2 : Int) (a3 : Bool) (a1 b1 : Int) (b2 : List Int) (r1 : Int) (r2 : List S79) (w0 w : World)
  (hB : Below w0.heap.size w0 w) (ho0 : Kd.R (Kd.int .u8) 5 w w0.heap.size P0 v0 l0) (ho1 : Kd.S k79 79 w w0.heap.size P1 v1 l1) (hp : ∀ k, P0 k → ¬ P1 k)
  (h1 : laws_markByteS.f k1 l0 a1 = some (b1, b2)) (h2 : laws_markPendS.f k2 l1 b1 = some (r1, r2)) :
  Calls Try.prog 28 #[.agg #[v0, v1, .int .i64 a2, .bool a3], .int .i64 a1] w fun e w' => e = .returned (.int .i64 r1) ∧ Kd.R (Kd.int .u8) 5 w' w0.heap.size P0 v0 b2 ∧
    Kd.S k79 79 w' w0.heap.size (fun k => P1 k ∨ w.heap.size ≤ k) v1 r2 ∧ Below w0.heap.size w0 w' ∧ Kept w w' (fun k => P0 k ∨ P1 k) := by
 have H1 := Aside0.mk h1
 have H2 := Aside0.mk h2
 have HB := Aside0.mk hB
 have HO0 := Aside0.mk ho0
 have HO1 := Aside0.mk ho1
 have HP := Aside0.mk hp
 clear h1 h2 hB ho0 ho1 hp
 have hu := Try.underlying25
 obtain ⟨A0, c0, rfl⟩ := Kd.R_slice HO0.out
 obtain ⟨A1, c1, rfl⟩ := Kd.S_slice HO1.out
 go_enter Try.func28, Try.ntmps28
 go_wp2_with fail
 have hlt0 := Kd.R_lt HO0.out
 have hS1 := Kd.S_mono (ok' := fun k => P1 k ∧ k < w.heap.size) (Kd.S_bound HO1.out) (fun k hk => ⟨hk.1, hk.2.2.1⟩)
 refine (laws_markByteS.calls k1 (fun k => some k = (Value.slice A0 l0.length c0).ownBlock) _ _ _ b1 b2 w0 _ (below_allocB HB.out HB.out.size _) (Kd.R_alloc (Kd.R_tight rfl HO0.out) _) H1.out).mono ?_
 rintro e w1 ⟨rfl, hR, hB1, hK1⟩
 have G0 := blk_kept (blk_new w _) hK1 (fun he => absurd (hlt0 _ he.symm) (Nat.lt_irrefl _))
 have hx := blk_cell G0 1
 have hx1 : w1.cell? ⟨w.heap.size, 1, none⟩ = some (.slice A1 l1.length c1) := hx.trans rfl
 clear hx
 have hR' := Aside0.mk (Kd.R_reok rfl hR (fun k hk => HO0.out.1 k hk))
 have hS' := Aside0.mk (Kd.S_kept (Kd.S_alloc hS1 _) hK1 (fun k hk he => HP.out k (HO0.out.1 k he.symm) hk.1))
 have hz1 := Aside0.mk hK1.1
 have HK1 := Aside0.mk (show Kept w w1 (fun k => P0 k ∨ P1 k) from (Kept.alloc (Kept.refl w _) _).then_ hK1 (fun k hk => .inl (.inl (HO0.out.1 k hk.symm))))
 have HB1 := Aside0.mk hB1
 clear hR hB1 hK1 G0 hlt0 hS1
 go_wp2_with fail
 refine (laws_markPendS.calls k2 (fun k => P1 k ∧ k < w.heap.size) _ _ _ r1 r2 w0 _ HB1.out hS'.out H2.out).mono ?_
 rintro e w2 ⟨rfl, hS, hB2, hK2⟩
 have n0 := Aside0.mk (Kd.R_kept hR'.out hK2 (fun k hk he => HP.out k hk he.1))
 have n1 := Aside0.mk (Kd.S_mono (ok' := fun k => P1 k ∨ w.heap.size ≤ k) hS (fun k hk => hk.imp (fun h => h.1) (fun h => by have := HK1.out.1; omega)))
 have n2 := Aside0.mk hB2
 have n3 := Aside0.mk (HK1.out.then_ hK2 (fun k hk => .inl (.inr hk.1)))
 clear hS hB2 hK2
 go_wp2
 go_ret
 exact ⟨rfl, n0.out, n1.out, n2.out, n3.out⟩

/-! ### laws_markDisk2: a text by hand -/
theorem laws_markByteS.own (k lo hi : Nat) (v : Value) (l : List Int) (m0 m1 : Int) (l' : List Int) (w0 w : World) {ok : Nat → Prop} (hle : w0.heap.size ≤ lo) (hB : Below w0.heap.size w0 w)
   (ho : Kd.R (Kd.int .u8) 5 w w0.heap.size (fun k => (lo ≤ k ∧ k < hi) ∧ ok k) v l) (h : laws_markByteS.f k l m0 = some (m1, l')) :
   Calls Try.prog 39 #[v, .int .i64 m0] w fun e w' => e = .returned (.int .i64 m1) ∧ Kd.R (Kd.int .u8) 5 w' w0.heap.size (fun k => (lo ≤ k ∧ k < hi) ∧ ok k) v l' ∧ Below w0.heap.size w0 w' ∧ Kept w w' (fun k => lo ≤ k ∧ k < hi) :=
 (laws_markByteS.calls k (fun k => (lo ≤ k ∧ k < hi) ∧ ok k) v l m0 m1 l' w0 w hB ho h).mono fun e w' hh => ⟨hh.1, Kd.R_reok rfl hh.2.1 (fun k hk => ho.1 k hk), hh.2.2.1, hh.2.2.2.mono (fun k hk => hk.1)⟩
theorem laws_markDisk.own (k1 k2 lo hi : Nat) (v0 v1 : Value) (a2 : Int) (a3 : Bool) (l0 : List Int) (l1 : List S79) (m0 m1 m2 : Int) (l0' : List Int) (l1' : List S79) (w0 w : World) {ok0 : Nat → Prop} (hle : w0.heap.size ≤ lo) (hB : Below w0.heap.size w0 w)
   (ho0 : Kd.R (Kd.int .u8) 5 w w0.heap.size (fun k => (lo ≤ k ∧ k < hi) ∧ ok0 k) v0 l0) (ho1 : Kd.S k79 79 w w0.heap.size (fun k => (lo ≤ k ∧ k < hi) ∧ some k ≠ v0.ownBlock) v1 l1)
   (h1 : laws_markByteS.f k1 l0 m0 = some (m1, l0')) (h2 : laws_markPendS.f k2 l1 m1 = some (m2, l1')) :
   Calls Try.prog 28 #[.agg #[v0, v1, .int .i64 a2, .bool a3], .int .i64 m0] w fun e w' => e = .returned (.int .i64 m2) ∧ Kd.R (Kd.int .u8) 5 w' w0.heap.size (fun k => (lo ≤ k ∧ k < hi) ∧ some k = v0.ownBlock) v0 l0' ∧
     Kd.S k79 79 w' w0.heap.size (fun k => ((lo ≤ k ∧ k < hi) ∧ some k ≠ v0.ownBlock) ∨ w.heap.size ≤ k) v1 l1' ∧ Below w0.heap.size w0 w' ∧ Kept w w' (fun k => lo ≤ k ∧ k < hi) :=
 (laws_markDisk.calls k1 k2 (fun k => (lo ≤ k ∧ k < hi) ∧ some k = v0.ownBlock) (fun k => (lo ≤ k ∧ k < hi) ∧ some k ≠ v0.ownBlock) v0 v1 l0 l1 a2 a3 m0 m1 l0' m2 l1' w0 w hB (Kd.R_reok rfl ho0 (fun k hk => ⟨(ho0.1 k hk).1, hk.symm⟩)) ho1 (fun k a b => b.2 a.2) h1 h2).mono
   fun e w' hh => ⟨hh.1, hh.2.1, hh.2.2.1, hh.2.2.2.1, hh.2.2.2.2.mono (fun k hk => hk.elim (fun h => h.1) (fun h => h.1))⟩

/-! ### laws_markPayloadS: a text by hand -/
def laws_markPayloadS.l0 : Nat → List (S111) → Int → Int → Option (Int × List (S111))
 | 0, _, _, _ => none
 | k + 1, x0, x1, x5 => if x5 < (x0.length : Int) then (if 0 ≤ x5 then ((laws_markByteS.f k (rd_T111 x0 x5).f0 x1).bind fun b => laws_markPayloadS.l0 k (x0.set (x5 : Int).toNat (⟨b.2⟩ : S111)) b.1 (wrap64 (x5 + 1))) else none) else some (x1, x0)
def laws_markPayloadS.f (k : Nat) (l0 : List (S111)) (a1 : Int) : Option (Int × List (S111)) := laws_markPayloadS.l0 k l0 a1 0
theorem payload_inner {W : World} {base g n cap : Nat} {ok : Nat → Prop} {xs : List S111} (h : Kd.S k111 111 W base ok (.slice (some ⟨g, 0, none⟩) n cap) xs) (i : Int) (h0 : 0 ≤ i) (h1 : i < xs.length) :
   ∃ (vd : Value) (oki : Nat → Prop), W.cell? ⟨g, i.toNat, none⟩ = some vd ∧ Kd.R (Kd.int .u8) 5 W base oki vd (rd_T111 xs i).f0 ∧ (∀ k, oki k → ok k ∧ k ≠ g) ∧
    ∀ (W' : World) (l' : List Int) (ok' : Nat → Prop), (∀ k, k < W.heap.size → ¬ (some k = vd.ownBlock) → W'.heap[k]? = W.heap[k]?) → Kd.R (Kd.int .u8) 5 W' base ok' vd l' →
     Kd.S k111 111 W' base ok (.slice (some ⟨g, 0, none⟩) n cap) (xs.set i.toNat ⟨l'⟩) := by
 have hn := (Kd.S_reads' h).1
 obtain ⟨oki, c, hcl, hM, hcc, _, hoki, hH⟩ := Kd.S_elem h z111 i h0 (by omega)
 obtain ⟨vd, rfl, gd⟩ := k111_openM hM
 have hc0 := hcc 0 _ rfl
 (try simp only [show (k111).sz = 1 from rfl, Nat.mul_one, Nat.add_zero] at hc0)
 refine ⟨vd, oki, hc0, gd, hoki, fun W' l' ok' hk hR => ?_⟩
 have hH' := Kd.H_step hH (w1 := W') (fun k _ hn hlt => hk k hlt (fun he => hn (gd.1 k he.symm)))
 exact Kd.H_back hH' (k111_mkM W' base oki ⟨l'⟩ (Kd.R_reok rfl hR (fun k hk => gd.1 k hk))) (fun _ hk => hk)
set_option maxHeartbeats 8000000 in
set_option maxRecDepth 100000 in
theorem laws_markPayloadS.calls (k : Nat) (P0_ : Nat → Prop) (u9000_ : Value) (l0 : List (S111)) (a1 : Int) (r1 : Int) (r2 : List (S111)) (w0 w : World) (hB : Below w0.heap.size w0 w) (ho0 : Kd.S k111 111 w w0.heap.size P0_ u9000_ l0) (h : laws_markPayloadS.f k l0 a1 = some (r1, r2)) :
  Calls Try.prog 93 #[u9000_, .int .i64 a1] w fun e w' => e = .returned (.int .i64 r1) ∧ Kd.S k111 111 w' w0.heap.size (fun k_ => (P0_ k_ ∨ w.heap.size ≤ k_)) u9000_ r2 ∧ Below w0.heap.size w0 w' ∧ Kept w w' (fun k_ => P0_ k_) := by
 have HO0 := Aside0.mk (show Kd.S k111 111 w w0.heap.size (fun k_ => (P0_ k_ ∨ w.heap.size ≤ k_)) u9000_ l0 from Kd.S_mono ho0 (fun k_ hk => (.inl hk)))
 have HK := Aside0.mk (Kept.refl w (fun k_ => P0_ k_))
 have HW0 := Aside0.mk hB.size
 have HB := Aside0.mk hB
 clear hB
 have H' := Aside0.mk (show laws_markPayloadS.l0 k l0 a1 0 = some (r1, r2) from h)
 clear h
 go_enter Try.func93, Try.ntmps93
 go_wp2
 go_loopg [1, 5] k (fun kq v1 v5 w' => ∃ (x0_1 : List (S111)) (x1_1 : Int) (x5_1 : Int), v1 = .int .i64 x1_1 ∧ v5 = .int .i64 x5_1 ∧ Aside0 (laws_markPayloadS.l0 kq x0_1 x1_1 x5_1 = some (r1, r2)) ∧ Aside0 (kq ≤ k) ∧ Aside0 (Kd.S k111 111 w' w0.heap.size (fun k_ => (P0_ k_ ∨ w.heap.size ≤ k_)) u9000_ x0_1) ∧ Aside0 (Kept w w' (fun k_ => P0_ k_)) ∧ Aside0 (Below w0.heap.size w0 w'))
 case atStart => exact ⟨(l0), (a1), (0), rfl, rfl, H', ⟨Nat.le_refl _⟩, HO0, HK, HB⟩
 case round =>
  clear H'
  try clear p2
  obtain ⟨x0_1, x1_1, x5_1, rfl, rfl, HA, HK1, HO_0, HK, HB⟩ := hrel
  cases gk with
  | zero => exact absurd HA.out (by simp [laws_markPayloadS.l0])
  | succ k1 =>
    have H := HA.out
    clear HA
    simp only [laws_markPayloadS.l0] at H
    by_cases c3 : x5_1 < (x0_1.length : Int)
    ·rw [if_pos c3] at H
     have c3b0 : decide (x5_1 < (x0_1.length : Int)) = true := decide_eq_true c3
     by_cases c4 : 0 ≤ x5_1
     ·rw [if_pos c4] at H
      have c4b0 : decide (0 ≤ x5_1) = true := decide_eq_true c4
      replace H := Option.bind_eq_some_iff.mp H
      obtain ⟨⟨b1, b2⟩, HM0, H⟩ := H
      have HM := Aside0.mk HM0
      clear HM0
      have H' := Aside0.mk (show laws_markPayloadS.l0 k1 (x0_1.set (x5_1 : Int).toNat (⟨b2⟩ : S111)) b1 (wrap64 (x5_1 + 1)) = some (r1, r2) from H)
      clear H
      obtain ⟨Ao6, co6, eo6⟩ := Kd.S_slice HO_0.out
      subst eo6
      obtain ⟨go5, co5, eo5, gb5, gl5, cl5, HG5⟩ := Kd.S_form HO_0.out (by omega)
      (first | cases eo5 | (injection eo5 with ea_ en_ ec_; (first | subst ea_ | (injection ea_ with ea_; subst ea_)); subst ec_; clear en_))
      clear gb5 gl5 HG5
      obtain ⟨vd, oki, hx8, gd, hoki, hback⟩ := payload_inner HO_0.out x5_1 c4 c3
      have HP := Aside0.mk (And.intro gd (And.intro hoki hback))
      clear gd hoki hback
      have p5 := eq_true c4
      have q5 := eq_true c3
      clear c3 c4
      go_wp2_with fail
      refine (laws_markByteS.calls k1 (fun k_ => some k_ = vd.ownBlock) vd _ _ b1 b2 w0 wr HB.out (Kd.R_tight rfl HP.out.1) HM.out).mono ?_
      rintro e w9 ⟨rfl, hR, hB9, hK9⟩
      have n0_ := Aside0.mk hB9
      have n1_ := Aside0.mk (show Kept w w9 (fun k_ => P0_ k_) from ⟨Nat.le_trans HK.out.1 hK9.1, fun j hj hn => (hK9.2 j (Nat.lt_of_lt_of_le hj HK.out.1) (fun he => ((HP.out.2.1 j (HP.out.1.1 j he.symm)).1).elim hn (fun h2 => absurd h2 (Nat.not_le.2 hj)))).trans (HK.out.2 j hj hn)⟩)
      have n2_ := Aside0.mk (HP.out.2.2 w9 b2 _ (fun k hlt hn => hK9.2 k hlt hn) hR)
      clear hR hB9 hK9 HP HO_0 HB HK
      go_wp2
      go_roundg k1
      case measure => have := HK1.out; omega
      case rel => exact ⟨_, _, _, rfl, rfl, H', ⟨by have := HK1.out; omega⟩, n2_, n1_, n0_⟩
     ·rw [if_neg c4] at H
      exact absurd H (by simp)
    ·rw [if_neg c3] at H
     have c3b0 : decide (x5_1 < (x0_1.length : Int)) = false := decide_eq_false c3
     clear c3
     simp only [Option.some.injEq, Prod.mk.injEq] at H
     obtain ⟨rfl, rfl⟩ := H
     obtain ⟨Ao9, co9, eo9⟩ := Kd.S_slice HO_0.out
     subst eo9
     go_wp2
     go_ret
     exact ⟨rfl, HO_0.out, HB.out, HK.out⟩

/-! ### laws_markqAreaRes2: a text by hand -/
set_option maxHeartbeats 1000000 in
set_option maxRecDepth 100000 in
theorem laws_markAreaRes.own (k lo hi : Nat) (a0 : Bool) (v : Value) (a2 a3 : Int) (l : List S111) (m0 m1 : Int) (l' : List S111) (w0 w : World) {ok : Nat → Prop} (hle : w0.heap.size ≤ lo) (hB : Below w0.heap.size w0 w)
  (ho : Kd.S k111 111 w w0.heap.size (fun k => (lo ≤ k ∧ k < hi) ∧ ok k) v l) (h : laws_markPayloadS.f k l m0 = some (m1, l')) :
  Calls Try.prog 43 #[.agg #[.bool a0, v, .int .i64 a2, .int .i64 a3], .int .i64 m0] w fun e w' => e = .returned (.int .i64 m1) ∧ Kd.S k111 111 w' w0.heap.size (fun k => ((lo ≤ k ∧ k < hi) ∧ ok k) ∨ w.heap.size ≤ k) v l' ∧ Below w0.heap.size w0 w' ∧ Kept w w' (fun k => lo ≤ k ∧ k < hi) := by
 have HB := Aside0.mk hB
 have HO := Aside0.mk ho
 have H := Aside0.mk h
 clear h hB ho
 have hu := Try.underlying65
 obtain ⟨A0, c0, rfl⟩ := Kd.S_slice HO.out
 have hS := Aside0.mk (Kd.S_mono (ok' := fun k => ((lo ≤ k ∧ k < hi) ∧ ok k) ∧ k < w.heap.size) (Kd.S_bound HO.out) (fun k hk => ⟨hk.1, hk.2.2.1⟩))
 go_enter Try.func43, Try.ntmps43
 go_wp2_with fail
 refine (laws_markPayloadS.calls k (fun k => ((lo ≤ k ∧ k < hi) ∧ ok k) ∧ k < w.heap.size) _ _ _ m1 l' w0 _ (below_allocB HB.out HB.out.size _) (Kd.S_alloc hS.out _) H.out).mono ?_
 rintro e w1 ⟨rfl, hR, hB1, hK1⟩
 have n1 := Aside0.mk (Kd.S_mono (ok' := fun k => ((lo ≤ k ∧ k < hi) ∧ ok k) ∨ w.heap.size ≤ k) hR (fun k hk => hk.imp (fun h => h.1) (fun h => by simp at h; omega)))
 have n2 := Aside0.mk hB1
 have n3 := Aside0.mk (show Kept w w1 (fun k => lo ≤ k ∧ k < hi) from (Kept.alloc (Kept.refl w _) _).then_ hK1 (fun k hk => .inl hk.1.1))
 clear hR hB1 hK1
 go_wp2
 go_ret
 exact ⟨rfl, n1.out, n2.out, n3.out⟩

/-! ### zL_recB: a text by hand -/
theorem rrOf_len (l0 : List Int) (l1 : List S79) (a2 at_ seq : Int) : (rrOf l0 l1 a2 at_ seq).2.1.length ≤ 30000 := by
 unfold rrOf mRR
 split
 ·split
  ·simp
  ·split
   ·simp
   ·split
    ·simp
    ·dsimp only; omega
 ·simp
theorem raF_len {l0 : List Int} {l1 : List S79} {a2 : Int} (hok : RsOk l0 l1) (b a : Int) : ∀ (n : Nat) (ok : Bool) (ps : List S111) (u nx : Int), 0 ≤ u → u ≤ a → (ps.length : Int) ≤ u → (∀ p ∈ ps, p.f0.length ≤ 30000) →
   ((raF (rrOf l0 l1 a2) b a n ok ps u nx).2.1.length : Int) ≤ a ∧ ∀ p ∈ (raF (rrOf l0 l1 a2) b a n ok ps u nx).2.1, p.f0.length ≤ 30000
 | 0, _, ps, u, _, _, h1, h2, h3 => ⟨by unfold raF; exact Int.le_trans h2 h1, h3⟩
 | n + 1, ok, ps, u, nx, h0, h1, h2, h3 => by
   rw [raF]
   by_cases c : gN nx = true ∧ (rrOf l0 l1 a2 (b + u) nx).1 = true ∧ ¬ u + (rrOf l0 l1 a2 (b + u) nx).2.2 > a
   · rw [if_pos c]
     have hb := rr_bd hok (b + u) nx c.2.1
     have hl := rrOf_len l0 l1 a2 (b + u) nx
     refine raF_len hok b a n true _ _ _ (by omega) (by omega) (by rw [List.length_append]; simp; omega) (fun p hp => ?_)
     rcases List.mem_append.1 hp with hp | hp
     ·exact h3 p hp
     ·rw [List.mem_singleton.1 hp]; exact hl
   · rw [if_neg c]
     exact ⟨Int.le_trans h2 h1, h3⟩
theorem mRA_len {l0 : List Int} {l1 : List S79} {a2 : Int} (hok : RsOk l0 l1) (ar fs : Int) : (mRA l0 l1 a2 ar fs).2.1.length ≤ 1048576 ∧ ∀ p ∈ (mRA l0 l1 a2 ar fs).2.1, p.f0.length ≤ 30000 := by
 unfold mRA
 split
 next h =>
  split
  ·have hv : vD l0 l1 a2 = true := by simp only [Bool.and_eq_true] at h; exact h.1.1.1
   have hb := asz_bd hv
   have := raF_len (a2 := a2) hok (2 + ar * asz l0) (asz l0) ((asz l0).toNat + 1) false [] 0 fs (by omega) (by omega) (by simp) (by simp)
   unfold raAll
   exact ⟨by omega, this.2⟩
  ·simp
 ·simp
def mkQ : Int → List S111 → Int × List S111
 | k, [] => (k, [])
 | k, x :: xs => ((mkQ (k + x.f0.length) xs).1, ⟨mkB k x.f0⟩ :: (mkQ (k + x.f0.length) xs).2)
theorem mkQ_bd (l : List S111) (hl : ∀ x ∈ l, x.f0.length ≤ 30000) : ∀ k : Int, k ≤ (mkQ k l).1 ∧ (mkQ k l).1 ≤ k + 30000 * l.length := by
 induction l with
 | nil => intro k; simp [mkQ]
 | cons x xs ih =>
   intro k
   have h := ih (fun y hy => hl y (List.mem_cons_of_mem _ hy)) (k + x.f0.length)
   have hx := hl x List.mem_cons_self
   simp only [mkQ, List.length_cons]
   omega
theorem mkQ_len (k : Int) (l : List S111) : (mkQ k l).2.length = l.length := by induction l generalizing k with
 | nil => rfl
 | cons x xs ih => simp [mkQ, ih]
theorem rd_midQ (pre : List S111) (x : S111) (rest : List S111) : rd_T111 (pre ++ x :: rest) (pre.length : Int) = x := by unfold rd_T111; rw [Int.toNat_natCast, List.getD_eq_getElem?_getD, List.getElem?_append_right (Nat.le_refl _)]; simp
theorem markQ_loop (rest : List S111) (hl : ∀ x ∈ rest, x.f0.length ≤ 30000) : ∀ (pre : List S111) (k : Int), 0 ≤ k → k + 30000 * rest.length ≤ 4611686018427387904 → pre.length + rest.length ≤ 4611686018427387904 →
   Ev (fun K => laws_markPayloadS.l0 K (pre ++ rest) k (pre.length : Int)) ((mkQ k rest).1, pre ++ (mkQ k rest).2) := by
 induction rest with
 | nil => intro pre k _ _ _; exact Ev.step (fun K => by simp only [laws_markPayloadS.l0]; rw [if_neg (by simp)]) (by simpa [mkQ] using Ev.now _)
 | cons x xs ih =>
   intro pre k h0 h1 h2
   have hx := hl x List.mem_cons_self
   simp only [List.length_cons] at h1 h2
   have ih' := ih (fun y hy => hl y (List.mem_cons_of_mem _ hy)) (pre ++ [⟨mkB k x.f0⟩]) (k + x.f0.length) (by omega) (by omega) (by simp; omega)
   rw [show ((pre ++ [(⟨mkB k x.f0⟩ : S111)]).length : Int) = wrap64 ((pre.length : Int) + 1) by simp; unfold wrap64; omega] at ih'
   have e : ((mkQ (k + x.f0.length) xs).1, pre ++ [(⟨mkB k x.f0⟩ : S111)] ++ (mkQ (k + x.f0.length) xs).2) = ((mkQ k (x :: xs)).1, pre ++ (mkQ k (x :: xs)).2) := by simp [mkQ]
   rw [e] at ih'
   refine Ev.step (fun K => by simp only [laws_markPayloadS.l0]; rw [if_pos (by simp; omega), if_pos (by omega), rd_midQ]) (Ev.bind (markByteS_ev x.f0 k (by omega) (by omega)) ?_)
   exact Ev.congr (fun K => by rw [set_mid]) ih'
theorem markPayloadS_ev (l : List S111) (hl : ∀ x ∈ l, x.f0.length ≤ 30000) (k : Int) (h0 : 0 ≤ k) (h1 : k + 30000 * l.length ≤ 4611686018427387904) : Ev (fun K => laws_markPayloadS.f K l k) (mkQ k l) :=
 markQ_loop l hl [] k h0 h1 (by simp; omega)
theorem heldQ_loop (rest : List S111) (hl : ∀ x ∈ rest, x.f0.length ≤ 30000) : ∀ (pre : List S111) (k : Int), 0 ≤ k → k + 30000 * rest.length ≤ 4611686018427387904 → pre.length + rest.length ≤ 4611686018427387904 →
   Ev (fun K => laws_heldPayloadS.l0 K (pre ++ (mkQ k rest).2) k (pre.length : Int)) (mkQ k rest).1 := by
 induction rest with
 | nil => intro pre k _ _ _; exact Ev.step (fun K => by simp only [laws_heldPayloadS.l0]; rw [if_neg (by simp [mkQ])]) (by simpa [mkQ] using Ev.now _)
 | cons x xs ih =>
   intro pre k h0 h1 h2
   have hx := hl x List.mem_cons_self
   simp only [List.length_cons] at h1 h2
   have ih' := ih (fun y hy => hl y (List.mem_cons_of_mem _ hy)) (pre ++ [⟨mkB k x.f0⟩]) (k + x.f0.length) (by omega) (by omega) (by simp; omega)
   rw [show ((pre ++ [(⟨mkB k x.f0⟩ : S111)]).length : Int) = wrap64 ((pre.length : Int) + 1) by simp; unfold wrap64; omega, List.append_assoc] at ih'
   have hb := heldByteS_ev x.f0 k (by omega) (by omega)
   rw [show (mkQ k (x :: xs)).2 = ⟨mkB k x.f0⟩ :: (mkQ (k + x.f0.length) xs).2 from rfl, show (mkQ k (x :: xs)).1 = (mkQ (k + x.f0.length) xs).1 from rfl]
   refine Ev.step (fun K => by simp only [laws_heldPayloadS.l0]; rw [if_pos (by simp [mkQ_len]; omega), if_pos (by omega), rd_midQ]) (Ev.bind hb ?_)
   exact Ev.congr (fun K => by rw [if_neg (by omega)]; rfl) ih'
theorem heldPayloadS_ev (l : List S111) (hl : ∀ x ∈ l, x.f0.length ≤ 30000) (k : Int) (h0 : 0 ≤ k) (h1 : k + 30000 * l.length ≤ 4611686018427387904) : Ev (fun K => laws_heldPayloadS.f K (mkQ k l).2 k) (mkQ k l).1 :=
 heldQ_loop l hl [] k h0 h1 (by simp; omega)
theorem eqPayloadS_loop (l : List S111) (hn : l.length ≤ 1048576) (hL : ∀ x ∈ l, x.f0.length ≤ 30000) : ∀ (d i : Nat), i + d = l.length → Ev (fun k => laws_eqPayloadS.l0 k l l (i : Int)) true
 | 0, i, hd => Ev.step (fun k => by simp only [laws_eqPayloadS.l0]; rw [if_neg (by omega)]) (Ev.now _)
 | d + 1, i, hd => by
   have hm : rd_T111 l (i : Int) ∈ l := by
    unfold rd_T111
    rw [Int.toNat_natCast, List.getD_eq_getElem?_getD, List.getElem?_eq_getElem (by omega)]
    exact List.getElem_mem _
   have he : Ev (fun k => laws_eqPayload.f k (rd_T111 l (i : Int)).f0 (rd_T111 l (i : Int)).f0) true := Ev.congr (fun k => by unfold laws_eqPayload.f; rfl) (Ev.bind (eqByteS_ev _ (by have := hL _ hm; omega)) (Ev.congr (fun k => by rw [if_pos rfl]) (Ev.now _)))
   exact Ev.step (fun k => by simp only [laws_eqPayloadS.l0]; rw [if_pos (by omega), if_pos (by omega), if_pos (by omega)])
    (Ev.bind he (Ev.congr (fun k => by rw [if_pos rfl, show wrap64 ((i : Int) + 1) = ((i + 1 : Nat) : Int) by unfold wrap64; omega]) (eqPayloadS_loop l hn hL d (i + 1) (by omega))))
theorem eqPayloadS_ev (l : List S111) (hn : l.length ≤ 1048576) (hL : ∀ x ∈ l, x.f0.length ≤ 30000) : Ev (fun k => laws_eqPayloadS.f k l l) true :=
 Ev.congr (fun k => by unfold laws_eqPayloadS.f; rw [if_pos rfl]; rfl) (eqPayloadS_loop l hn hL l.length 0 (by omega))

/-! ### zguard1_ReadArea: a text by hand -/
set_option maxHeartbeats 4000000 in
set_option maxRecDepth 100000 in
theorem guard1_FnExactReadArea (A0_0 : Option Addr) (c0_0 : Nat) (l0_0 : List Int) (A0_1 : Option Addr) (c0_1 : Nat) (l0_1 : List S127) (a0_2 : Int) (a0_3 : Bool) (a1 : Int) (a2 : Int) (r1 : Int) (w : World)
  (hr0_0 : Kd.C (Kd.int .u8) w A0_0 l0_0.length l0_0) (hc0_0 : l0_0.length ≤ c0_0) (hr0_1 : Kd.C k127 w A0_1 l0_1.length l0_1) (hc0_1 : l0_1.length ≤ c0_1)
  (E2 : Ev (fun k => laws_szDisk.f k l0_0 l0_1 a0_2 a0_3 1048576) r1) (E2p : r1 < 0) :
  Calls Try.prog 8 #[.agg #[.slice A0_0 l0_0.length c0_0, .slice A0_1 l0_1.length c0_1, .int .i64 a0_2, .bool a0_3], .int .i64 a1, .int .i64 a2] w fun e w' => e = .returned (.bool true) ∧ Below w.heap.size w w' := by
 obtain ⟨k_E2, h_E2⟩ := E2.rounds
 have H_E2 := Aside0.mk h_E2
 clear E2 h_E2
 have E2pb : decide (r1 < 0) = true := decide_eq_true (by omega)
 have HR0_0 := Aside0.mk hr0_0
 have HC0_0 := Aside0.mk hc0_0
 clear hr0_0 hc0_0
 have HR0_1 := Aside0.mk hr0_1
 have HC0_1 := Aside0.mk hc0_1
 clear hr0_1 hc0_1
 have hu37 := Try.underlying37
 have HB := Aside0.mk (Below.refl w.heap.size w)
 go_enter Try.func8, Try.ntmps8
 go_wp2_with fail
 refine (laws_szDisk.calls k_E2 _ _ l0_0 _ _ l0_1 a0_2 a0_3 1048576 r1 _ (Kd.C_below HR0_0.out (below_alloc HB.out _)) HC0_0.out (Kd.C_below HR0_1.out (below_alloc HB.out _)) HC0_1.out H_E2.out).mono ?_
 rintro e w1 ⟨rfl, gb⟩
 have hz1 : w.heap.size + 1 ≤ w1.heap.size := by have := gb.size; first | omega | (simp at this; omega)
 have N_HB := Aside0.mk (below_step (below_alloc HB.out _) gb)
 have K3 := Aside0.mk (show w1.heap[w.heap.size]? = some (.cells #[.slice A0_0 l0_0.length c0_0, .slice A0_1 l0_1.length c0_1, .int .i64 a0_2, .bool a0_3] 37 (0, 0)) from by have := blk_below (blk_new _ _) gb; simpa using this)
 clear HB
 have HB := N_HB
 clear N_HB
 clear gb
 go_wp2
 go_ret
 exact ⟨rfl, by first | exact HB.out | exact below_alloc HB.out _ | exact below_alloc (below_alloc HB.out _) _ | exact below_alloc (below_alloc (below_alloc HB.out _) _) _⟩

/-! ### zwalk_ReadArea: a text by hand -/
set_option maxHeartbeats 4000000 in
set_option maxRecDepth 100000 in
theorem walk_FnExactReadArea (A0_0 : Option Addr) (c0_0 : Nat) (l0_0 : List Int) (A0_1 : Option Addr) (c0_1 : Nat) (l0_1 : List S127) (a0_2 : Int) (a0_3 : Bool) (a1 : Int) (a2 : Int) (r1 : Int) (r3 : List Int) (r4 : List S79) (r5 : Int) (r6 : Bool) (r9 : Bool) (r10 : List S111) (r11 : Int) (r12 : Int) (m21 : Int) (l22 : List Int) (m24 : Int) (l25 : List S79) (m27 : Int) (l28 : List S111) (w : World)
  (hr0_0 : Kd.C (Kd.int .u8) w A0_0 l0_0.length l0_0) (hc0_0 : l0_0.length ≤ c0_0) (hr0_1 : Kd.C k127 w A0_1 l0_1.length l0_1) (hc0_1 : l0_1.length ≤ c0_1)
  (E2 : Ev (fun k => laws_szDisk.f k l0_0 l0_1 a0_2 a0_3 1048576) r1) (E2p : 0 ≤ r1) (E7 : Ev (fun k => laws_toDisk.f k l0_0 l0_1 a0_2 a0_3) (r3, r4, r5, r6)) (E13 : Ev (fun k => m_ReadArea.f k r3 r4 r5 r6 a1 a2) (r9, r10, r11, r12)) (E16 : Ev (fun k => m_ReadArea.f k r3 r4 r5 r6 a1 a2) (r9, r10, r11, r12)) (E18 : Ev (fun k => laws_eqAreaRes.f k r9 r10 r11 r12 r9 r10 r11 r12) true) (E20 : Ev (fun k => laws_eqDisk.f k r3 r4 r5 r6 r3 r4 r5 r6) true) (E23 : Ev (fun k => laws_markByteS.f k r3 1) (m21, l22)) (E26 : Ev (fun k => laws_markPendS.f k r4 m21) (m24, l25)) (Pm24 : 0 ≤ m24) (E29 : Ev (fun k => laws_markPayloadS.f k r10 1) (m27, l28)) (Pm27 : 0 ≤ m27) (E30 : Ev (fun k => laws_heldAreaRes.f k r9 l28 r11 r12 1) m27) :
  Calls Try.prog 8 #[.agg #[.slice A0_0 l0_0.length c0_0, .slice A0_1 l0_1.length c0_1, .int .i64 a0_2, .bool a0_3], .int .i64 a1, .int .i64 a2] w fun e w' => e = .returned (.bool true) ∧ Below w.heap.size w w' := by
 obtain ⟨k_E2, h_E2⟩ := E2.rounds
 have H_E2 := Aside0.mk h_E2
 clear E2 h_E2
 obtain ⟨k_E7, h_E7⟩ := E7.rounds
 have H_E7 := Aside0.mk h_E7
 clear E7 h_E7
 obtain ⟨k_E13, h_E13⟩ := E13.rounds
 have H_E13 := Aside0.mk h_E13
 clear E13 h_E13
 obtain ⟨k_E16, h_E16⟩ := E16.rounds
 have H_E16 := Aside0.mk h_E16
 clear E16 h_E16
 obtain ⟨k_E18, h_E18⟩ := E18.rounds
 have H_E18 := Aside0.mk h_E18
 clear E18 h_E18
 obtain ⟨k_E20, h_E20⟩ := E20.rounds
 have H_E20 := Aside0.mk h_E20
 clear E20 h_E20
 obtain ⟨k_E23, h_E23⟩ := E23.rounds
 have H_E23 := Aside0.mk h_E23
 clear E23 h_E23
 obtain ⟨k_E26, h_E26⟩ := E26.rounds
 have H_E26 := Aside0.mk h_E26
 clear E26 h_E26
 obtain ⟨k_E29, h_E29⟩ := E29.rounds
 have H_E29 := Aside0.mk h_E29
 clear E29 h_E29
 obtain ⟨k_E30, h_E30⟩ := E30.rounds
 have H_E30 := Aside0.mk h_E30
 clear E30 h_E30
 have E2pb : decide (r1 < 0) = false := decide_eq_false (by omega)
 have Pm24b : decide (m24 < 0) = false := decide_eq_false (by omega)
 have Pm27b : decide (m27 < 0) = false := decide_eq_false (by omega)
 have HR0_0 := Aside0.mk hr0_0
 have HC0_0 := Aside0.mk hc0_0
 clear hr0_0 hc0_0
 have HR0_1 := Aside0.mk hr0_1
 have HC0_1 := Aside0.mk hc0_1
 clear hr0_1 hc0_1
 have hu25 := Try.underlying25
 have hu37 := Try.underlying37
 have hu65 := Try.underlying65
 have HB := Aside0.mk (Below.refl w.heap.size w)
 go_enter Try.func8, Try.ntmps8
 go_wp2_with fail
 refine (laws_szDisk.calls k_E2 _ _ l0_0 _ _ l0_1 a0_2 a0_3 1048576 r1 _ (Kd.C_below HR0_0.out (below_alloc HB.out _)) HC0_0.out (Kd.C_below HR0_1.out (below_alloc HB.out _)) HC0_1.out H_E2.out).mono ?_
 rintro e w1 ⟨rfl, gb⟩
 have hz1 : w.heap.size + 1 ≤ w1.heap.size := by have := gb.size; first | omega | (simp at this; omega)
 have N_HB := Aside0.mk (below_step (below_alloc HB.out _) gb)
 have K3 := Aside0.mk (show w1.heap[w.heap.size]? = some (.cells #[.slice A0_0 l0_0.length c0_0, .slice A0_1 l0_1.length c0_1, .int .i64 a0_2, .bool a0_3] 37 (0, 0)) from by have := blk_below (blk_new _ _) gb; simpa using this)
 clear HB
 have HB := N_HB
 clear N_HB
 clear gb
 have y3 : w.heap.size < w1.heap.size := by omega
 have z3_0 : w1.cell? ⟨w.heap.size, 0, none⟩ = some (.slice A0_0 l0_0.length c0_0) := (blk_cell K3.out 0).trans rfl
 have z3_1 : w1.cell? ⟨w.heap.size, 1, none⟩ = some (.slice A0_1 l0_1.length c0_1) := (blk_cell K3.out 1).trans rfl
 have z3_2 : w1.cell? ⟨w.heap.size, 2, none⟩ = some (.int .i64 a0_2) := (blk_cell K3.out 2).trans rfl
 have z3_3 : w1.cell? ⟨w.heap.size, 3, none⟩ = some (.bool a0_3) := (blk_cell K3.out 3).trans rfl
 go_wp2_with fail
 clear y3 z3_0 z3_1 z3_2 z3_3
 refine (laws_toDisk.calls k_E7 _ _ l0_0 _ _ l0_1 a0_2 a0_3 r3 r4 r5 r6 _ (Kd.C_below HR0_0.out HB.out) HC0_0.out (Kd.C_below HR0_1.out HB.out) HC0_1.out H_E7.out).mono ?_
 rintro e w2 ⟨q8u0, q8u1, rfl, q8g0, q8g1, gb⟩
 have q8X0 := Aside0.mk (R_iv q8g0 w.heap.size (w1.heap.size) (by have := HB.out.size; first | (simp; done) | (simp; omega) | omega) (by simp))
 clear q8g0
 obtain ⟨q8A0, q8c0, rfl⟩ := Kd.R_slice q8X0.out
 have q8X1 := Aside0.mk (S_iv q8g1 w.heap.size (w1.heap.size) (by have := HB.out.size; first | (simp; done) | (simp; omega) | omega) (by simp))
 clear q8g1
 obtain ⟨q8A1, q8c1, rfl⟩ := Kd.S_slice q8X1.out
 have hz2 : w1.heap.size + 0 ≤ w2.heap.size := by have := gb.size; first | omega | (simp at this; omega)
 have N_HB := Aside0.mk (below_step HB.out gb)
 have N_K3 := Aside0.mk (blk_below K3.out gb)
 clear HB K3
 have HB := N_HB
 have K3 := N_K3
 clear N_HB N_K3
 clear gb
 have y3 : w.heap.size < w2.heap.size := by omega
 have z3_0 : w2.cell? ⟨w.heap.size, 0, none⟩ = some (.slice A0_0 l0_0.length c0_0) := (blk_cell K3.out 0).trans rfl
 have z3_1 : w2.cell? ⟨w.heap.size, 1, none⟩ = some (.slice A0_1 l0_1.length c0_1) := (blk_cell K3.out 1).trans rfl
 have z3_2 : w2.cell? ⟨w.heap.size, 2, none⟩ = some (.int .i64 a0_2) := (blk_cell K3.out 2).trans rfl
 have z3_3 : w2.cell? ⟨w.heap.size, 3, none⟩ = some (.bool a0_3) := (blk_cell K3.out 3).trans rfl
 go_wp2_with fail
 clear y3 z3_0 z3_1 z3_2 z3_3
 refine (spec_ReadArea.calls k_E13 _ _ r3 _ _ r4 r5 r6 a1 a2 r9 r10 r11 r12 _ (Kd.R_reads' q8X0.out).2.2 (Kd.R_reads' q8X0.out).2.1 (Kd.S_reads' q8X1.out).2.2 (Kd.S_reads' q8X1.out).2.1 H_E13.out).mono ?_
 rintro e w3 ⟨q14u1, rfl, q14g1, gb⟩
 have q14X1 := Aside0.mk (S_iv q14g1 w.heap.size (w2.heap.size) (by have := HB.out.size; first | (simp; done) | (simp; omega) | omega) (by simp))
 clear q14g1
 obtain ⟨q14A1, q14c1, rfl⟩ := Kd.S_slice q14X1.out
 have hz3 : w2.heap.size + 0 ≤ w3.heap.size := by have := gb.size; first | omega | (simp at this; omega)
 have N_HB := Aside0.mk (below_step HB.out gb)
 have N_q8X0 := Aside0.mk (Kd.R_below q8X0.out gb)
 have N_q8X1 := Aside0.mk (Kd.S_below q8X1.out gb)
 have N_K3 := Aside0.mk (blk_below K3.out gb)
 clear HB q8X0 q8X1 K3
 have HB := N_HB
 have q8X0 := N_q8X0
 have q8X1 := N_q8X1
 have K3 := N_K3
 clear N_HB N_q8X0 N_q8X1 N_K3
 clear gb
 have y3 : w.heap.size < w3.heap.size := by omega
 have z3_0 : w3.cell? ⟨w.heap.size, 0, none⟩ = some (.slice A0_0 l0_0.length c0_0) := (blk_cell K3.out 0).trans rfl
 have z3_1 : w3.cell? ⟨w.heap.size, 1, none⟩ = some (.slice A0_1 l0_1.length c0_1) := (blk_cell K3.out 1).trans rfl
 have z3_2 : w3.cell? ⟨w.heap.size, 2, none⟩ = some (.int .i64 a0_2) := (blk_cell K3.out 2).trans rfl
 have z3_3 : w3.cell? ⟨w.heap.size, 3, none⟩ = some (.bool a0_3) := (blk_cell K3.out 3).trans rfl
 go_wp2_with fail
 clear y3 z3_0 z3_1 z3_2 z3_3
 refine (laws_toDisk.calls k_E7 _ _ l0_0 _ _ l0_1 a0_2 a0_3 r3 r4 r5 r6 _ (Kd.C_below HR0_0.out (below_alloc HB.out _)) HC0_0.out (Kd.C_below HR0_1.out (below_alloc HB.out _)) HC0_1.out H_E7.out).mono ?_
 rintro e w4 ⟨q15u0, q15u1, rfl, q15g0, q15g1, gb⟩
 have q15X0 := Aside0.mk (R_iv q15g0 w.heap.size (w3.heap.size + 1) (by have := HB.out.size; first | (simp; done) | (simp; omega) | omega) (by simp))
 clear q15g0
 obtain ⟨q15A0, q15c0, rfl⟩ := Kd.R_slice q15X0.out
 have q15X1 := Aside0.mk (S_iv q15g1 w.heap.size (w3.heap.size + 1) (by have := HB.out.size; first | (simp; done) | (simp; omega) | omega) (by simp))
 clear q15g1
 obtain ⟨q15A1, q15c1, rfl⟩ := Kd.S_slice q15X1.out
 have hz4 : w3.heap.size + 1 ≤ w4.heap.size := by have := gb.size; first | omega | (simp at this; omega)
 have N_HB := Aside0.mk (below_step (below_alloc HB.out _) gb)
 have N_q8X0 := Aside0.mk (Kd.R_below (Kd.R_alloc q8X0.out _) gb)
 have N_q8X1 := Aside0.mk (Kd.S_below (Kd.S_alloc q8X1.out _) gb)
 have N_q14X1 := Aside0.mk (Kd.S_below (Kd.S_alloc q14X1.out _) gb)
 have N_K3 := Aside0.mk (blk_below (blk_alloc K3.out _) gb)
 have K8 := Aside0.mk (show w4.heap[w3.heap.size]? = some (.cells #[.bool r9, .slice q14A1 r10.length q14c1, .int .i64 r11, .int .i64 r12] 65 (0, 0)) from by have := blk_below (blk_new _ _) gb; simpa using this)
 clear HB q8X0 q8X1 q14X1 K3
 have HB := N_HB
 have q8X0 := N_q8X0
 have q8X1 := N_q8X1
 have q14X1 := N_q14X1
 have K3 := N_K3
 clear N_HB N_q8X0 N_q8X1 N_q14X1 N_K3
 clear gb
 go_wp2_with fail
 refine (impl_ReadArea.calls k_E16 _ _ r3 _ _ r4 r5 r6 a1 a2 r9 r10 r11 r12 _ (Kd.C_alloc (Kd.R_reads' q15X0.out).2.2 _) (Kd.R_reads' q15X0.out).2.1 (Kd.C_alloc (Kd.S_reads' q15X1.out).2.2 _) (Kd.S_reads' q15X1.out).2.1 H_E16.out).mono ?_
 rintro e w5 ⟨q17u1, rfl, q17g1, gb⟩
 have q17X1 := Aside0.mk (S_iv q17g1 w.heap.size (w4.heap.size + 1) (by have := HB.out.size; first | (simp; done) | (simp; omega) | omega) (by simp))
 clear q17g1
 obtain ⟨q17A1, q17c1, rfl⟩ := Kd.S_slice q17X1.out
 have hz5 : w4.heap.size + 1 ≤ w5.heap.size := by have := gb.size; first | omega | (simp at this; omega)
 have N_HB := Aside0.mk (below_step (below_alloc HB.out _) gb)
 have N_q8X0 := Aside0.mk (Kd.R_below (Kd.R_alloc q8X0.out _) gb)
 have N_q8X1 := Aside0.mk (Kd.S_below (Kd.S_alloc q8X1.out _) gb)
 have N_q14X1 := Aside0.mk (Kd.S_below (Kd.S_alloc q14X1.out _) gb)
 have N_q15X0 := Aside0.mk (Kd.R_below (Kd.R_alloc q15X0.out _) gb)
 have N_q15X1 := Aside0.mk (Kd.S_below (Kd.S_alloc q15X1.out _) gb)
 have N_K3 := Aside0.mk (blk_below (blk_alloc K3.out _) gb)
 have N_K8 := Aside0.mk (blk_below (blk_alloc K8.out _) gb)
 have K9 := Aside0.mk (show w5.heap[w4.heap.size]? = some (.cells #[.slice q15A0 r3.length q15c0, .slice q15A1 r4.length q15c1, .int .i64 r5, .bool r6] 25 (0, 0)) from by have := blk_below (blk_new _ _) gb; simpa using this)
 clear HB q8X0 q8X1 q14X1 q15X0 q15X1 K3 K8
 have HB := N_HB
 have q8X0 := N_q8X0
 have q8X1 := N_q8X1
 have q14X1 := N_q14X1
 have q15X0 := N_q15X0
 have q15X1 := N_q15X1
 have K3 := N_K3
 have K8 := N_K8
 clear N_HB N_q8X0 N_q8X1 N_q14X1 N_q15X0 N_q15X1 N_K3 N_K8
 clear gb
 have y8 : w3.heap.size < w5.heap.size := by omega
 have z8_0 : w5.cell? ⟨w3.heap.size, 0, none⟩ = some (.bool r9) := (blk_cell K8.out 0).trans rfl
 have z8_1 : w5.cell? ⟨w3.heap.size, 1, none⟩ = some (.slice q14A1 r10.length q14c1) := (blk_cell K8.out 1).trans rfl
 have z8_2 : w5.cell? ⟨w3.heap.size, 2, none⟩ = some (.int .i64 r11) := (blk_cell K8.out 2).trans rfl
 have z8_3 : w5.cell? ⟨w3.heap.size, 3, none⟩ = some (.int .i64 r12) := (blk_cell K8.out 3).trans rfl
 go_wp2_with fail
 clear y8 z8_0 z8_1 z8_2 z8_3
 refine (laws_eqAreaRes.calls k_E18 r9 _ _ r10 r11 r12 r9 _ _ r10 r11 r12 true _ (Kd.C_alloc (Kd.S_reads' q17X1.out).2.2 _) (Kd.S_reads' q17X1.out).2.1 (Kd.C_alloc (Kd.S_reads' q14X1.out).2.2 _) (Kd.S_reads' q14X1.out).2.1 H_E18.out).mono ?_
 rintro e w6 ⟨rfl, gb⟩
 have hz6 : w5.heap.size + 1 ≤ w6.heap.size := by have := gb.size; first | omega | (simp at this; omega)
 have N_HB := Aside0.mk (below_step (below_alloc HB.out _) gb)
 have N_q8X0 := Aside0.mk (Kd.R_below (Kd.R_alloc q8X0.out _) gb)
 have N_q8X1 := Aside0.mk (Kd.S_below (Kd.S_alloc q8X1.out _) gb)
 have N_q14X1 := Aside0.mk (Kd.S_below (Kd.S_alloc q14X1.out _) gb)
 have N_q15X0 := Aside0.mk (Kd.R_below (Kd.R_alloc q15X0.out _) gb)
 have N_q15X1 := Aside0.mk (Kd.S_below (Kd.S_alloc q15X1.out _) gb)
 have N_q17X1 := Aside0.mk (Kd.S_below (Kd.S_alloc q17X1.out _) gb)
 have N_K3 := Aside0.mk (blk_below (blk_alloc K3.out _) gb)
 have N_K8 := Aside0.mk (blk_below (blk_alloc K8.out _) gb)
 have N_K9 := Aside0.mk (blk_below (blk_alloc K9.out _) gb)
 have K10 := Aside0.mk (show w6.heap[w5.heap.size]? = some (.cells #[.bool r9, .slice q17A1 r10.length q17c1, .int .i64 r11, .int .i64 r12] 65 (0, 0)) from by have := blk_below (blk_new _ _) gb; simpa using this)
 clear HB q8X0 q8X1 q14X1 q15X0 q15X1 q17X1 K3 K8 K9
 have HB := N_HB
 have q8X0 := N_q8X0
 have q8X1 := N_q8X1
 have q14X1 := N_q14X1
 have q15X0 := N_q15X0
 have q15X1 := N_q15X1
 have q17X1 := N_q17X1
 have K3 := N_K3
 have K8 := N_K8
 have K9 := N_K9
 clear N_HB N_q8X0 N_q8X1 N_q14X1 N_q15X0 N_q15X1 N_q17X1 N_K3 N_K8 N_K9
 clear gb
 have y9 : w4.heap.size < w6.heap.size := by omega
 have z9_0 : w6.cell? ⟨w4.heap.size, 0, none⟩ = some (.slice q15A0 r3.length q15c0) := (blk_cell K9.out 0).trans rfl
 have z9_1 : w6.cell? ⟨w4.heap.size, 1, none⟩ = some (.slice q15A1 r4.length q15c1) := (blk_cell K9.out 1).trans rfl
 have z9_2 : w6.cell? ⟨w4.heap.size, 2, none⟩ = some (.int .i64 r5) := (blk_cell K9.out 2).trans rfl
 have z9_3 : w6.cell? ⟨w4.heap.size, 3, none⟩ = some (.bool r6) := (blk_cell K9.out 3).trans rfl
 have y3 : w.heap.size < w6.heap.size := by omega
 have z3_0 : w6.cell? ⟨w.heap.size, 0, none⟩ = some (.slice A0_0 l0_0.length c0_0) := (blk_cell K3.out 0).trans rfl
 have z3_1 : w6.cell? ⟨w.heap.size, 1, none⟩ = some (.slice A0_1 l0_1.length c0_1) := (blk_cell K3.out 1).trans rfl
 have z3_2 : w6.cell? ⟨w.heap.size, 2, none⟩ = some (.int .i64 a0_2) := (blk_cell K3.out 2).trans rfl
 have z3_3 : w6.cell? ⟨w.heap.size, 3, none⟩ = some (.bool a0_3) := (blk_cell K3.out 3).trans rfl
 go_wp2_with fail
 go_region_held3 (fun w' => w'.cell? ⟨w4.heap.size, 0, none⟩ = some (.slice q15A0 r3.length q15c0) ∧ w'.cell? ⟨w4.heap.size, 1, none⟩ = some (.slice q15A1 r4.length q15c1) ∧ w'.cell? ⟨w4.heap.size, 2, none⟩ = some (.int .i64 r5) ∧ w'.cell? ⟨w4.heap.size, 3, none⟩ = some (.bool r6) ∧ w'.cell? ⟨w.heap.size, 0, none⟩ = some (.slice A0_0 l0_0.length c0_0) ∧ w'.cell? ⟨w.heap.size, 1, none⟩ = some (.slice A0_1 l0_1.length c0_1) ∧ w'.cell? ⟨w.heap.size, 2, none⟩ = some (.int .i64 a0_2) ∧ w'.cell? ⟨w.heap.size, 3, none⟩ = some (.bool a0_3)) (go_keep) (first | (go_at_call 21; (refine (laws_toDisk.calls k_E7 _ _ l0_0 _ _ l0_1 a0_2 a0_3 r3 r4 r5 r6 _ (Kd.C_below HR0_0.out (below_drew HB.out)) HC0_0.out (Kd.C_below HR0_1.out (below_drew HB.out)) HC0_1.out H_E7.out).mono ?_); (rintro e w7 ⟨q19u0, q19u1, rfl, q19g0, q19g1, gb⟩); (have q19X0 := Aside0.mk (R_iv q19g0 w.heap.size (w6.heap.size) (by have := HB.out.size; first | (simp; done) | (simp; omega) | omega) (by simp))); (clear q19g0); (obtain ⟨q19A0, q19c0, rfl⟩ := Kd.R_slice q19X0.out); (have q19X1 := Aside0.mk (S_iv q19g1 w.heap.size (w6.heap.size) (by have := HB.out.size; first | (simp; done) | (simp; omega) | omega) (by simp))); (clear q19g1); (obtain ⟨q19A1, q19c1, rfl⟩ := Kd.S_slice q19X1.out); (have hz7 : w6.heap.size + 0 ≤ w7.heap.size := by have := gb.size; first | omega | (simp at this; omega)); (have N_HB := Aside0.mk (below_step (below_drew HB.out) gb)); (have N_q8X0 := Aside0.mk (Kd.R_below (Kd.R_drew q8X0.out) gb)); (have N_q8X1 := Aside0.mk (Kd.S_below (Kd.S_drew q8X1.out) gb)); (have N_q14X1 := Aside0.mk (Kd.S_below (Kd.S_drew q14X1.out) gb)); (have N_q15X0 := Aside0.mk (Kd.R_below (Kd.R_drew q15X0.out) gb)); (have N_q15X1 := Aside0.mk (Kd.S_below (Kd.S_drew q15X1.out) gb)); (have N_q17X1 := Aside0.mk (Kd.S_below (Kd.S_drew q17X1.out) gb)); (have N_K3 := Aside0.mk (blk_below (blk_drew K3.out) gb)); (have N_K8 := Aside0.mk (blk_below (blk_drew K8.out) gb)); (have N_K9 := Aside0.mk (blk_below (blk_drew K9.out) gb)); (have N_K10 := Aside0.mk (blk_below (blk_drew K10.out) gb)); (clear HB q8X0 q8X1 q14X1 q15X0 q15X1 q17X1 K3 K8 K9 K10); (have HB := N_HB); (have q8X0 := N_q8X0); (have q8X1 := N_q8X1); (have q14X1 := N_q14X1); (have q15X0 := N_q15X0); (have q15X1 := N_q15X1); (have q17X1 := N_q17X1); (have K3 := N_K3); (have K8 := N_K8); (have K9 := N_K9); (have K10 := N_K10); (clear N_HB N_q8X0 N_q8X1 N_q14X1 N_q15X0 N_q15X1 N_q17X1 N_K3 N_K8 N_K9 N_K10); (clear gb); (clear y9 z9_0 z9_1 z9_2 z9_3 y3 z3_0 z3_1 z3_2 z3_3); (have y9 : w4.heap.size < w7.heap.size := by omega); (have z9_0 : w7.cell? ⟨w4.heap.size, 0, none⟩ = some (.slice q15A0 r3.length q15c0) := (blk_cell K9.out 0).trans rfl); (have z9_1 : w7.cell? ⟨w4.heap.size, 1, none⟩ = some (.slice q15A1 r4.length q15c1) := (blk_cell K9.out 1).trans rfl); (have z9_2 : w7.cell? ⟨w4.heap.size, 2, none⟩ = some (.int .i64 r5) := (blk_cell K9.out 2).trans rfl); (have z9_3 : w7.cell? ⟨w4.heap.size, 3, none⟩ = some (.bool r6) := (blk_cell K9.out 3).trans rfl); (have y3 : w.heap.size < w7.heap.size := by omega); (have z3_0 : w7.cell? ⟨w.heap.size, 0, none⟩ = some (.slice A0_0 l0_0.length c0_0) := (blk_cell K3.out 0).trans rfl); (have z3_1 : w7.cell? ⟨w.heap.size, 1, none⟩ = some (.slice A0_1 l0_1.length c0_1) := (blk_cell K3.out 1).trans rfl); (have z3_2 : w7.cell? ⟨w.heap.size, 2, none⟩ = some (.int .i64 a0_2) := (blk_cell K3.out 2).trans rfl); (have z3_3 : w7.cell? ⟨w.heap.size, 3, none⟩ = some (.bool a0_3) := (blk_cell K3.out 3).trans rfl)) | (go_at_call 24; (refine (laws_eqDisk.calls k_E20 _ _ r3 _ _ r4 r5 r6 _ _ r3 _ _ r4 r5 r6 true _ (Kd.R_reads' q15X0.out).2.2 (Kd.R_reads' q15X0.out).2.1 (Kd.S_reads' q15X1.out).2.2 (Kd.S_reads' q15X1.out).2.1 (Kd.R_reads' q19X0.out).2.2 (Kd.R_reads' q19X0.out).2.1 (Kd.S_reads' q19X1.out).2.2 (Kd.S_reads' q19X1.out).2.1 H_E20.out).mono ?_); (rintro e w8 ⟨rfl, gb⟩); (have hz8 : w7.heap.size + 0 ≤ w8.heap.size := by have := gb.size; first | omega | (simp at this; omega)); (have N_HB := Aside0.mk (below_step HB.out gb)); (have N_q8X0 := Aside0.mk (Kd.R_below q8X0.out gb)); (have N_q8X1 := Aside0.mk (Kd.S_below q8X1.out gb)); (have N_q14X1 := Aside0.mk (Kd.S_below q14X1.out gb)); (have N_q15X0 := Aside0.mk (Kd.R_below q15X0.out gb)); (have N_q15X1 := Aside0.mk (Kd.S_below q15X1.out gb)); (have N_q17X1 := Aside0.mk (Kd.S_below q17X1.out gb)); (have N_q19X0 := Aside0.mk (Kd.R_below q19X0.out gb)); (have N_q19X1 := Aside0.mk (Kd.S_below q19X1.out gb)); (have N_K3 := Aside0.mk (blk_below K3.out gb)); (have N_K8 := Aside0.mk (blk_below K8.out gb)); (have N_K9 := Aside0.mk (blk_below K9.out gb)); (have N_K10 := Aside0.mk (blk_below K10.out gb)); (clear HB q8X0 q8X1 q14X1 q15X0 q15X1 q17X1 q19X0 q19X1 K3 K8 K9 K10); (have HB := N_HB); (have q8X0 := N_q8X0); (have q8X1 := N_q8X1); (have q14X1 := N_q14X1); (have q15X0 := N_q15X0); (have q15X1 := N_q15X1); (have q17X1 := N_q17X1); (have q19X0 := N_q19X0); (have q19X1 := N_q19X1); (have K3 := N_K3); (have K8 := N_K8); (have K9 := N_K9); (have K10 := N_K10); (clear N_HB N_q8X0 N_q8X1 N_q14X1 N_q15X0 N_q15X1 N_q17X1 N_q19X0 N_q19X1 N_K3 N_K8 N_K9 N_K10); (clear gb); (clear y9 z9_0 z9_1 z9_2 z9_3 y3 z3_0 z3_1 z3_2 z3_3); (have y9 : w4.heap.size < w8.heap.size := by omega); (have z9_0 : w8.cell? ⟨w4.heap.size, 0, none⟩ = some (.slice q15A0 r3.length q15c0) := (blk_cell K9.out 0).trans rfl); (have z9_1 : w8.cell? ⟨w4.heap.size, 1, none⟩ = some (.slice q15A1 r4.length q15c1) := (blk_cell K9.out 1).trans rfl); (have z9_2 : w8.cell? ⟨w4.heap.size, 2, none⟩ = some (.int .i64 r5) := (blk_cell K9.out 2).trans rfl); (have z9_3 : w8.cell? ⟨w4.heap.size, 3, none⟩ = some (.bool r6) := (blk_cell K9.out 3).trans rfl); (have y3 : w.heap.size < w8.heap.size := by omega); (have z3_0 : w8.cell? ⟨w.heap.size, 0, none⟩ = some (.slice A0_0 l0_0.length c0_0) := (blk_cell K3.out 0).trans rfl); (have z3_1 : w8.cell? ⟨w.heap.size, 1, none⟩ = some (.slice A0_1 l0_1.length c0_1) := (blk_cell K3.out 1).trans rfl); (have z3_2 : w8.cell? ⟨w.heap.size, 2, none⟩ = some (.int .i64 a0_2) := (blk_cell K3.out 2).trans rfl); (have z3_3 : w8.cell? ⟨w.heap.size, 3, none⟩ = some (.bool a0_3) := (blk_cell K3.out 3).trans rfl)))
 clear y9 z9_0 z9_1 z9_2 z9_3 y3 z3_0 z3_1 z3_2 z3_3
 have y9 : w4.heap.size < w8.heap.size := by omega
 have z9_0 : w8.cell? ⟨w4.heap.size, 0, none⟩ = some (.slice q15A0 r3.length q15c0) := (blk_cell K9.out 0).trans rfl
 have z9_1 : w8.cell? ⟨w4.heap.size, 1, none⟩ = some (.slice q15A1 r4.length q15c1) := (blk_cell K9.out 1).trans rfl
 have z9_2 : w8.cell? ⟨w4.heap.size, 2, none⟩ = some (.int .i64 r5) := (blk_cell K9.out 2).trans rfl
 have z9_3 : w8.cell? ⟨w4.heap.size, 3, none⟩ = some (.bool r6) := (blk_cell K9.out 3).trans rfl
 go_wp2_with fail
 clear y9 z9_0 z9_1 z9_2 z9_3
 refine (laws_markDisk.own k_E23 k_E26 (w3.heap.size + 1) (w4.heap.size) _ _ r5 r6 r3 r4 1 m21 m24 l22 l25 w _ (by have := HB.out.size; omega) HB.out q15X0.out q15X1.out H_E23.out H_E26.out).mono ?_
 rintro e w9 ⟨rfl, g_0, g_1, gB, hk⟩
 have hz9 : w8.heap.size + 0 ≤ w9.heap.size := by have := hk.1; first | omega | (simp at this; omega)
 have N_q8X0 := Aside0.mk (Kd.R_kept q8X0.out hk (fun k hk1 hk2 => by have := hk1.1; omega))
 have N_q8X1 := Aside0.mk (Kd.S_kept q8X1.out hk (fun k hk1 hk2 => by have := hk1.1; omega))
 have N_q14X1 := Aside0.mk (Kd.S_kept q14X1.out hk (fun k hk1 hk2 => by have := hk1.1; omega))
 have N_q17X1 := Aside0.mk (Kd.S_kept q17X1.out hk (fun k hk1 hk2 => by have := hk1.1; omega))
 have N_q19X0 := Aside0.mk (Kd.R_kept q19X0.out hk (fun k hk1 hk2 => by have := hk1.1; omega))
 have N_q19X1 := Aside0.mk (Kd.S_kept q19X1.out hk (fun k hk1 hk2 => by have := hk1.1; omega))
 have N_K3 := Aside0.mk (blk_kept K3.out hk (fun hk2 => by omega))
 have N_K8 := Aside0.mk (blk_kept K8.out hk (fun hk2 => by omega))
 have N_K9 := Aside0.mk (blk_kept K9.out hk (fun hk2 => by omega))
 have N_K10 := Aside0.mk (blk_kept K10.out hk (fun hk2 => by omega))
 clear q8X0 q8X1 q14X1 q17X1 q19X0 q19X1 K3 K8 K9 K10
 have q8X0 := N_q8X0
 have q8X1 := N_q8X1
 have q14X1 := N_q14X1
 have q17X1 := N_q17X1
 have q19X0 := N_q19X0
 have q19X1 := N_q19X1
 have K3 := N_K3
 have K8 := N_K8
 have K9 := N_K9
 have K10 := N_K10
 clear N_q8X0 N_q8X1 N_q14X1 N_q17X1 N_q19X0 N_q19X1 N_K3 N_K8 N_K9 N_K10
 clear HB hk
 have HB := Aside0.mk gB
 clear gB
 clear q15X0
 have q15X0 := Aside0.mk g_0
 clear g_0
 clear q15X1
 have q15X1 := Aside0.mk g_1
 clear g_1
 have ev_ : (.slice q15A0 r3.length q15c0 : Value) = .slice q15A0 l22.length q15c0 := by rw [(Kd.R_reads' q15X0.out).1]
 try rw [ev_] at q15X0
 try rw [ev_] at q15X1
 try rw [ev_] at K9
 try rw [ev_]
 clear ev_
 have ev_ : (.slice q15A1 r4.length q15c1 : Value) = .slice q15A1 l25.length q15c1 := by rw [(Kd.S_reads' q15X1.out).1]
 try rw [ev_] at q15X0
 try rw [ev_] at q15X1
 try rw [ev_] at K9
 try rw [ev_]
 clear ev_
 clear q15X0 q15X1 K9
 have y10 : w5.heap.size < w9.heap.size := by omega
 have z10_0 : w9.cell? ⟨w5.heap.size, 0, none⟩ = some (.bool r9) := (blk_cell K10.out 0).trans rfl
 have z10_1 : w9.cell? ⟨w5.heap.size, 1, none⟩ = some (.slice q17A1 r10.length q17c1) := (blk_cell K10.out 1).trans rfl
 have z10_2 : w9.cell? ⟨w5.heap.size, 2, none⟩ = some (.int .i64 r11) := (blk_cell K10.out 2).trans rfl
 have z10_3 : w9.cell? ⟨w5.heap.size, 3, none⟩ = some (.int .i64 r12) := (blk_cell K10.out 3).trans rfl
 have y8 : w3.heap.size < w9.heap.size := by omega
 have z8_0 : w9.cell? ⟨w3.heap.size, 0, none⟩ = some (.bool r9) := (blk_cell K8.out 0).trans rfl
 have z8_1 : w9.cell? ⟨w3.heap.size, 1, none⟩ = some (.slice q14A1 r10.length q14c1) := (blk_cell K8.out 1).trans rfl
 have z8_2 : w9.cell? ⟨w3.heap.size, 2, none⟩ = some (.int .i64 r11) := (blk_cell K8.out 2).trans rfl
 have z8_3 : w9.cell? ⟨w3.heap.size, 3, none⟩ = some (.int .i64 r12) := (blk_cell K8.out 3).trans rfl
 go_wp2_with fail
 clear y10 z10_0 z10_1 z10_2 z10_3 y8 z8_0 z8_1 z8_2 z8_3
 refine (laws_eqAreaRes.calls k_E18 r9 _ _ r10 r11 r12 r9 _ _ r10 r11 r12 true _ (Kd.S_reads' q17X1.out).2.2 (Kd.S_reads' q17X1.out).2.1 (Kd.S_reads' q14X1.out).2.2 (Kd.S_reads' q14X1.out).2.1 H_E18.out).mono ?_
 rintro e w10 ⟨rfl, gb⟩
 have hz10 : w9.heap.size + 0 ≤ w10.heap.size := by have := gb.size; first | omega | (simp at this; omega)
 have N_HB := Aside0.mk (below_step HB.out gb)
 have N_q8X0 := Aside0.mk (Kd.R_below q8X0.out gb)
 have N_q8X1 := Aside0.mk (Kd.S_below q8X1.out gb)
 have N_q14X1 := Aside0.mk (Kd.S_below q14X1.out gb)
 have N_q17X1 := Aside0.mk (Kd.S_below q17X1.out gb)
 have N_q19X0 := Aside0.mk (Kd.R_below q19X0.out gb)
 have N_q19X1 := Aside0.mk (Kd.S_below q19X1.out gb)
 have N_K3 := Aside0.mk (blk_below K3.out gb)
 have N_K8 := Aside0.mk (blk_below K8.out gb)
 have N_K10 := Aside0.mk (blk_below K10.out gb)
 clear HB q8X0 q8X1 q14X1 q17X1 q19X0 q19X1 K3 K8 K10
 have HB := N_HB
 have q8X0 := N_q8X0
 have q8X1 := N_q8X1
 have q14X1 := N_q14X1
 have q17X1 := N_q17X1
 have q19X0 := N_q19X0
 have q19X1 := N_q19X1
 have K3 := N_K3
 have K8 := N_K8
 have K10 := N_K10
 clear N_HB N_q8X0 N_q8X1 N_q14X1 N_q17X1 N_q19X0 N_q19X1 N_K3 N_K8 N_K10
 clear gb
 have y10 : w5.heap.size < w10.heap.size := by omega
 have z10_0 : w10.cell? ⟨w5.heap.size, 0, none⟩ = some (.bool r9) := (blk_cell K10.out 0).trans rfl
 have z10_1 : w10.cell? ⟨w5.heap.size, 1, none⟩ = some (.slice q17A1 r10.length q17c1) := (blk_cell K10.out 1).trans rfl
 have z10_2 : w10.cell? ⟨w5.heap.size, 2, none⟩ = some (.int .i64 r11) := (blk_cell K10.out 2).trans rfl
 have z10_3 : w10.cell? ⟨w5.heap.size, 3, none⟩ = some (.int .i64 r12) := (blk_cell K10.out 3).trans rfl
 go_wp2_with fail
 clear y10 z10_0 z10_1 z10_2 z10_3
 refine (laws_markAreaRes.own k_E29 (w4.heap.size + 1) (w5.heap.size) r9 _ r11 r12 r10 1 m27 l28 w _ (by have := HB.out.size; omega) HB.out q17X1.out H_E29.out).mono ?_
 rintro e w11 ⟨rfl, g_0, gB, hk⟩
 have hz11 : w10.heap.size + 0 ≤ w11.heap.size := by have := hk.1; first | omega | (simp at this; omega)
 have N_q8X0 := Aside0.mk (Kd.R_kept q8X0.out hk (fun k hk1 hk2 => by have := hk1.1; omega))
 have N_q8X1 := Aside0.mk (Kd.S_kept q8X1.out hk (fun k hk1 hk2 => by have := hk1.1; omega))
 have N_q14X1 := Aside0.mk (Kd.S_kept q14X1.out hk (fun k hk1 hk2 => by have := hk1.1; omega))
 have N_q19X0 := Aside0.mk (Kd.R_kept q19X0.out hk (fun k hk1 hk2 => by have := hk1.1; omega))
 have N_q19X1 := Aside0.mk (Kd.S_kept q19X1.out hk (fun k hk1 hk2 => by have := hk1.1; omega))
 have N_K3 := Aside0.mk (blk_kept K3.out hk (fun hk2 => by omega))
 have N_K8 := Aside0.mk (blk_kept K8.out hk (fun hk2 => by omega))
 have N_K10 := Aside0.mk (blk_kept K10.out hk (fun hk2 => by omega))
 clear q8X0 q8X1 q14X1 q19X0 q19X1 K3 K8 K10
 have q8X0 := N_q8X0
 have q8X1 := N_q8X1
 have q14X1 := N_q14X1
 have q19X0 := N_q19X0
 have q19X1 := N_q19X1
 have K3 := N_K3
 have K8 := N_K8
 have K10 := N_K10
 clear N_q8X0 N_q8X1 N_q14X1 N_q19X0 N_q19X1 N_K3 N_K8 N_K10
 clear HB hk
 have HB := Aside0.mk gB
 clear gB
 clear q17X1
 have q17X1 := Aside0.mk g_0
 clear g_0
 have ev_ : (.slice q17A1 r10.length q17c1 : Value) = .slice q17A1 l28.length q17c1 := by rw [(Kd.S_reads' q17X1.out).1]
 try rw [ev_] at q17X1
 try rw [ev_] at K10
 try rw [ev_]
 clear ev_
 have y10 : w5.heap.size < w11.heap.size := by omega
 have z10_0 : w11.cell? ⟨w5.heap.size, 0, none⟩ = some (.bool r9) := (blk_cell K10.out 0).trans rfl
 have z10_1 : w11.cell? ⟨w5.heap.size, 1, none⟩ = some (.slice q17A1 l28.length q17c1) := (blk_cell K10.out 1).trans rfl
 have z10_2 : w11.cell? ⟨w5.heap.size, 2, none⟩ = some (.int .i64 r11) := (blk_cell K10.out 2).trans rfl
 have z10_3 : w11.cell? ⟨w5.heap.size, 3, none⟩ = some (.int .i64 r12) := (blk_cell K10.out 3).trans rfl
 go_wp2_with fail
 clear y10 z10_0 z10_1 z10_2 z10_3
 refine (laws_heldAreaRes.calls k_E30 r9 _ _ l28 r11 r12 1 m27 _ (Kd.S_reads' q17X1.out).2.2 (Kd.S_reads' q17X1.out).2.1 H_E30.out).mono ?_
 rintro e w12 ⟨rfl, gb⟩
 have hz12 : w11.heap.size + 0 ≤ w12.heap.size := by have := gb.size; first | omega | (simp at this; omega)
 have N_HB := Aside0.mk (below_step HB.out gb)
 have N_q8X0 := Aside0.mk (Kd.R_below q8X0.out gb)
 have N_q8X1 := Aside0.mk (Kd.S_below q8X1.out gb)
 have N_q14X1 := Aside0.mk (Kd.S_below q14X1.out gb)
 have N_q17X1 := Aside0.mk (Kd.S_below q17X1.out gb)
 have N_q19X0 := Aside0.mk (Kd.R_below q19X0.out gb)
 have N_q19X1 := Aside0.mk (Kd.S_below q19X1.out gb)
 have N_K3 := Aside0.mk (blk_below K3.out gb)
 have N_K8 := Aside0.mk (blk_below K8.out gb)
 have N_K10 := Aside0.mk (blk_below K10.out gb)
 clear HB q8X0 q8X1 q14X1 q17X1 q19X0 q19X1 K3 K8 K10
 have HB := N_HB
 have q8X0 := N_q8X0
 have q8X1 := N_q8X1
 have q14X1 := N_q14X1
 have q17X1 := N_q17X1
 have q19X0 := N_q19X0
 have q19X1 := N_q19X1
 have K3 := N_K3
 have K8 := N_K8
 have K10 := N_K10
 clear N_HB N_q8X0 N_q8X1 N_q14X1 N_q17X1 N_q19X0 N_q19X1 N_K3 N_K8 N_K10
 clear gb
 have y3 : w.heap.size < w12.heap.size := by omega
 have z3_0 : w12.cell? ⟨w.heap.size, 0, none⟩ = some (.slice A0_0 l0_0.length c0_0) := (blk_cell K3.out 0).trans rfl
 have z3_1 : w12.cell? ⟨w.heap.size, 1, none⟩ = some (.slice A0_1 l0_1.length c0_1) := (blk_cell K3.out 1).trans rfl
 have z3_2 : w12.cell? ⟨w.heap.size, 2, none⟩ = some (.int .i64 a0_2) := (blk_cell K3.out 2).trans rfl
 have z3_3 : w12.cell? ⟨w.heap.size, 3, none⟩ = some (.bool a0_3) := (blk_cell K3.out 3).trans rfl
 go_wp2_with fail
 clear y3 z3_0 z3_1 z3_2 z3_3
 refine (laws_toDisk.calls k_E7 _ _ l0_0 _ _ l0_1 a0_2 a0_3 r3 r4 r5 r6 _ (Kd.C_below HR0_0.out HB.out) HC0_0.out (Kd.C_below HR0_1.out HB.out) HC0_1.out H_E7.out).mono ?_
 rintro e w13 ⟨q31u0, q31u1, rfl, q31g0, q31g1, gb⟩
 have q31X0 := Aside0.mk (R_iv q31g0 w.heap.size (w12.heap.size) (by have := HB.out.size; first | (simp; done) | (simp; omega) | omega) (by simp))
 clear q31g0
 obtain ⟨q31A0, q31c0, rfl⟩ := Kd.R_slice q31X0.out
 have q31X1 := Aside0.mk (S_iv q31g1 w.heap.size (w12.heap.size) (by have := HB.out.size; first | (simp; done) | (simp; omega) | omega) (by simp))
 clear q31g1
 obtain ⟨q31A1, q31c1, rfl⟩ := Kd.S_slice q31X1.out
 have hz13 : w12.heap.size + 0 ≤ w13.heap.size := by have := gb.size; first | omega | (simp at this; omega)
 have N_HB := Aside0.mk (below_step HB.out gb)
 have N_q8X0 := Aside0.mk (Kd.R_below q8X0.out gb)
 have N_q8X1 := Aside0.mk (Kd.S_below q8X1.out gb)
 have N_q14X1 := Aside0.mk (Kd.S_below q14X1.out gb)
 have N_q17X1 := Aside0.mk (Kd.S_below q17X1.out gb)
 have N_q19X0 := Aside0.mk (Kd.R_below q19X0.out gb)
 have N_q19X1 := Aside0.mk (Kd.S_below q19X1.out gb)
 have N_K3 := Aside0.mk (blk_below K3.out gb)
 have N_K8 := Aside0.mk (blk_below K8.out gb)
 have N_K10 := Aside0.mk (blk_below K10.out gb)
 clear HB q8X0 q8X1 q14X1 q17X1 q19X0 q19X1 K3 K8 K10
 have HB := N_HB
 have q8X0 := N_q8X0
 have q8X1 := N_q8X1
 have q14X1 := N_q14X1
 have q17X1 := N_q17X1
 have q19X0 := N_q19X0
 have q19X1 := N_q19X1
 have K3 := N_K3
 have K8 := N_K8
 have K10 := N_K10
 clear N_HB N_q8X0 N_q8X1 N_q14X1 N_q17X1 N_q19X0 N_q19X1 N_K3 N_K8 N_K10
 clear gb
 have y3 : w.heap.size < w13.heap.size := by omega
 have z3_0 : w13.cell? ⟨w.heap.size, 0, none⟩ = some (.slice A0_0 l0_0.length c0_0) := (blk_cell K3.out 0).trans rfl
 have z3_1 : w13.cell? ⟨w.heap.size, 1, none⟩ = some (.slice A0_1 l0_1.length c0_1) := (blk_cell K3.out 1).trans rfl
 have z3_2 : w13.cell? ⟨w.heap.size, 2, none⟩ = some (.int .i64 a0_2) := (blk_cell K3.out 2).trans rfl
 have z3_3 : w13.cell? ⟨w.heap.size, 3, none⟩ = some (.bool a0_3) := (blk_cell K3.out 3).trans rfl
 go_wp2_with fail
 clear y3 z3_0 z3_1 z3_2 z3_3
 refine (impl_ReadArea.calls k_E16 _ _ r3 _ _ r4 r5 r6 a1 a2 r9 r10 r11 r12 _ (Kd.R_reads' q31X0.out).2.2 (Kd.R_reads' q31X0.out).2.1 (Kd.S_reads' q31X1.out).2.2 (Kd.S_reads' q31X1.out).2.1 H_E16.out).mono ?_
 rintro e w14 ⟨q32u1, rfl, q32g1, gb⟩
 have q32X1 := Aside0.mk (S_iv q32g1 w.heap.size (w13.heap.size) (by have := HB.out.size; first | (simp; done) | (simp; omega) | omega) (by simp))
 clear q32g1
 obtain ⟨q32A1, q32c1, rfl⟩ := Kd.S_slice q32X1.out
 have hz14 : w13.heap.size + 0 ≤ w14.heap.size := by have := gb.size; first | omega | (simp at this; omega)
 have N_HB := Aside0.mk (below_step HB.out gb)
 have N_q8X0 := Aside0.mk (Kd.R_below q8X0.out gb)
 have N_q8X1 := Aside0.mk (Kd.S_below q8X1.out gb)
 have N_q14X1 := Aside0.mk (Kd.S_below q14X1.out gb)
 have N_q17X1 := Aside0.mk (Kd.S_below q17X1.out gb)
 have N_q19X0 := Aside0.mk (Kd.R_below q19X0.out gb)
 have N_q19X1 := Aside0.mk (Kd.S_below q19X1.out gb)
 have N_q31X0 := Aside0.mk (Kd.R_below q31X0.out gb)
 have N_q31X1 := Aside0.mk (Kd.S_below q31X1.out gb)
 have N_K3 := Aside0.mk (blk_below K3.out gb)
 have N_K8 := Aside0.mk (blk_below K8.out gb)
 have N_K10 := Aside0.mk (blk_below K10.out gb)
 clear HB q8X0 q8X1 q14X1 q17X1 q19X0 q19X1 q31X0 q31X1 K3 K8 K10
 have HB := N_HB
 have q8X0 := N_q8X0
 have q8X1 := N_q8X1
 have q14X1 := N_q14X1
 have q17X1 := N_q17X1
 have q19X0 := N_q19X0
 have q19X1 := N_q19X1
 have q31X0 := N_q31X0
 have q31X1 := N_q31X1
 have K3 := N_K3
 have K8 := N_K8
 have K10 := N_K10
 clear N_HB N_q8X0 N_q8X1 N_q14X1 N_q17X1 N_q19X0 N_q19X1 N_q31X0 N_q31X1 N_K3 N_K8 N_K10
 clear gb
 have y8 : w3.heap.size < w14.heap.size := by omega
 have z8_0 : w14.cell? ⟨w3.heap.size, 0, none⟩ = some (.bool r9) := (blk_cell K8.out 0).trans rfl
 have z8_1 : w14.cell? ⟨w3.heap.size, 1, none⟩ = some (.slice q14A1 r10.length q14c1) := (blk_cell K8.out 1).trans rfl
 have z8_2 : w14.cell? ⟨w3.heap.size, 2, none⟩ = some (.int .i64 r11) := (blk_cell K8.out 2).trans rfl
 have z8_3 : w14.cell? ⟨w3.heap.size, 3, none⟩ = some (.int .i64 r12) := (blk_cell K8.out 3).trans rfl
 go_wp2_with fail
 clear y8 z8_0 z8_1 z8_2 z8_3
 refine (laws_eqAreaRes.calls k_E18 r9 _ _ r10 r11 r12 r9 _ _ r10 r11 r12 true _ (Kd.C_alloc (Kd.S_reads' q32X1.out).2.2 _) (Kd.S_reads' q32X1.out).2.1 (Kd.C_alloc (Kd.S_reads' q14X1.out).2.2 _) (Kd.S_reads' q14X1.out).2.1 H_E18.out).mono ?_
 rintro e w15 ⟨rfl, gb⟩
 have hz15 : w14.heap.size + 1 ≤ w15.heap.size := by have := gb.size; first | omega | (simp at this; omega)
 have N_HB := Aside0.mk (below_step (below_alloc HB.out _) gb)
 have N_q8X0 := Aside0.mk (Kd.R_below (Kd.R_alloc q8X0.out _) gb)
 have N_q8X1 := Aside0.mk (Kd.S_below (Kd.S_alloc q8X1.out _) gb)
 have N_q14X1 := Aside0.mk (Kd.S_below (Kd.S_alloc q14X1.out _) gb)
 have N_q17X1 := Aside0.mk (Kd.S_below (Kd.S_alloc q17X1.out _) gb)
 have N_q19X0 := Aside0.mk (Kd.R_below (Kd.R_alloc q19X0.out _) gb)
 have N_q19X1 := Aside0.mk (Kd.S_below (Kd.S_alloc q19X1.out _) gb)
 have N_q31X0 := Aside0.mk (Kd.R_below (Kd.R_alloc q31X0.out _) gb)
 have N_q31X1 := Aside0.mk (Kd.S_below (Kd.S_alloc q31X1.out _) gb)
 have N_q32X1 := Aside0.mk (Kd.S_below (Kd.S_alloc q32X1.out _) gb)
 have N_K3 := Aside0.mk (blk_below (blk_alloc K3.out _) gb)
 have N_K8 := Aside0.mk (blk_below (blk_alloc K8.out _) gb)
 have N_K10 := Aside0.mk (blk_below (blk_alloc K10.out _) gb)
 have K14 := Aside0.mk (show w15.heap[w14.heap.size]? = some (.cells #[.bool r9, .slice q32A1 r10.length q32c1, .int .i64 r11, .int .i64 r12] 65 (0, 0)) from by have := blk_below (blk_new _ _) gb; simpa using this)
 clear HB q8X0 q8X1 q14X1 q17X1 q19X0 q19X1 q31X0 q31X1 q32X1 K3 K8 K10
 have HB := N_HB
 have q8X0 := N_q8X0
 have q8X1 := N_q8X1
 have q14X1 := N_q14X1
 have q17X1 := N_q17X1
 have q19X0 := N_q19X0
 have q19X1 := N_q19X1
 have q31X0 := N_q31X0
 have q31X1 := N_q31X1
 have q32X1 := N_q32X1
 have K3 := N_K3
 have K8 := N_K8
 have K10 := N_K10
 clear N_HB N_q8X0 N_q8X1 N_q14X1 N_q17X1 N_q19X0 N_q19X1 N_q31X0 N_q31X1 N_q32X1 N_K3 N_K8 N_K10
 clear gb
 go_wp2
 go_ret
 exact ⟨rfl, by first | exact HB.out | exact below_alloc HB.out _ | exact below_alloc (below_alloc HB.out _) _ | exact below_alloc (below_alloc (below_alloc HB.out _) _) _⟩

/-! ### zmain_ReadArea: a text by hand -/
theorem main_ReadArea (A0 : Option Addr) (c0 : Nat) (l0 : List Int) (A1 : Option Addr) (c1 : Nat) (l1 : List S127) (a2 : Int) (a3 : Bool) (b0 b1 : Int)
  (F : (l0.length ≤ maxLen ∧ ∀ x ∈ l0, (Lit.int .u8 x).wf = true) ∧ (l1.length ≤ maxLen ∧ ∀ x ∈ l1, (Lit.int .i64 x.f0).wf = true ∧ (x.f1.length ≤ maxLen ∧ ∀ y ∈ x.f1, (Lit.int .u8 y).wf = true)) ∧ (Lit.int .i64 a2).wf = true ∧ True) (_F1 : (Lit.int .i64 b0).wf = true) (_F2 : (Lit.int .i64 b1).wf = true)
  (w : World) (hr0 : Kd.C (Kd.int .u8) w A0 l0.length l0) (hc0 : l0.length ≤ c0) (hr1 : Kd.C k127 w A1 l1.length l1) (hc1 : l1.length ≤ c1) :
  Calls Try.prog 8 #[.agg #[.slice A0 l0.length c0, .slice A1 l1.length c1, .int .i64 a2, .bool a3], .int .i64 b0, .int .i64 b1] w fun e w' => e = .returned (.bool true) ∧ Below w.heap.size w w' := by
 obtain ⟨r, hr, hok⟩ := szDisk_ev l0 l1 a2 a3 F.1.1 F.2.1.1 (fun x hx => (F.2.1.2 x hx).2.1)
 by_cases c : r < 0
 ·exact guard1_FnExactReadArea A0 c0 l0 A1 c1 l1 a2 a3 b0 b1 r w hr0 hc0 hr1 hc1 hr c
 obtain ⟨h0, ok⟩ := hok (by omega)
 have hT := toDisk_ev l0 l1 a2 a3 h0 ok
 have hu8 : ∀ x : Int, (Lit.int .u8 x).wf = true → 0 ≤ x ∧ x < 256 := fun x hx => by
  simp [Lit.wf] at hx
  have h1 : IntKind.u8.min = 0 := by kernel_rfl
  have h2 : IntKind.u8.max = 255 := by kernel_rfl
  omega
 have hR : RsOk l0 (cvPend l1) := ⟨h0, ok, fun x hx => hu8 x (F.1.2 x hx), fun p hp y hy => by
  obtain ⟨q, hq, rfl⟩ := List.mem_map.1 (show p ∈ cvPend l1 from hp)
  exact hu8 y ((F.2.1.2 q hq).2.2 y hy)⟩
 generalize cvPend l1 = l1' at hT ok hR
 have hi : Ev (fun k => m_ReadArea.f k l0 l1' a2 a3 b0 b1) (mRA l0 l1' a2 b0 b1) := Ev.congr (fun k => by rw [m_ReadArea.f, if_pos (rsOk_to hR)]) (Ev.now _)
 have hl := mRA_len (a2 := a2) hR b0 b1
 generalize mRA l0 l1' a2 b0 b1 = z at hi hl
 obtain ⟨r9, r10, r11, r12⟩ := z
 obtain ⟨hl1, hl2⟩ := hl
 dsimp only at hl1 hl2
 have hb := mkP_bd l1' ok.2 (1 + l0.length)
 have hq := mkQ_bd r10 hl2 1
 have o1 := ok.1
 refine walk_FnExactReadArea A0 c0 l0 A1 c1 l1 a2 a3 b0 b1 r l0 l1' a2 a3 r9 r10 r11 r12 (1 + l0.length) (mkB 1 l0) _ _ (mkQ 1 r10).1 (mkQ 1 r10).2 w hr0 hc0 hr1 hc1 hr (by omega) hT hi hi ?_ (eqDisk_ev l0 l1' a2 a3 h0 ok)
  (markByteS_ev l0 1 (by omega) (by omega)) (markPendS_ev l1' ok.2 _ (by omega) (by omega)) (by omega) (markPayloadS_ev r10 hl2 1 (by omega) (by omega)) (by omega) ?_
 ·unfold laws_eqAreaRes.f
  refine Ev.congr (fun k => if_neg (by simp)) ?_
  exact Ev.bind (eqPayloadS_ev r10 hl1 hl2) (Ev.congr (fun k => by rw [if_pos rfl, if_pos rfl, if_pos rfl]) (Ev.now _))
 ·unfold laws_heldAreaRes.f
  exact Ev.bind (heldPayloadS_ev r10 hl2 1 (by omega) (by omega)) (Ev.congr (fun k => if_neg (by omega)) (Ev.now _))
end Go.Proofs.Yteddpdonmhiplaa.PR
