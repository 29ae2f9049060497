-- Made by this session's programs out of the translation and of its own texts.
import Derived.Test.YtnkigjncfkgceaaMFnExactIndexNewa
namespace Go.Proofs.Ytnkigjncfkgceaa.PN
open Go.RowKit Go.Proofs.YtnkigjncfkgceaaW.PrintWords Go.Proofs.YtnkigjncfkgceaaW.PrintLast Go.Proofs.YtnkigjncfkgceaaW.PrintMore
attribute [local go_sem] max2_int min2_int max_two min_two max_three min_three max_four min_four   -- for this text's walks alone
set_option linter.unusedVariables false
set_option linter.unusedSimpArgs false

/-! ### laws_heldTNodeS: function 20 -/
def laws_heldTNodeS.l0 : Nat → List (S52) → Int → Int → Option (Int)
  | 0, _, _, _ => none
  | k + 1, x0, x1, x5 => if x5 < (x0.length : Int) then (if 0 ≤ x5 then (if (((rd_T52 x0 x5).f0) != ((Int.tmod x1 3) == 0)) = true then (some (-1)) else ((laws_heldStringS.f k ((rd_T52 x0 x5).f1) (wrap64 (x1 + 1))).bind fun t198 => (if t198 < 0 then (some (-1)) else ((laws_heldInt64S.f k ((rd_T52 x0 x5).f2) t198).bind fun t200 => (if t200 < 0 then (some (-1)) else (if ((rd_T52 x0 x5).f3) = t200 then (laws_heldTNodeS.l0 k x0 (wrap64 (t200 + 1)) (wrap64 (x5 + 1))) else (some (-1)))))))) else (none)) else (some x1)
def laws_heldTNodeS.f (k : Nat) (l0 : List (S52)) (a1 : Int) : Option (Int) := laws_heldTNodeS.l0 k l0 a1 0
theorem laws_heldTNodeS.mono_l : ∀ k, (∀ y0 y1 y2, LeO (laws_heldTNodeS.l0 k y0 y1 y2) (laws_heldTNodeS.l0 (k + 1) y0 y1 y2))
  | 0 => fun _ _ _ r h => by simp [laws_heldTNodeS.l0] at h
  | k + 1 => by
    have ih0 := laws_heldTNodeS.mono_l k
    · intro y0 y1 y2
      unfold laws_heldTNodeS.l0
      repeat' first
      | (with_reducible exact ih0 _ _ _)
      | (with_reducible exact laws_heldInt64S.mono _ _ _)
      | (with_reducible exact laws_heldStringS.mono _ _ _)
      | (with_reducible exact LeO.refl _)
      | (with_reducible exact LeO.none _)
      | (with_reducible refine LeO.ite ?_ ?_)
      | (with_reducible refine LeO.bind ?_ (fun _ => ?_))
      | exact ih0 _ _ _
      | exact laws_heldInt64S.mono _ _ _
      | exact laws_heldStringS.mono _ _ _
      | exact LeO.none _
      | refine LeO.ite ?_ ?_
      | refine LeO.bind ?_ (fun _ => ?_)
theorem laws_heldTNodeS.mono : ∀ a0 a1 k, LeO (laws_heldTNodeS.f k a0 a1) (laws_heldTNodeS.f (k + 1) a0 a1) := by
  intro a0 a1 k
  have ih0 := laws_heldTNodeS.mono_l k
  unfold laws_heldTNodeS.f
  repeat' first
      | (with_reducible exact ih0 _ _ _)
      | (with_reducible exact laws_heldInt64S.mono _ _ _)
      | (with_reducible exact laws_heldStringS.mono _ _ _)
      | (with_reducible exact LeO.refl _)
      | (with_reducible exact LeO.none _)
      | (with_reducible refine LeO.ite ?_ ?_)
      | (with_reducible refine LeO.bind ?_ (fun _ => ?_))
      | exact ih0 _ _ _
      | exact laws_heldInt64S.mono _ _ _
      | exact laws_heldStringS.mono _ _ _
      | exact LeO.none _
      | refine LeO.ite ?_ ?_
      | refine LeO.bind ?_ (fun _ => ?_)
set_option maxHeartbeats 8000000 in
set_option maxRecDepth 100000 in
theorem laws_heldTNodeS.calls (k : Nat) (A0 : Option Addr) (c0 : Nat) (l0 : List (S52)) (a1 : Int) (r : Int) (w : World) (hr0 : Kd.C k52 w A0 l0.length l0) (hc0 : l0.length ≤ c0) (h : laws_heldTNodeS.f k l0 a1 = some r) :
    Calls Try.prog 20 #[.slice A0 l0.length c0, .int .i64 a1] w fun e w' => e = .returned (.int .i64 r) ∧ Below w.heap.size w w' := by
  have HR0 := Aside0.mk hr0
  have HC0 := Aside0.mk hc0
  clear hr0 hc0
  have HB := Aside0.mk (Below.refl w.heap.size w)
  have H : (laws_heldTNodeS.l0 k l0 a1 0) = some r := h
  clear h
  have H' := Aside0.mk H
  clear H
  go_enter Try.func20, Try.ntmps20
  go_wp2
  go_loopg [1, 5] k (fun kq v1 v5 w' => ∃ (x1_1 : Int) (x5_1 : Int), v1 = .int .i64 x1_1 ∧ v5 = .int .i64 x5_1 ∧ Aside0 (laws_heldTNodeS.l0 kq l0 x1_1 x5_1 = some r) ∧ Aside0 (kq ≤ k) ∧ Aside0 (Below w.heap.size w w'))
  case atStart => exact ⟨(a1), (0), (by first | rfl | (simp; done) | (simp [*]; done)), (by first | rfl | (simp; done) | (simp [*]; done)), H', ⟨Nat.le_refl _⟩, ⟨by repeat (first | (with_reducible first | exact HB.out | apply below_alloc | apply pw_below_drewN | apply below_drew1) | exact HB.out)⟩⟩
  case round =>
    clear H'
    try clear c2
    try clear p2
    obtain ⟨x1_1, x5_1, rfl, rfl, HA, HK1, HB⟩ := hrel
    cases gk with
    | zero => exact absurd HA.out (by simp [laws_heldTNodeS.l0])
    | succ k1 =>
      have H := HA.out
      clear HA
      simp only [laws_heldTNodeS.l0] at H
      by_cases c3 : x5_1 < (l0.length : Int)
      · rw [if_pos c3] at H
        have c3b0 : decide (x5_1 < (l0.length : Int)) = true := decide_eq_true c3
        clear c3
        by_cases c4 : 0 ≤ x5_1
        · rw [if_pos c4] at H
          have c4b0 : decide (0 ≤ x5_1) = true := decide_eq_true c4
          clear c4
          by_cases c5 : (((rd_T52 l0 x5_1).f0) != ((Int.tmod x1_1 3) == 0)) = true
          · rw [if_pos c5] at H
            have c5b0 : (((rd_T52 l0 x5_1).f0) != ((Int.tmod x1_1 3) == 0)) = true := c5
            (try (have c5b1 : decide (((rd_T52 l0 x5_1).f0) = ((Int.tmod x1_1 3) == 0)) = false := by simpa using c5))
            (try (have c5b2 : (((rd_T52 l0 x5_1).f0) == ((Int.tmod x1_1 3) == 0)) = false := by simpa using c5))
            (try (have c5b3 : ¬ (((rd_T52 l0 x5_1).f0) = ((Int.tmod x1_1 3) == 0)) := by simpa using c5))
            clear c5
            obtain rfl := Option.some.inj H
            have p196 : 0 ≤ (x5_1 : Int) := of_decide_eq_true (by first | (with_reducible assumption) | assumption)
            have q196 : x5_1 < (l0.length : Int) := of_decide_eq_true (by first | (with_reducible assumption) | assumption)
            obtain ⟨ad196, A196_1, c196_1, A196_2, c196_2, e196, hx196_0, hx196_1, hx196_2, hx196_3, hl196_1, hi196_1, hl196_2, hi196_2⟩ := at_T52 HR0.out x5_1 p196 q196
            cases e196
            replace hx196_0 := (HB.out.cell (World.block_lt_of_cell? w _ hx196_0)).trans hx196_0
            replace hx196_1 := (HB.out.cell (World.block_lt_of_cell? w _ hx196_1)).trans hx196_1
            replace hx196_2 := (HB.out.cell (World.block_lt_of_cell? w _ hx196_2)).trans hx196_2
            replace hx196_3 := (HB.out.cell (World.block_lt_of_cell? w _ hx196_3)).trans hx196_3
            have HR196_1 := Aside0.mk hi196_1
            have HC196_1 := Aside0.mk hl196_1
            clear hi196_1 hl196_1
            have HR196_2 := Aside0.mk hi196_2
            have HC196_2 := Aside0.mk hl196_2
            clear hi196_2 hl196_2
            replace p196 := eq_true p196
            replace q196 := eq_true q196
            go_wp2
            go_ret
            exact ⟨by first | rfl | (simp [errW_none, errW_some] <;> rfl) | (simp [*, errW_none, errW_some] <;> rfl), by repeat (first | (with_reducible first | exact HB.out | apply below_alloc | apply pw_below_drewN | apply below_drew1) | exact HB.out)⟩
          · rw [if_neg c5] at H
            have c5b0 : (((rd_T52 l0 x5_1).f0) != ((Int.tmod x1_1 3) == 0)) = false := by simpa using c5
            (try (have c5b1 : decide (((rd_T52 l0 x5_1).f0) = ((Int.tmod x1_1 3) == 0)) = true := by simpa using c5))
            (try (have c5b2 : (((rd_T52 l0 x5_1).f0) == ((Int.tmod x1_1 3) == 0)) = true := by simpa using c5))
            clear c5
            replace H := Option.bind_eq_some_iff.mp H
            obtain ⟨t198, A60, H⟩ := H
            replace H : (if t198 < 0 then (some (-1)) else ((laws_heldInt64S.f k1 ((rd_T52 l0 x5_1).f2) t198).bind fun t200 => (if t200 < 0 then (some (-1)) else (if ((rd_T52 l0 x5_1).f3) = t200 then (laws_heldTNodeS.l0 k1 l0 (wrap64 (t200 + 1)) (wrap64 (x5_1 + 1))) else (some (-1)))))) = some r := H
            have A6 := Aside0.mk A60
            clear A60
            by_cases c7 : t198 < 0
            · rw [if_pos c7] at H
              have c7b0 : decide (t198 < 0) = true := decide_eq_true c7
              clear c7
              obtain rfl := Option.some.inj H
              have p196 : 0 ≤ (x5_1 : Int) := of_decide_eq_true (by first | (with_reducible assumption) | assumption)
              have q196 : x5_1 < (l0.length : Int) := of_decide_eq_true (by first | (with_reducible assumption) | assumption)
              obtain ⟨ad196, A196_1, c196_1, A196_2, c196_2, e196, hx196_0, hx196_1, hx196_2, hx196_3, hl196_1, hi196_1, hl196_2, hi196_2⟩ := at_T52 HR0.out x5_1 p196 q196
              cases e196
              replace hx196_0 := (HB.out.cell (World.block_lt_of_cell? w _ hx196_0)).trans hx196_0
              replace hx196_1 := (HB.out.cell (World.block_lt_of_cell? w _ hx196_1)).trans hx196_1
              replace hx196_2 := (HB.out.cell (World.block_lt_of_cell? w _ hx196_2)).trans hx196_2
              replace hx196_3 := (HB.out.cell (World.block_lt_of_cell? w _ hx196_3)).trans hx196_3
              have HR196_1 := Aside0.mk hi196_1
              have HC196_1 := Aside0.mk hl196_1
              clear hi196_1 hl196_1
              have HR196_2 := Aside0.mk hi196_2
              have HC196_2 := Aside0.mk hl196_2
              clear hi196_2 hl196_2
              replace p196 := eq_true p196
              replace q196 := eq_true q196
              have p197 : 0 ≤ (x5_1 : Int) := of_decide_eq_true (by first | (with_reducible assumption) | assumption)
              have q197 : x5_1 < (l0.length : Int) := of_decide_eq_true (by first | (with_reducible assumption) | assumption)
              obtain ⟨ad197, A197_1, c197_1, A197_2, c197_2, e197, hx197_0, hx197_1, hx197_2, hx197_3, hl197_1, hi197_1, hl197_2, hi197_2⟩ := at_T52 HR0.out x5_1 p197 q197
              obtain rfl : ad196 = ad197 := (by injection e197)
              replace hx197_0 := (HB.out.cell (World.block_lt_of_cell? w _ hx197_0)).trans hx197_0
              replace hx197_1 := (HB.out.cell (World.block_lt_of_cell? w _ hx197_1)).trans hx197_1
              replace hx197_2 := (HB.out.cell (World.block_lt_of_cell? w _ hx197_2)).trans hx197_2
              replace hx197_3 := (HB.out.cell (World.block_lt_of_cell? w _ hx197_3)).trans hx197_3
              have HR197_1 := Aside0.mk hi197_1
              have HC197_1 := Aside0.mk hl197_1
              clear hi197_1 hl197_1
              have HR197_2 := Aside0.mk hi197_2
              have HC197_2 := Aside0.mk hl197_2
              clear hi197_2 hl197_2
              replace p197 := eq_true p197
              replace q197 := eq_true q197
              have ea_ := Option.some.inj (hx196_1.symm.trans hx197_1)
              injection ea_ with ea_ en_ ec_
              subst ea_
              subst ec_
              clear en_
              have ea_ := Option.some.inj (hx196_2.symm.trans hx197_2)
              injection ea_ with ea_ en_ ec_
              subst ea_
              subst ec_
              clear en_
              go_wp2_with (first | ((with_reducible refine gate_callee (f := 29) rfl ?_); refine goesL_ (some 29) rfl rfl Try.func29 (by kernel_rfl) rfl #[.slice A196_1 ((rd_T52 l0 x5_1).f1).length c196_1, .int .i64 (wrap64 (x1_1 + 1))] rfl (by (try simp only [List.map_toArray, List.map_cons, List.map_nil]); first | done | rfl | (simp only [List.length_drop, List.length_take]; rfl)) ?_; (with_reducible refine (laws_heldStringS.calls k1 _ _ ((rd_T52 l0 x5_1).f1) (wrap64 (x1_1 + 1)) t198 _ ?side1 ?side2 A6.out).mono ?_); (case side1 => repeat (first | exact (Kd.C_below HR197_1.out HB.out) | (with_reducible refine Kd.C_alloc ?_ _) | (with_reducible refine Kd.C_drewN ?_ _) | (with_reducible refine Kd.C_drew ?_))); (case side2 => exact HC197_1.out); rintro e w8 ⟨rfl, hb⟩; refine ⟨_, rfl, ?_⟩; have n0_ := Aside0.mk (below_step (by repeat (first | (with_reducible first | exact HB.out | apply below_alloc | apply pw_below_drewN | apply below_drew1) | exact HB.out)) hb); clear HB; have HB := n0_; clear n0_; (try clear hb); (try clear hb2); (try clear hk); (try clear hi)))
              go_ret
              exact ⟨by first | rfl | (simp [errW_none, errW_some] <;> rfl) | (simp [*, errW_none, errW_some] <;> rfl), by repeat (first | (with_reducible first | exact HB.out | apply below_alloc | apply pw_below_drewN | apply below_drew1) | exact HB.out)⟩
            · rw [if_neg c7] at H
              have c7b0 : decide (t198 < 0) = false := decide_eq_false c7
              clear c7
              replace H := Option.bind_eq_some_iff.mp H
              obtain ⟨t200, A90, H⟩ := H
              replace H : (if t200 < 0 then (some (-1)) else (if ((rd_T52 l0 x5_1).f3) = t200 then (laws_heldTNodeS.l0 k1 l0 (wrap64 (t200 + 1)) (wrap64 (x5_1 + 1))) else (some (-1)))) = some r := H
              have A9 := Aside0.mk A90
              clear A90
              by_cases c10 : t200 < 0
              · rw [if_pos c10] at H
                have c10b0 : decide (t200 < 0) = true := decide_eq_true c10
                clear c10
                obtain rfl := Option.some.inj H
                have p196 : 0 ≤ (x5_1 : Int) := of_decide_eq_true (by first | (with_reducible assumption) | assumption)
                have q196 : x5_1 < (l0.length : Int) := of_decide_eq_true (by first | (with_reducible assumption) | assumption)
                obtain ⟨ad196, A196_1, c196_1, A196_2, c196_2, e196, hx196_0, hx196_1, hx196_2, hx196_3, hl196_1, hi196_1, hl196_2, hi196_2⟩ := at_T52 HR0.out x5_1 p196 q196
                cases e196
                replace hx196_0 := (HB.out.cell (World.block_lt_of_cell? w _ hx196_0)).trans hx196_0
                replace hx196_1 := (HB.out.cell (World.block_lt_of_cell? w _ hx196_1)).trans hx196_1
                replace hx196_2 := (HB.out.cell (World.block_lt_of_cell? w _ hx196_2)).trans hx196_2
                replace hx196_3 := (HB.out.cell (World.block_lt_of_cell? w _ hx196_3)).trans hx196_3
                have HR196_1 := Aside0.mk hi196_1
                have HC196_1 := Aside0.mk hl196_1
                clear hi196_1 hl196_1
                have HR196_2 := Aside0.mk hi196_2
                have HC196_2 := Aside0.mk hl196_2
                clear hi196_2 hl196_2
                replace p196 := eq_true p196
                replace q196 := eq_true q196
                have p197 : 0 ≤ (x5_1 : Int) := of_decide_eq_true (by first | (with_reducible assumption) | assumption)
                have q197 : x5_1 < (l0.length : Int) := of_decide_eq_true (by first | (with_reducible assumption) | assumption)
                obtain ⟨ad197, A197_1, c197_1, A197_2, c197_2, e197, hx197_0, hx197_1, hx197_2, hx197_3, hl197_1, hi197_1, hl197_2, hi197_2⟩ := at_T52 HR0.out x5_1 p197 q197
                obtain rfl : ad196 = ad197 := (by injection e197)
                replace hx197_0 := (HB.out.cell (World.block_lt_of_cell? w _ hx197_0)).trans hx197_0
                replace hx197_1 := (HB.out.cell (World.block_lt_of_cell? w _ hx197_1)).trans hx197_1
                replace hx197_2 := (HB.out.cell (World.block_lt_of_cell? w _ hx197_2)).trans hx197_2
                replace hx197_3 := (HB.out.cell (World.block_lt_of_cell? w _ hx197_3)).trans hx197_3
                have HR197_1 := Aside0.mk hi197_1
                have HC197_1 := Aside0.mk hl197_1
                clear hi197_1 hl197_1
                have HR197_2 := Aside0.mk hi197_2
                have HC197_2 := Aside0.mk hl197_2
                clear hi197_2 hl197_2
                replace p197 := eq_true p197
                replace q197 := eq_true q197
                have ea_ := Option.some.inj (hx196_1.symm.trans hx197_1)
                injection ea_ with ea_ en_ ec_
                subst ea_
                subst ec_
                clear en_
                have ea_ := Option.some.inj (hx196_2.symm.trans hx197_2)
                injection ea_ with ea_ en_ ec_
                subst ea_
                subst ec_
                clear en_
                go_wp2_with (first | ((with_reducible refine gate_callee (f := 29) rfl ?_); refine goesL_ (some 29) rfl rfl Try.func29 (by kernel_rfl) rfl #[.slice A196_1 ((rd_T52 l0 x5_1).f1).length c196_1, .int .i64 (wrap64 (x1_1 + 1))] rfl (by (try simp only [List.map_toArray, List.map_cons, List.map_nil]); first | done | rfl | (simp only [List.length_drop, List.length_take]; rfl)) ?_; (with_reducible refine (laws_heldStringS.calls k1 _ _ ((rd_T52 l0 x5_1).f1) (wrap64 (x1_1 + 1)) t198 _ ?side1 ?side2 A6.out).mono ?_); (case side1 => repeat (first | exact (Kd.C_below HR197_1.out HB.out) | (with_reducible refine Kd.C_alloc ?_ _) | (with_reducible refine Kd.C_drewN ?_ _) | (with_reducible refine Kd.C_drew ?_))); (case side2 => exact HC197_1.out); rintro e w11 ⟨rfl, hb⟩; refine ⟨_, rfl, ?_⟩; have n0_ := Aside0.mk (below_step (by repeat (first | (with_reducible first | exact HB.out | apply below_alloc | apply pw_below_drewN | apply below_drew1) | exact HB.out)) hb); clear HB; have HB := n0_; clear n0_; (try clear hb); (try clear hb2); (try clear hk); (try clear hi); have p199 : 0 ≤ (x5_1 : Int) := of_decide_eq_true (by first | (with_reducible assumption) | assumption); have q199 : x5_1 < (l0.length : Int) := of_decide_eq_true (by first | (with_reducible assumption) | assumption); obtain ⟨ad199, A199_1, c199_1, A199_2, c199_2, e199, hx199_0, hx199_1, hx199_2, hx199_3, hl199_1, hi199_1, hl199_2, hi199_2⟩ := at_T52 HR0.out x5_1 p199 q199; obtain rfl : ad196 = ad199 := (by injection e199); replace hx199_0 := (HB.out.cell (World.block_lt_of_cell? w _ hx199_0)).trans hx199_0; replace hx199_1 := (HB.out.cell (World.block_lt_of_cell? w _ hx199_1)).trans hx199_1; replace hx199_2 := (HB.out.cell (World.block_lt_of_cell? w _ hx199_2)).trans hx199_2; replace hx199_3 := (HB.out.cell (World.block_lt_of_cell? w _ hx199_3)).trans hx199_3; have HR199_1 := Aside0.mk hi199_1; have HC199_1 := Aside0.mk hl199_1; clear hi199_1 hl199_1; have HR199_2 := Aside0.mk hi199_2; have HC199_2 := Aside0.mk hl199_2; clear hi199_2 hl199_2; replace p199 := eq_true p199; replace q199 := eq_true q199) | ((with_reducible refine gate_callee (f := 30) rfl ?_); refine goesL_ (some 38) rfl rfl Try.func30 (by kernel_rfl) rfl #[.slice A199_2 ((rd_T52 l0 x5_1).f2).length c199_2, .int .i64 t198] rfl (by (try simp only [List.map_toArray, List.map_cons, List.map_nil]); first | done | rfl | (simp only [List.length_drop, List.length_take]; rfl)) ?_; (with_reducible refine (laws_heldInt64S.calls k1 _ _ ((rd_T52 l0 x5_1).f2) t198 t200 _ ?side1 ?side2 A9.out).mono ?_); (case side1 => repeat (first | exact (Kd.C_below HR199_2.out HB.out) | (with_reducible refine Kd.C_alloc ?_ _) | (with_reducible refine Kd.C_drewN ?_ _) | (with_reducible refine Kd.C_drew ?_))); (case side2 => exact HC199_2.out); rintro e w' ⟨rfl, ⟨nd, rfl⟩⟩; refine ⟨_, rfl, ?_⟩))
                go_ret
                exact ⟨by first | rfl | (simp [errW_none, errW_some] <;> rfl) | (simp [*, errW_none, errW_some] <;> rfl), by repeat (first | (with_reducible first | exact HB.out | apply below_alloc | apply pw_below_drewN | apply below_drew1) | exact HB.out)⟩
              · rw [if_neg c10] at H
                have c10b0 : decide (t200 < 0) = false := decide_eq_false c10
                clear c10
                by_cases c12 : ((rd_T52 l0 x5_1).f3) = t200
                · rw [if_pos c12] at H
                  have c12b0 : (((rd_T52 l0 x5_1).f3) == t200) = true := beq_iff_eq.mpr c12
                  have c12b1 : (((rd_T52 l0 x5_1).f3) != t200) = false := bne_eq_false_iff_eq.mpr c12
                  clear c12
                  have H' := Aside0.mk H
                  clear H
                  have p196 : 0 ≤ (x5_1 : Int) := of_decide_eq_true (by first | (with_reducible assumption) | assumption)
                  have q196 : x5_1 < (l0.length : Int) := of_decide_eq_true (by first | (with_reducible assumption) | assumption)
                  obtain ⟨ad196, A196_1, c196_1, A196_2, c196_2, e196, hx196_0, hx196_1, hx196_2, hx196_3, hl196_1, hi196_1, hl196_2, hi196_2⟩ := at_T52 HR0.out x5_1 p196 q196
                  cases e196
                  replace hx196_0 := (HB.out.cell (World.block_lt_of_cell? w _ hx196_0)).trans hx196_0
                  replace hx196_1 := (HB.out.cell (World.block_lt_of_cell? w _ hx196_1)).trans hx196_1
                  replace hx196_2 := (HB.out.cell (World.block_lt_of_cell? w _ hx196_2)).trans hx196_2
                  replace hx196_3 := (HB.out.cell (World.block_lt_of_cell? w _ hx196_3)).trans hx196_3
                  have HR196_1 := Aside0.mk hi196_1
                  have HC196_1 := Aside0.mk hl196_1
                  clear hi196_1 hl196_1
                  have HR196_2 := Aside0.mk hi196_2
                  have HC196_2 := Aside0.mk hl196_2
                  clear hi196_2 hl196_2
                  replace p196 := eq_true p196
                  replace q196 := eq_true q196
                  have p197 : 0 ≤ (x5_1 : Int) := of_decide_eq_true (by first | (with_reducible assumption) | assumption)
                  have q197 : x5_1 < (l0.length : Int) := of_decide_eq_true (by first | (with_reducible assumption) | assumption)
                  obtain ⟨ad197, A197_1, c197_1, A197_2, c197_2, e197, hx197_0, hx197_1, hx197_2, hx197_3, hl197_1, hi197_1, hl197_2, hi197_2⟩ := at_T52 HR0.out x5_1 p197 q197
                  obtain rfl : ad196 = ad197 := (by injection e197)
                  replace hx197_0 := (HB.out.cell (World.block_lt_of_cell? w _ hx197_0)).trans hx197_0
                  replace hx197_1 := (HB.out.cell (World.block_lt_of_cell? w _ hx197_1)).trans hx197_1
                  replace hx197_2 := (HB.out.cell (World.block_lt_of_cell? w _ hx197_2)).trans hx197_2
                  replace hx197_3 := (HB.out.cell (World.block_lt_of_cell? w _ hx197_3)).trans hx197_3
                  have HR197_1 := Aside0.mk hi197_1
                  have HC197_1 := Aside0.mk hl197_1
                  clear hi197_1 hl197_1
                  have HR197_2 := Aside0.mk hi197_2
                  have HC197_2 := Aside0.mk hl197_2
                  clear hi197_2 hl197_2
                  replace p197 := eq_true p197
                  replace q197 := eq_true q197
                  have ea_ := Option.some.inj (hx196_1.symm.trans hx197_1)
                  injection ea_ with ea_ en_ ec_
                  subst ea_
                  subst ec_
                  clear en_
                  have ea_ := Option.some.inj (hx196_2.symm.trans hx197_2)
                  injection ea_ with ea_ en_ ec_
                  subst ea_
                  subst ec_
                  clear en_
                  go_wp2_with (first | ((with_reducible refine gate_callee (f := 29) rfl ?_); refine goesL_ (some 29) rfl rfl Try.func29 (by kernel_rfl) rfl #[.slice A196_1 ((rd_T52 l0 x5_1).f1).length c196_1, .int .i64 (wrap64 (x1_1 + 1))] rfl (by (try simp only [List.map_toArray, List.map_cons, List.map_nil]); first | done | rfl | (simp only [List.length_drop, List.length_take]; rfl)) ?_; (with_reducible refine (laws_heldStringS.calls k1 _ _ ((rd_T52 l0 x5_1).f1) (wrap64 (x1_1 + 1)) t198 _ ?side1 ?side2 A6.out).mono ?_); (case side1 => repeat (first | exact (Kd.C_below HR197_1.out HB.out) | (with_reducible refine Kd.C_alloc ?_ _) | (with_reducible refine Kd.C_drewN ?_ _) | (with_reducible refine Kd.C_drew ?_))); (case side2 => exact HC197_1.out); rintro e w13 ⟨rfl, hb⟩; refine ⟨_, rfl, ?_⟩; have n0_ := Aside0.mk (below_step (by repeat (first | (with_reducible first | exact HB.out | apply below_alloc | apply pw_below_drewN | apply below_drew1) | exact HB.out)) hb); clear HB; have HB := n0_; clear n0_; (try clear hb); (try clear hb2); (try clear hk); (try clear hi); have p199 : 0 ≤ (x5_1 : Int) := of_decide_eq_true (by first | (with_reducible assumption) | assumption); have q199 : x5_1 < (l0.length : Int) := of_decide_eq_true (by first | (with_reducible assumption) | assumption); obtain ⟨ad199, A199_1, c199_1, A199_2, c199_2, e199, hx199_0, hx199_1, hx199_2, hx199_3, hl199_1, hi199_1, hl199_2, hi199_2⟩ := at_T52 HR0.out x5_1 p199 q199; obtain rfl : ad196 = ad199 := (by injection e199); replace hx199_0 := (HB.out.cell (World.block_lt_of_cell? w _ hx199_0)).trans hx199_0; replace hx199_1 := (HB.out.cell (World.block_lt_of_cell? w _ hx199_1)).trans hx199_1; replace hx199_2 := (HB.out.cell (World.block_lt_of_cell? w _ hx199_2)).trans hx199_2; replace hx199_3 := (HB.out.cell (World.block_lt_of_cell? w _ hx199_3)).trans hx199_3; have HR199_1 := Aside0.mk hi199_1; have HC199_1 := Aside0.mk hl199_1; clear hi199_1 hl199_1; have HR199_2 := Aside0.mk hi199_2; have HC199_2 := Aside0.mk hl199_2; clear hi199_2 hl199_2; replace p199 := eq_true p199; replace q199 := eq_true q199) | ((with_reducible refine gate_callee (f := 30) rfl ?_); refine goesL_ (some 38) rfl rfl Try.func30 (by kernel_rfl) rfl #[.slice A199_2 ((rd_T52 l0 x5_1).f2).length c199_2, .int .i64 t198] rfl (by (try simp only [List.map_toArray, List.map_cons, List.map_nil]); first | done | rfl | (simp only [List.length_drop, List.length_take]; rfl)) ?_; (with_reducible refine (laws_heldInt64S.calls k1 _ _ ((rd_T52 l0 x5_1).f2) t198 t200 _ ?side1 ?side2 A9.out).mono ?_); (case side1 => repeat (first | exact (Kd.C_below HR199_2.out HB.out) | (with_reducible refine Kd.C_alloc ?_ _) | (with_reducible refine Kd.C_drewN ?_ _) | (with_reducible refine Kd.C_drew ?_))); (case side2 => exact HC199_2.out); rintro e w' ⟨rfl, ⟨nd, rfl⟩⟩; refine ⟨_, rfl, ?_⟩; have p201 : 0 ≤ (x5_1 : Int) := of_decide_eq_true (by first | (with_reducible assumption) | assumption); have q201 : x5_1 < (l0.length : Int) := of_decide_eq_true (by first | (with_reducible assumption) | assumption); obtain ⟨ad201, A201_1, c201_1, A201_2, c201_2, e201, hx201_0, hx201_1, hx201_2, hx201_3, hl201_1, hi201_1, hl201_2, hi201_2⟩ := at_T52 HR0.out x5_1 p201 q201; obtain rfl : ad196 = ad201 := (by injection e201); replace hx201_0 := (HB.out.cell (World.block_lt_of_cell? w _ hx201_0)).trans hx201_0; replace hx201_1 := (HB.out.cell (World.block_lt_of_cell? w _ hx201_1)).trans hx201_1; replace hx201_2 := (HB.out.cell (World.block_lt_of_cell? w _ hx201_2)).trans hx201_2; replace hx201_3 := (HB.out.cell (World.block_lt_of_cell? w _ hx201_3)).trans hx201_3; have HR201_1 := Aside0.mk hi201_1; have HC201_1 := Aside0.mk hl201_1; clear hi201_1 hl201_1; have HR201_2 := Aside0.mk hi201_2; have HC201_2 := Aside0.mk hl201_2; clear hi201_2 hl201_2; replace p201 := eq_true p201; replace q201 := eq_true q201; have ea_ := Option.some.inj (hx199_1.symm.trans hx201_1); injection ea_ with ea_ en_ ec_; subst ea_; subst ec_; clear en_; have ea_ := Option.some.inj (hx199_2.symm.trans hx201_2); injection ea_ with ea_ en_ ec_; subst ea_; subst ec_; clear en_))
                  go_roundg k1
                  case measure => have := HK1.out; omega
                  case rel => exact ⟨(wrap64 (t200 + 1)), (wrap64 (x5_1 + 1)), (by first | rfl | (simp; done) | (simp [*]; done)), (by first | rfl | (simp; done) | (simp [*]; done)), H', ⟨by have := HK1.out; omega⟩, ⟨by repeat (first | (with_reducible first | exact HB.out | apply below_alloc | apply pw_below_drewN | apply below_drew1) | exact HB.out)⟩⟩
                · rw [if_neg c12] at H
                  have c12b0 : (((rd_T52 l0 x5_1).f3) == t200) = false := beq_eq_false_iff_ne.mpr c12
                  have c12b1 : (((rd_T52 l0 x5_1).f3) != t200) = true := bne_iff_ne.mpr c12
                  obtain rfl := Option.some.inj H
                  have p196 : 0 ≤ (x5_1 : Int) := of_decide_eq_true (by first | (with_reducible assumption) | assumption)
                  have q196 : x5_1 < (l0.length : Int) := of_decide_eq_true (by first | (with_reducible assumption) | assumption)
                  obtain ⟨ad196, A196_1, c196_1, A196_2, c196_2, e196, hx196_0, hx196_1, hx196_2, hx196_3, hl196_1, hi196_1, hl196_2, hi196_2⟩ := at_T52 HR0.out x5_1 p196 q196
                  cases e196
                  replace hx196_0 := (HB.out.cell (World.block_lt_of_cell? w _ hx196_0)).trans hx196_0
                  replace hx196_1 := (HB.out.cell (World.block_lt_of_cell? w _ hx196_1)).trans hx196_1
                  replace hx196_2 := (HB.out.cell (World.block_lt_of_cell? w _ hx196_2)).trans hx196_2
                  replace hx196_3 := (HB.out.cell (World.block_lt_of_cell? w _ hx196_3)).trans hx196_3
                  have HR196_1 := Aside0.mk hi196_1
                  have HC196_1 := Aside0.mk hl196_1
                  clear hi196_1 hl196_1
                  have HR196_2 := Aside0.mk hi196_2
                  have HC196_2 := Aside0.mk hl196_2
                  clear hi196_2 hl196_2
                  replace p196 := eq_true p196
                  replace q196 := eq_true q196
                  have p197 : 0 ≤ (x5_1 : Int) := of_decide_eq_true (by first | (with_reducible assumption) | assumption)
                  have q197 : x5_1 < (l0.length : Int) := of_decide_eq_true (by first | (with_reducible assumption) | assumption)
                  obtain ⟨ad197, A197_1, c197_1, A197_2, c197_2, e197, hx197_0, hx197_1, hx197_2, hx197_3, hl197_1, hi197_1, hl197_2, hi197_2⟩ := at_T52 HR0.out x5_1 p197 q197
                  obtain rfl : ad196 = ad197 := (by injection e197)
                  replace hx197_0 := (HB.out.cell (World.block_lt_of_cell? w _ hx197_0)).trans hx197_0
                  replace hx197_1 := (HB.out.cell (World.block_lt_of_cell? w _ hx197_1)).trans hx197_1
                  replace hx197_2 := (HB.out.cell (World.block_lt_of_cell? w _ hx197_2)).trans hx197_2
                  replace hx197_3 := (HB.out.cell (World.block_lt_of_cell? w _ hx197_3)).trans hx197_3
                  have HR197_1 := Aside0.mk hi197_1
                  have HC197_1 := Aside0.mk hl197_1
                  clear hi197_1 hl197_1
                  have HR197_2 := Aside0.mk hi197_2
                  have HC197_2 := Aside0.mk hl197_2
                  clear hi197_2 hl197_2
                  replace p197 := eq_true p197
                  replace q197 := eq_true q197
                  have ea_ := Option.some.inj (hx196_1.symm.trans hx197_1)
                  injection ea_ with ea_ en_ ec_
                  subst ea_
                  subst ec_
                  clear en_
                  have ea_ := Option.some.inj (hx196_2.symm.trans hx197_2)
                  injection ea_ with ea_ en_ ec_
                  subst ea_
                  subst ec_
                  clear en_
                  go_wp2_with (first | ((with_reducible refine gate_callee (f := 29) rfl ?_); refine goesL_ (some 29) rfl rfl Try.func29 (by kernel_rfl) rfl #[.slice A196_1 ((rd_T52 l0 x5_1).f1).length c196_1, .int .i64 (wrap64 (x1_1 + 1))] rfl (by (try simp only [List.map_toArray, List.map_cons, List.map_nil]); first | done | rfl | (simp only [List.length_drop, List.length_take]; rfl)) ?_; (with_reducible refine (laws_heldStringS.calls k1 _ _ ((rd_T52 l0 x5_1).f1) (wrap64 (x1_1 + 1)) t198 _ ?side1 ?side2 A6.out).mono ?_); (case side1 => repeat (first | exact (Kd.C_below HR197_1.out HB.out) | (with_reducible refine Kd.C_alloc ?_ _) | (with_reducible refine Kd.C_drewN ?_ _) | (with_reducible refine Kd.C_drew ?_))); (case side2 => exact HC197_1.out); rintro e w14 ⟨rfl, hb⟩; refine ⟨_, rfl, ?_⟩; have n0_ := Aside0.mk (below_step (by repeat (first | (with_reducible first | exact HB.out | apply below_alloc | apply pw_below_drewN | apply below_drew1) | exact HB.out)) hb); clear HB; have HB := n0_; clear n0_; (try clear hb); (try clear hb2); (try clear hk); (try clear hi); have p199 : 0 ≤ (x5_1 : Int) := of_decide_eq_true (by first | (with_reducible assumption) | assumption); have q199 : x5_1 < (l0.length : Int) := of_decide_eq_true (by first | (with_reducible assumption) | assumption); obtain ⟨ad199, A199_1, c199_1, A199_2, c199_2, e199, hx199_0, hx199_1, hx199_2, hx199_3, hl199_1, hi199_1, hl199_2, hi199_2⟩ := at_T52 HR0.out x5_1 p199 q199; obtain rfl : ad196 = ad199 := (by injection e199); replace hx199_0 := (HB.out.cell (World.block_lt_of_cell? w _ hx199_0)).trans hx199_0; replace hx199_1 := (HB.out.cell (World.block_lt_of_cell? w _ hx199_1)).trans hx199_1; replace hx199_2 := (HB.out.cell (World.block_lt_of_cell? w _ hx199_2)).trans hx199_2; replace hx199_3 := (HB.out.cell (World.block_lt_of_cell? w _ hx199_3)).trans hx199_3; have HR199_1 := Aside0.mk hi199_1; have HC199_1 := Aside0.mk hl199_1; clear hi199_1 hl199_1; have HR199_2 := Aside0.mk hi199_2; have HC199_2 := Aside0.mk hl199_2; clear hi199_2 hl199_2; replace p199 := eq_true p199; replace q199 := eq_true q199) | ((with_reducible refine gate_callee (f := 30) rfl ?_); refine goesL_ (some 38) rfl rfl Try.func30 (by kernel_rfl) rfl #[.slice A199_2 ((rd_T52 l0 x5_1).f2).length c199_2, .int .i64 t198] rfl (by (try simp only [List.map_toArray, List.map_cons, List.map_nil]); first | done | rfl | (simp only [List.length_drop, List.length_take]; rfl)) ?_; (with_reducible refine (laws_heldInt64S.calls k1 _ _ ((rd_T52 l0 x5_1).f2) t198 t200 _ ?side1 ?side2 A9.out).mono ?_); (case side1 => repeat (first | exact (Kd.C_below HR199_2.out HB.out) | (with_reducible refine Kd.C_alloc ?_ _) | (with_reducible refine Kd.C_drewN ?_ _) | (with_reducible refine Kd.C_drew ?_))); (case side2 => exact HC199_2.out); rintro e w' ⟨rfl, ⟨nd, rfl⟩⟩; refine ⟨_, rfl, ?_⟩; have p201 : 0 ≤ (x5_1 : Int) := of_decide_eq_true (by first | (with_reducible assumption) | assumption); have q201 : x5_1 < (l0.length : Int) := of_decide_eq_true (by first | (with_reducible assumption) | assumption); obtain ⟨ad201, A201_1, c201_1, A201_2, c201_2, e201, hx201_0, hx201_1, hx201_2, hx201_3, hl201_1, hi201_1, hl201_2, hi201_2⟩ := at_T52 HR0.out x5_1 p201 q201; obtain rfl : ad196 = ad201 := (by injection e201); replace hx201_0 := (HB.out.cell (World.block_lt_of_cell? w _ hx201_0)).trans hx201_0; replace hx201_1 := (HB.out.cell (World.block_lt_of_cell? w _ hx201_1)).trans hx201_1; replace hx201_2 := (HB.out.cell (World.block_lt_of_cell? w _ hx201_2)).trans hx201_2; replace hx201_3 := (HB.out.cell (World.block_lt_of_cell? w _ hx201_3)).trans hx201_3; have HR201_1 := Aside0.mk hi201_1; have HC201_1 := Aside0.mk hl201_1; clear hi201_1 hl201_1; have HR201_2 := Aside0.mk hi201_2; have HC201_2 := Aside0.mk hl201_2; clear hi201_2 hl201_2; replace p201 := eq_true p201; replace q201 := eq_true q201; have ea_ := Option.some.inj (hx199_1.symm.trans hx201_1); injection ea_ with ea_ en_ ec_; subst ea_; subst ec_; clear en_; have ea_ := Option.some.inj (hx199_2.symm.trans hx201_2); injection ea_ with ea_ en_ ec_; subst ea_; subst ec_; clear en_))
                  go_ret
                  exact ⟨by first | rfl | (simp [errW_none, errW_some] <;> rfl) | (simp [*, errW_none, errW_some] <;> rfl), by repeat (first | (with_reducible first | exact HB.out | apply below_alloc | apply pw_below_drewN | apply below_drew1) | exact HB.out)⟩
        · rw [if_neg c4] at H
          exact absurd H (by simp)
      · rw [if_neg c3] at H
        have c3b0 : decide (x5_1 < (l0.length : Int)) = false := decide_eq_false c3
        clear c3
        obtain rfl := Option.some.inj H
        go_wp2
        go_ret
        exact ⟨by first | rfl | (simp [errW_none, errW_some] <;> rfl) | (simp [*, errW_none, errW_some] <;> rfl), by repeat (first | (with_reducible first | exact HB.out | apply below_alloc | apply pw_below_drewN | apply below_drew1) | exact HB.out)⟩

/-! ### laws_eqTreeS: function 21 -/
def laws_eqTreeS.l0 : Nat → List (S24) → List (S24) → Int → Option (Bool)
  | 0, _, _, _ => none
  | k + 1, x0, x1, x5 => if x5 < (x0.length : Int) then (if 0 ≤ x5 then (if x5 < (x1.length : Int) then ((laws_eqTree.f k ((rd_T24 x0 x5).f0) ((rd_T24 x1 x5).f0)).bind fun t210 => (if t210 = true then (laws_eqTreeS.l0 k x0 x1 (wrap64 (x5 + 1))) else (some false))) else (none)) else (none)) else (some true)
def laws_eqTreeS.f (k : Nat) (l0 : List (S24)) (l1 : List (S24)) : Option (Bool) := if (l0.length : Int) = (l1.length : Int) then (laws_eqTreeS.l0 k l0 l1 0) else (some false)
theorem laws_eqTreeS.mono_l : ∀ k, (∀ y0 y1 y2, LeO (laws_eqTreeS.l0 k y0 y1 y2) (laws_eqTreeS.l0 (k + 1) y0 y1 y2))
  | 0 => fun _ _ _ r h => by simp [laws_eqTreeS.l0] at h
  | k + 1 => by
    have ih0 := laws_eqTreeS.mono_l k
    · intro y0 y1 y2
      unfold laws_eqTreeS.l0
      repeat' first
      | (with_reducible exact ih0 _ _ _)
      | (with_reducible exact laws_eqTree.mono _ _ _)
      | (with_reducible exact LeO.refl _)
      | (with_reducible exact LeO.none _)
      | (with_reducible refine LeO.ite ?_ ?_)
      | (with_reducible refine LeO.bind ?_ (fun _ => ?_))
      | exact ih0 _ _ _
      | exact laws_eqTree.mono _ _ _
      | exact LeO.none _
      | refine LeO.ite ?_ ?_
      | refine LeO.bind ?_ (fun _ => ?_)
theorem laws_eqTreeS.mono : ∀ a0 a1 k, LeO (laws_eqTreeS.f k a0 a1) (laws_eqTreeS.f (k + 1) a0 a1) := by
  intro a0 a1 k
  have ih0 := laws_eqTreeS.mono_l k
  unfold laws_eqTreeS.f
  repeat' first
      | (with_reducible exact ih0 _ _ _)
      | (with_reducible exact laws_eqTree.mono _ _ _)
      | (with_reducible exact LeO.refl _)
      | (with_reducible exact LeO.none _)
      | (with_reducible refine LeO.ite ?_ ?_)
      | (with_reducible refine LeO.bind ?_ (fun _ => ?_))
      | exact ih0 _ _ _
      | exact laws_eqTree.mono _ _ _
      | exact LeO.none _
      | refine LeO.ite ?_ ?_
      | refine LeO.bind ?_ (fun _ => ?_)
def laws_eqTreeS.T6 : Bool × List (List Nat × List Nat) := (true, [([], []), ([], []), ([0, 1], [0, 1]), ([2], [2]), ([], []), ([], []), ([4, 5], [4, 5]), ([6], [6]), ([3, 7], [3, 7]), ([8], [8])])
def laws_eqTreeS.B6 : List Nat := [0, 0, 3, 7, 0, 0, 48, 112, 255, 511]
theorem laws_eqTreeS.tab6 : rtab .any (opsOf Try.f21 6) = laws_eqTreeS.T6 := by kernel_rfl
theorem laws_eqTreeS.bits6 : waitsOk laws_eqTreeS.T6.2 laws_eqTreeS.B6 = true := by kernel_rfl
set_option maxHeartbeats 8000000 in
set_option maxRecDepth 100000 in
theorem laws_eqTreeS.calls (k : Nat) (A0 : Option Addr) (c0 : Nat) (l0 : List (S24)) (A1 : Option Addr) (c1 : Nat) (l1 : List (S24)) (r : Bool) (w : World) (hr0 : Kd.C k24 w A0 l0.length l0) (hc0 : l0.length ≤ c0) (hr1 : Kd.C k24 w A1 l1.length l1) (hc1 : l1.length ≤ c1) (h : laws_eqTreeS.f k l0 l1 = some r) :
    Calls Try.prog 21 #[.slice A0 l0.length c0, .slice A1 l1.length c1] w fun e w' => e = .returned (.bool r) ∧ Below w.heap.size w w' := by
  have hu24 := Try.underlying24
  have HR0 := Aside0.mk hr0
  have HC0 := Aside0.mk hc0
  clear hr0 hc0
  have HR1 := Aside0.mk hr1
  have HC1 := Aside0.mk hc1
  clear hr1 hc1
  have HB := Aside0.mk (Below.refl w.heap.size w)
  have H : (if (l0.length : Int) = (l1.length : Int) then (laws_eqTreeS.l0 k l0 l1 0) else (some false)) = some r := h
  clear h
  by_cases c3 : (l0.length : Int) = (l1.length : Int)
  · rw [if_pos c3] at H
    have c3b0 : ((l0.length : Int) == (l1.length : Int)) = true := beq_iff_eq.mpr c3
    have c3b1 : ((l0.length : Int) != (l1.length : Int)) = false := bne_eq_false_iff_eq.mpr c3
    have c3b2 : (l0.length == l1.length) = true := by first | simpa using c3 | (simp at c3 ⊢; omega)
    clear c3
    have H' := Aside0.mk H
    clear H
    go_enter Try.func21, Try.ntmps21
    go_wp2
    go_loopg [5] k (fun kq v5 w' => ∃ (x5_1 : Int), v5 = .int .i64 x5_1 ∧ Aside0 (laws_eqTreeS.l0 kq l0 l1 x5_1 = some r) ∧ Aside0 (kq ≤ k) ∧ Aside0 (Below w.heap.size w w'))
    case atStart => exact ⟨(0), (by first | rfl | (simp; done) | (simp [*]; done)), H', ⟨Nat.le_refl _⟩, ⟨by repeat (first | (with_reducible first | exact HB.out | apply below_alloc | apply pw_below_drewN | apply below_drew1) | exact HB.out)⟩⟩
    case round =>
      clear H'
      try clear c1
      try clear c2
      try clear p2
      try clear c3
      try clear c3b0
      try clear c3b1
      try clear c3b2
      obtain ⟨x5_1, rfl, HA, HK1, HB⟩ := hrel
      cases gk with
      | zero => exact absurd HA.out (by simp [laws_eqTreeS.l0])
      | succ k1 =>
        have H := HA.out
        clear HA
        simp only [laws_eqTreeS.l0] at H
        by_cases c4 : x5_1 < (l0.length : Int)
        · rw [if_pos c4] at H
          have c4b0 : decide (x5_1 < (l0.length : Int)) = true := decide_eq_true c4
          clear c4
          by_cases c5 : 0 ≤ x5_1
          · rw [if_pos c5] at H
            have c5b0 : decide (0 ≤ x5_1) = true := decide_eq_true c5
            clear c5
            by_cases c6 : x5_1 < (l1.length : Int)
            · rw [if_pos c6] at H
              have c6b0 : decide (x5_1 < (l1.length : Int)) = true := decide_eq_true c6
              clear c6
              replace H := Option.bind_eq_some_iff.mp H
              obtain ⟨t210, A70, H⟩ := H
              replace H : (if t210 = true then (laws_eqTreeS.l0 k1 l0 l1 (wrap64 (x5_1 + 1))) else (some false)) = some r := H
              have A7 := Aside0.mk A70
              clear A70
              by_cases c8 : t210 = true
              · subst c8
                have H1 : (laws_eqTreeS.l0 k1 l0 l1 (wrap64 (x5_1 + 1))) = some r := by rw [if_pos rfl] at H; exact H
                clear H
                have H := H1
                clear H1
                have H' := Aside0.mk H
                clear H
                try go_wp2
                have n0_ := Aside0.mk (below_drew1 HB.out)
                clear HB
                have HB := n0_
                clear n0_
                have p208 : 0 ≤ (x5_1 : Int) := of_decide_eq_true (by first | (with_reducible assumption) | assumption)
                have q208 : x5_1 < (l0.length : Int) := of_decide_eq_true (by first | (with_reducible assumption) | assumption)
                obtain ⟨ad208, A208_0, c208_0, e208, hx208_0, hl208_0, hi208_0⟩ := at_T24 HR0.out x5_1 p208 q208
                have hw208_0 := hx208_0
                cases e208
                replace hx208_0 := (HB.out.cell (World.block_lt_of_cell? w _ hx208_0)).trans hx208_0
                have HR208_0 := Aside0.mk hi208_0
                have HC208_0 := Aside0.mk hl208_0
                clear hi208_0 hl208_0
                replace p208 := eq_true p208
                replace q208 := eq_true q208
                have p209 : 0 ≤ (x5_1 : Int) := of_decide_eq_true (by first | (with_reducible assumption) | assumption)
                have q209 : x5_1 < (l1.length : Int) := of_decide_eq_true (by first | (with_reducible assumption) | assumption)
                obtain ⟨ad209, A209_0, c209_0, e209, hx209_0, hl209_0, hi209_0⟩ := at_T24 HR1.out x5_1 p209 q209
                have hw209_0 := hx209_0
                cases e209
                replace hx209_0 := (HB.out.cell (World.block_lt_of_cell? w _ hx209_0)).trans hx209_0
                have HR209_0 := Aside0.mk hi209_0
                have HC209_0 := Aside0.mk hl209_0
                clear hi209_0 hl209_0
                replace p209 := eq_true p209
                replace q209 := eq_true q209
                refine start_ (n := 10) (S := fun w' => w'.cell? (ad208.add (x5_1).toNat) = some (.slice A208_0 ((rd_T24 l0 x5_1).f0).length c208_0) ∧ w'.cell? (ad209.add (x5_1).toNat) = some (.slice A209_0 ((rd_T24 l1 x5_1).f0).length c209_0)) (ds := []) #[false, false, false, false, false, false, false, false, false, false] (by kernel_rfl) rfl rfl ⟨((HB.out.cell (World.block_lt_of_cell? w _ hw208_0)).trans hw208_0), ((HB.out.cell (World.block_lt_of_cell? w _ hw209_0)).trans hw209_0)⟩ (fun hHeld => ?_); refine with_tabW laws_eqTreeS.tab6 laws_eqTreeS.bits6 (fun HT_ HW_ => ?_)
                generalize wr.drew = w9 at HB HR208_0 HR209_0 hx208_0 hx209_0 hHeld ⊢
                refine pure_ (i := 0) (N := some 17) (v := ?_) (a' := ?_) #[true, false, false, false, false, false, false, false, false, false] rfl rfl (any_of HT_.out (by kernel_rfl)) (fun _ _ _ h => h) (Or.inl ⟨by rfl, ?_⟩) ?_ ?_
                rotate_left
                · intro w'
                  go_simp
                  with_reducible rfl
                rotate_left
                · simp only [Act.put, List.setIfInBounds_toArray, List.set_cons_zero, List.set_cons_succ, i64_w, i32_w]
                  rfl
                refine pure_ (i := 1) (N := some 18) (v := ?_) (a' := ?_) #[true, true, false, false, false, false, false, false, false, false] rfl rfl (any_of HT_.out (by kernel_rfl)) (fun _ _ _ h => h) (Or.inl ⟨by rfl, ?_⟩) ?_ ?_
                rotate_left
                · intro w'
                  go_simp
                  with_reducible rfl
                rotate_left
                · simp only [Act.put, List.setIfInBounds_toArray, List.set_cons_zero, List.set_cons_succ, i64_w, i32_w]
                  rfl
                refine pure_ (i := 2) (N := some 19) (v := ?_) (a' := ?_) #[true, true, true, false, false, false, false, false, false, false] rfl rfl (any_of HT_.out (by kernel_rfl)) (fun _ _ _ h => h) (Or.inl ⟨by rfl, ?_⟩) ?_ ?_
                rotate_left
                · intro w'
                  go_simp
                  with_reducible rfl
                rotate_left
                · simp only [Act.put, List.setIfInBounds_toArray, List.set_cons_zero, List.set_cons_succ, i64_w, i32_w]
                  rfl
                refine pure_ (i := 4) (N := some 21) (v := ?_) (a' := ?_) #[true, true, true, false, true, false, false, false, false, false] rfl rfl (any_of HT_.out (by kernel_rfl)) (fun _ _ _ h => h) (Or.inl ⟨by rfl, ?_⟩) ?_ ?_
                rotate_left
                · intro w'
                  go_simp
                  with_reducible rfl
                rotate_left
                · simp only [Act.put, List.setIfInBounds_toArray, List.set_cons_zero, List.set_cons_succ, i64_w, i32_w]
                  rfl
                refine pure_ (i := 5) (N := some 22) (v := ?_) (a' := ?_) #[true, true, true, false, true, true, false, false, false, false] rfl rfl (any_of HT_.out (by kernel_rfl)) (fun _ _ _ h => h) (Or.inl ⟨by rfl, ?_⟩) ?_ ?_
                rotate_left
                · intro w'
                  go_simp
                  with_reducible rfl
                rotate_left
                · simp only [Act.put, List.setIfInBounds_toArray, List.set_cons_zero, List.set_cons_succ, i64_w, i32_w]
                  rfl
                refine pure_ (i := 6) (N := some 23) (v := ?_) (a' := ?_) #[true, true, true, false, true, true, true, false, false, false] rfl rfl (any_of HT_.out (by kernel_rfl)) (fun _ _ _ h => h) (Or.inl ⟨by rfl, ?_⟩) ?_ ?_
                rotate_left
                · intro w'
                  go_simp
                  with_reducible rfl
                rotate_left
                · simp only [Act.put, List.setIfInBounds_toArray, List.set_cons_zero, List.set_cons_succ, i64_w, i32_w]
                  rfl
                refine take_ (i := 3) (N := some 20) (v := ?_) (a' := ?_) #[true, true, true, true, true, true, true, false, false, false] rfl rfl (take_ofW HT_.out HW_.out (by kernel_rfl)) (fun _ _ _ h => h) (Or.inl ⟨by rfl, ?_⟩) hHeld ?_ ?_
                rotate_left
                · rintro w' ⟨s0, s1⟩
                  go_simp
                  with_reducible rfl
                rotate_left
                · simp only [Act.put, List.setIfInBounds_toArray, List.set_cons_zero, List.set_cons_succ, i64_w, i32_w]
                  rfl
                refine take_ (i := 7) (N := some 24) (v := ?_) (a' := ?_) #[true, true, true, true, true, true, true, true, false, false] rfl rfl (take_ofW HT_.out HW_.out (by kernel_rfl)) (fun _ _ _ h => h) (Or.inl ⟨by rfl, ?_⟩) hHeld ?_ ?_
                rotate_left
                · rintro w' ⟨s0, s1⟩
                  go_simp
                  with_reducible rfl
                rotate_left
                · simp only [Act.put, List.setIfInBounds_toArray, List.set_cons_zero, List.set_cons_succ, i64_w, i32_w]
                  rfl
                refine one_ (i := 8) (N := some 25) #[true, true, true, true, true, true, true, true, true, false] rfl rfl (one_of HT_.out (by kernel_rfl)) (by decide) (fun K hK => ?_)
                refine goes_ Try.func7 (by kernel_rfl) rfl #[.agg #[.slice A208_0 ((rd_T24 l0 x5_1).f0).length c208_0], .agg #[.slice A209_0 ((rd_T24 l1 x5_1).f0).length c209_0]] (by rfl) rfl rfl (by (try simp only [List.map_toArray, List.map_cons, List.map_nil]); first | done | rfl | (simp only [List.length_drop, List.length_take]; rfl)) ?_
                with_reducible refine (laws_eqTree.calls k1 _ _ ((rd_T24 l0 x5_1).f0) _ _ ((rd_T24 l1 x5_1).f0) true _ ?side1 ?side2 ?side3 ?side4 A7.out).mono ?_
                (case side1 => repeat (first | exact (Kd.C_below HR208_0.out HB.out) | (with_reducible refine Kd.C_alloc ?_ _) | (with_reducible refine Kd.C_drewN ?_ _) | (with_reducible refine Kd.C_drew ?_)))
                (case side2 => exact HC208_0.out)
                (case side3 => repeat (first | exact (Kd.C_below HR209_0.out HB.out) | (with_reducible refine Kd.C_alloc ?_ _) | (with_reducible refine Kd.C_drewN ?_ _) | (with_reducible refine Kd.C_drew ?_)))
                (case side4 => exact HC209_0.out)
                rintro e w10 ⟨rfl, hb⟩
                refine ⟨_, rfl, ?_⟩
                have n0_ := Aside0.mk (below_step (by repeat (first | (with_reducible first | exact HB.out | apply below_alloc | apply pw_below_drewN | apply below_drew1) | exact HB.out)) hb)
                clear HB
                have HB := n0_
                clear n0_
                (try clear hb)
                (try clear hb2)
                (try clear hk)
                (try clear hi)
                refine hK.out _ _ ⟨((HB.out.cell (World.block_lt_of_cell? w _ hw208_0)).trans hw208_0), ((HB.out.cell (World.block_lt_of_cell? w _ hw209_0)).trans hw209_0)⟩ (fun hHeld => ?_)
                clear hK K
                refine norm_ (a' := ?_) ?_ ?_
                rotate_left
                · show Act.put _ (some 25) _ = _
                  simp only [Act.put, List.setIfInBounds_toArray, List.set_cons_zero, List.set_cons_succ, i64_w, i32_w]
                  rfl
                refine pure_ (i := 9) (N := some 26) (v := ?_) (a' := ?_) #[true, true, true, true, true, true, true, true, true, true] rfl rfl (any_of HT_.out (by kernel_rfl)) (fun _ _ _ h => h) (Or.inl ⟨by rfl, ?_⟩) ?_ ?_
                rotate_left
                · intro w'
                  go_simp
                  with_reducible rfl
                rotate_left
                · simp only [Act.put, List.setIfInBounds_toArray, List.set_cons_zero, List.set_cons_succ, i64_w, i32_w]
                  rfl
                refine done_ (done_of HT_.out (by kernel_rfl)) ?_
                try go_wp2
                go_roundg k1
                case measure => have := HK1.out; omega
                case rel => exact ⟨(wrap64 (x5_1 + 1)), (by first | rfl | (simp; done) | (simp [*]; done)), H', ⟨by have := HK1.out; omega⟩, ⟨by repeat (first | (with_reducible first | exact HB.out | apply below_alloc | apply pw_below_drewN | apply below_drew1) | exact HB.out)⟩⟩
              · replace c8 := Bool.eq_false_iff.mpr c8
                subst c8
                have H1 : (some false) = some r := by rw [if_neg (show ¬ (false = true) by decide)] at H; exact H
                clear H
                have H := H1
                clear H1
                obtain rfl := Option.some.inj H
                try go_wp2
                have n0_ := Aside0.mk (below_drew1 HB.out)
                clear HB
                have HB := n0_
                clear n0_
                have p208 : 0 ≤ (x5_1 : Int) := of_decide_eq_true (by first | (with_reducible assumption) | assumption)
                have q208 : x5_1 < (l0.length : Int) := of_decide_eq_true (by first | (with_reducible assumption) | assumption)
                obtain ⟨ad208, A208_0, c208_0, e208, hx208_0, hl208_0, hi208_0⟩ := at_T24 HR0.out x5_1 p208 q208
                have hw208_0 := hx208_0
                cases e208
                replace hx208_0 := (HB.out.cell (World.block_lt_of_cell? w _ hx208_0)).trans hx208_0
                have HR208_0 := Aside0.mk hi208_0
                have HC208_0 := Aside0.mk hl208_0
                clear hi208_0 hl208_0
                replace p208 := eq_true p208
                replace q208 := eq_true q208
                have p209 : 0 ≤ (x5_1 : Int) := of_decide_eq_true (by first | (with_reducible assumption) | assumption)
                have q209 : x5_1 < (l1.length : Int) := of_decide_eq_true (by first | (with_reducible assumption) | assumption)
                obtain ⟨ad209, A209_0, c209_0, e209, hx209_0, hl209_0, hi209_0⟩ := at_T24 HR1.out x5_1 p209 q209
                have hw209_0 := hx209_0
                cases e209
                replace hx209_0 := (HB.out.cell (World.block_lt_of_cell? w _ hx209_0)).trans hx209_0
                have HR209_0 := Aside0.mk hi209_0
                have HC209_0 := Aside0.mk hl209_0
                clear hi209_0 hl209_0
                replace p209 := eq_true p209
                replace q209 := eq_true q209
                refine start_ (n := 10) (S := fun w' => w'.cell? (ad208.add (x5_1).toNat) = some (.slice A208_0 ((rd_T24 l0 x5_1).f0).length c208_0) ∧ w'.cell? (ad209.add (x5_1).toNat) = some (.slice A209_0 ((rd_T24 l1 x5_1).f0).length c209_0)) (ds := []) #[false, false, false, false, false, false, false, false, false, false] (by kernel_rfl) rfl rfl ⟨((HB.out.cell (World.block_lt_of_cell? w _ hw208_0)).trans hw208_0), ((HB.out.cell (World.block_lt_of_cell? w _ hw209_0)).trans hw209_0)⟩ (fun hHeld => ?_); refine with_tabW laws_eqTreeS.tab6 laws_eqTreeS.bits6 (fun HT_ HW_ => ?_)
                generalize wr.drew = w11 at HB HR208_0 HR209_0 hx208_0 hx209_0 hHeld ⊢
                refine pure_ (i := 0) (N := some 17) (v := ?_) (a' := ?_) #[true, false, false, false, false, false, false, false, false, false] rfl rfl (any_of HT_.out (by kernel_rfl)) (fun _ _ _ h => h) (Or.inl ⟨by rfl, ?_⟩) ?_ ?_
                rotate_left
                · intro w'
                  go_simp
                  with_reducible rfl
                rotate_left
                · simp only [Act.put, List.setIfInBounds_toArray, List.set_cons_zero, List.set_cons_succ, i64_w, i32_w]
                  rfl
                refine pure_ (i := 1) (N := some 18) (v := ?_) (a' := ?_) #[true, true, false, false, false, false, false, false, false, false] rfl rfl (any_of HT_.out (by kernel_rfl)) (fun _ _ _ h => h) (Or.inl ⟨by rfl, ?_⟩) ?_ ?_
                rotate_left
                · intro w'
                  go_simp
                  with_reducible rfl
                rotate_left
                · simp only [Act.put, List.setIfInBounds_toArray, List.set_cons_zero, List.set_cons_succ, i64_w, i32_w]
                  rfl
                refine pure_ (i := 2) (N := some 19) (v := ?_) (a' := ?_) #[true, true, true, false, false, false, false, false, false, false] rfl rfl (any_of HT_.out (by kernel_rfl)) (fun _ _ _ h => h) (Or.inl ⟨by rfl, ?_⟩) ?_ ?_
                rotate_left
                · intro w'
                  go_simp
                  with_reducible rfl
                rotate_left
                · simp only [Act.put, List.setIfInBounds_toArray, List.set_cons_zero, List.set_cons_succ, i64_w, i32_w]
                  rfl
                refine pure_ (i := 4) (N := some 21) (v := ?_) (a' := ?_) #[true, true, true, false, true, false, false, false, false, false] rfl rfl (any_of HT_.out (by kernel_rfl)) (fun _ _ _ h => h) (Or.inl ⟨by rfl, ?_⟩) ?_ ?_
                rotate_left
                · intro w'
                  go_simp
                  with_reducible rfl
                rotate_left
                · simp only [Act.put, List.setIfInBounds_toArray, List.set_cons_zero, List.set_cons_succ, i64_w, i32_w]
                  rfl
                refine pure_ (i := 5) (N := some 22) (v := ?_) (a' := ?_) #[true, true, true, false, true, true, false, false, false, false] rfl rfl (any_of HT_.out (by kernel_rfl)) (fun _ _ _ h => h) (Or.inl ⟨by rfl, ?_⟩) ?_ ?_
                rotate_left
                · intro w'
                  go_simp
                  with_reducible rfl
                rotate_left
                · simp only [Act.put, List.setIfInBounds_toArray, List.set_cons_zero, List.set_cons_succ, i64_w, i32_w]
                  rfl
                refine pure_ (i := 6) (N := some 23) (v := ?_) (a' := ?_) #[true, true, true, false, true, true, true, false, false, false] rfl rfl (any_of HT_.out (by kernel_rfl)) (fun _ _ _ h => h) (Or.inl ⟨by rfl, ?_⟩) ?_ ?_
                rotate_left
                · intro w'
                  go_simp
                  with_reducible rfl
                rotate_left
                · simp only [Act.put, List.setIfInBounds_toArray, List.set_cons_zero, List.set_cons_succ, i64_w, i32_w]
                  rfl
                refine take_ (i := 3) (N := some 20) (v := ?_) (a' := ?_) #[true, true, true, true, true, true, true, false, false, false] rfl rfl (take_ofW HT_.out HW_.out (by kernel_rfl)) (fun _ _ _ h => h) (Or.inl ⟨by rfl, ?_⟩) hHeld ?_ ?_
                rotate_left
                · rintro w' ⟨s0, s1⟩
                  go_simp
                  with_reducible rfl
                rotate_left
                · simp only [Act.put, List.setIfInBounds_toArray, List.set_cons_zero, List.set_cons_succ, i64_w, i32_w]
                  rfl
                refine take_ (i := 7) (N := some 24) (v := ?_) (a' := ?_) #[true, true, true, true, true, true, true, true, false, false] rfl rfl (take_ofW HT_.out HW_.out (by kernel_rfl)) (fun _ _ _ h => h) (Or.inl ⟨by rfl, ?_⟩) hHeld ?_ ?_
                rotate_left
                · rintro w' ⟨s0, s1⟩
                  go_simp
                  with_reducible rfl
                rotate_left
                · simp only [Act.put, List.setIfInBounds_toArray, List.set_cons_zero, List.set_cons_succ, i64_w, i32_w]
                  rfl
                refine one_ (i := 8) (N := some 25) #[true, true, true, true, true, true, true, true, true, false] rfl rfl (one_of HT_.out (by kernel_rfl)) (by decide) (fun K hK => ?_)
                refine goes_ Try.func7 (by kernel_rfl) rfl #[.agg #[.slice A208_0 ((rd_T24 l0 x5_1).f0).length c208_0], .agg #[.slice A209_0 ((rd_T24 l1 x5_1).f0).length c209_0]] (by rfl) rfl rfl (by (try simp only [List.map_toArray, List.map_cons, List.map_nil]); first | done | rfl | (simp only [List.length_drop, List.length_take]; rfl)) ?_
                with_reducible refine (laws_eqTree.calls k1 _ _ ((rd_T24 l0 x5_1).f0) _ _ ((rd_T24 l1 x5_1).f0) false _ ?side1 ?side2 ?side3 ?side4 A7.out).mono ?_
                (case side1 => repeat (first | exact (Kd.C_below HR208_0.out HB.out) | (with_reducible refine Kd.C_alloc ?_ _) | (with_reducible refine Kd.C_drewN ?_ _) | (with_reducible refine Kd.C_drew ?_)))
                (case side2 => exact HC208_0.out)
                (case side3 => repeat (first | exact (Kd.C_below HR209_0.out HB.out) | (with_reducible refine Kd.C_alloc ?_ _) | (with_reducible refine Kd.C_drewN ?_ _) | (with_reducible refine Kd.C_drew ?_)))
                (case side4 => exact HC209_0.out)
                rintro e w12 ⟨rfl, hb⟩
                refine ⟨_, rfl, ?_⟩
                have n0_ := Aside0.mk (below_step (by repeat (first | (with_reducible first | exact HB.out | apply below_alloc | apply pw_below_drewN | apply below_drew1) | exact HB.out)) hb)
                clear HB
                have HB := n0_
                clear n0_
                (try clear hb)
                (try clear hb2)
                (try clear hk)
                (try clear hi)
                refine hK.out _ _ ⟨((HB.out.cell (World.block_lt_of_cell? w _ hw208_0)).trans hw208_0), ((HB.out.cell (World.block_lt_of_cell? w _ hw209_0)).trans hw209_0)⟩ (fun hHeld => ?_)
                clear hK K
                refine norm_ (a' := ?_) ?_ ?_
                rotate_left
                · show Act.put _ (some 25) _ = _
                  simp only [Act.put, List.setIfInBounds_toArray, List.set_cons_zero, List.set_cons_succ, i64_w, i32_w]
                  rfl
                refine pure_ (i := 9) (N := some 26) (v := ?_) (a' := ?_) #[true, true, true, true, true, true, true, true, true, true] rfl rfl (any_of HT_.out (by kernel_rfl)) (fun _ _ _ h => h) (Or.inl ⟨by rfl, ?_⟩) ?_ ?_
                rotate_left
                · intro w'
                  go_simp
                  with_reducible rfl
                rotate_left
                · simp only [Act.put, List.setIfInBounds_toArray, List.set_cons_zero, List.set_cons_succ, i64_w, i32_w]
                  rfl
                refine done_ (done_of HT_.out (by kernel_rfl)) ?_
                try go_wp2
                go_ret
                exact ⟨by first | rfl | (simp [errW_none, errW_some] <;> rfl) | (simp [*, errW_none, errW_some] <;> rfl), by repeat (first | (with_reducible first | exact HB.out | apply below_alloc | apply pw_below_drewN | apply below_drew1) | exact HB.out)⟩
            · rw [if_neg c6] at H
              exact absurd H (by simp)
          · rw [if_neg c5] at H
            exact absurd H (by simp)
        · rw [if_neg c4] at H
          have c4b0 : decide (x5_1 < (l0.length : Int)) = false := decide_eq_false c4
          clear c4
          obtain rfl := Option.some.inj H
          go_wp2
          go_ret
          exact ⟨by first | rfl | (simp [errW_none, errW_some] <;> rfl) | (simp [*, errW_none, errW_some] <;> rfl), by repeat (first | (with_reducible first | exact HB.out | apply below_alloc | apply pw_below_drewN | apply below_drew1) | exact HB.out)⟩
  · rw [if_neg c3] at H
    have c3b0 : ((l0.length : Int) == (l1.length : Int)) = false := beq_eq_false_iff_ne.mpr c3
    have c3b1 : ((l0.length : Int) != (l1.length : Int)) = true := bne_iff_ne.mpr c3
    have c3b2 : (l0.length == l1.length) = false := by first | simpa using c3 | (simp at c3 ⊢; omega)
    obtain rfl := Option.some.inj H
    go_enter Try.func21, Try.ntmps21
    go_wp2
    go_ret
    exact ⟨by first | rfl | (simp [errW_none, errW_some] <;> rfl) | (simp [*, errW_none, errW_some] <;> rfl), by repeat (first | (with_reducible first | exact HB.out | apply below_alloc | apply pw_below_drewN | apply below_drew1) | exact HB.out)⟩

/-! ### laws_eqIndex: function 12 -/
def laws_eqIndex.f (k : Nat) (l0_0 : List (S24)) (l1_0 : List (S24)) : Option (Bool) := (laws_eqTreeS.f k l0_0 l1_0).bind fun t213 => (if t213 = true then (some true) else (some false))
theorem laws_eqIndex.mono : ∀ a0 a1 k, LeO (laws_eqIndex.f k a0 a1) (laws_eqIndex.f (k + 1) a0 a1) := by
  intro a0 a1 k
  unfold laws_eqIndex.f
  repeat' first
      | (with_reducible exact laws_eqTreeS.mono _ _ _)
      | (with_reducible exact LeO.refl _)
      | (with_reducible exact LeO.none _)
      | (with_reducible refine LeO.ite ?_ ?_)
      | (with_reducible refine LeO.bind ?_ (fun _ => ?_))
      | exact laws_eqTreeS.mono _ _ _
      | exact LeO.none _
      | refine LeO.ite ?_ ?_
      | refine LeO.bind ?_ (fun _ => ?_)
set_option maxHeartbeats 8000000 in
set_option maxRecDepth 100000 in
theorem laws_eqIndex.calls (k : Nat) (A0_0 : Option Addr) (c0_0 : Nat) (l0_0 : List (S24)) (A1_0 : Option Addr) (c1_0 : Nat) (l1_0 : List (S24)) (r : Bool) (w : World) (hr0_0 : Kd.C k24 w A0_0 l0_0.length l0_0) (hc0_0 : l0_0.length ≤ c0_0) (hr1_0 : Kd.C k24 w A1_0 l1_0.length l1_0) (hc1_0 : l1_0.length ≤ c1_0) (h : laws_eqIndex.f k l0_0 l1_0 = some r) :
    Calls Try.prog 12 #[.agg #[.slice A0_0 l0_0.length c0_0], .agg #[.slice A1_0 l1_0.length c1_0]] w fun e w' => e = .returned (.bool r) ∧ Below w.heap.size w w' := by
  have hu31 := Try.underlying31
  have HR0_0 := Aside0.mk hr0_0
  have HC0_0 := Aside0.mk hc0_0
  clear hr0_0 hc0_0
  have HR1_0 := Aside0.mk hr1_0
  have HC1_0 := Aside0.mk hc1_0
  clear hr1_0 hc1_0
  have HB := Aside0.mk (Below.refl w.heap.size w)
  have H : ((laws_eqTreeS.f k l0_0 l1_0).bind fun t213 => (if t213 = true then (some true) else (some false))) = some r := h
  clear h
  replace H := Option.bind_eq_some_iff.mp H
  obtain ⟨t213, A30, H⟩ := H
  replace H : (if t213 = true then (some true) else (some false)) = some r := H
  have A3 := Aside0.mk A30
  clear A30
  by_cases c4 : t213 = true
  · subst c4
    have H1 : (some true) = some r := by rw [if_pos rfl] at H; exact H
    clear H
    have H := H1
    clear H1
    obtain rfl := Option.some.inj H
    go_enter Try.func12, Try.ntmps12
    go_wp2_with (first | ((with_reducible refine gate_dst (N := 2) rfl ?_); refine box_event ?hg (N := 2) ?hd (cs := #[.slice A0_0 l0_0.length c0_0]) (t := 31) ?hr ?_; (case hd => rfl); (case hg => rfl); (case hr => first | (go_simp; done) | (go_simp; rfl)); intro gb211 hg w5 hbox hb; have n0_ := Aside0.mk (below_step (by repeat (first | (with_reducible first | exact HB.out | apply below_alloc | apply pw_below_drewN | apply below_drew1) | exact HB.out)) hb); have n1_ := Aside0.mk (hbox); have n2_ := Aside0.mk ((by rw [hg]; exact (below_size (by repeat (first | (with_reducible first | exact HB.out | apply below_alloc | apply pw_below_drewN | apply below_drew1) | exact HB.out))) : w.heap.size ≤ gb211)); have n3_ := Aside0.mk ((by rw [hg]; exact (below_size (by repeat (first | (with_reducible first | exact HB.out | apply below_alloc | apply pw_below_drewN | apply below_drew1) | exact HB.out))) : w.heap.size ≤ gb211)); clear HB; have HB := n0_; have BK211 := n1_; have GW211 := n2_; have GE211 := n3_; clear n0_ n1_ n2_ n3_; clear hb hbox hg) | ((with_reducible refine gate_dst (N := 3) rfl ?_); refine box_event ?hg (N := 3) ?hd (cs := #[.slice A1_0 l1_0.length c1_0]) (t := 31) ?hr ?_; (case hd => rfl); (case hg => rfl); (case hr => first | (go_simp; done) | (go_simp; rfl)); intro gb212 hg w6 hbox hb; have n0_ := Aside0.mk (blk_below (g := gb211) (o := .cells #[.slice A0_0 l0_0.length c0_0] 31 (0, 0)) (by (with_reducible repeat (first | refine blk_drewN ?_ _ | refine blk_drew ?_ | refine blk_alloc ?_ _)); exact BK211.out) hb); have n1_ := Aside0.mk (below_step (by repeat (first | (with_reducible first | exact HB.out | apply below_alloc | apply pw_below_drewN | apply below_drew1 | refine below_set ?_ GE211.out) | exact HB.out)) hb); have n2_ := Aside0.mk (hbox); have n3_ := Aside0.mk ((by rw [hg]; exact (below_size (by repeat (first | (with_reducible first | exact HB.out | apply below_alloc | apply pw_below_drewN | apply below_drew1 | refine below_set ?_ GE211.out) | exact HB.out))) : w.heap.size ≤ gb212)); have n4_ := Aside0.mk ((by rw [hg]; exact (below_size (by repeat (first | (with_reducible first | exact HB.out | apply below_alloc | apply pw_below_drewN | apply below_drew1 | refine below_set ?_ GE211.out) | exact HB.out))) : w.heap.size ≤ gb212)); have n5_ := Aside0.mk ((by rw [hg]; exact Nat.ne_of_lt (blk_lt (g := gb211) (o := .cells #[.slice A0_0 l0_0.length c0_0] 31 (0, 0)) (by (with_reducible repeat (first | refine blk_drewN ?_ _ | refine blk_drew ?_ | refine blk_alloc ?_ _)); exact BK211.out)) : gb211 ≠ gb212)); have n6_ := Aside0.mk ((by rw [hg]; exact Nat.ne_of_gt (blk_lt (g := gb211) (o := .cells #[.slice A0_0 l0_0.length c0_0] 31 (0, 0)) (by (with_reducible repeat (first | refine blk_drewN ?_ _ | refine blk_drew ?_ | refine blk_alloc ?_ _)); exact BK211.out)) : gb212 ≠ gb211)); clear BK211; clear HB; have BK211 := n0_; have HB := n1_; have BK212 := n2_; have GW212 := n3_; have GE212 := n4_; have NB211_212 := n5_; have NB212_211 := n6_; clear n0_ n1_ n2_ n3_ n4_ n5_ n6_; clear hb hbox hg; have hnb7 := NB211_212.out; have hnc7 := NB212_211.out; have hcz8_0 : w6.cell? ⟨gb211, 0, none⟩ = some (.slice A0_0 l0_0.length c0_0) := (blk_cell BK211.out 0).trans rfl; have hfz8_0 := blk_frozen BK211.out 0; have hcz9_0 : w6.cell? ⟨gb212, 0, none⟩ = some (.slice A1_0 l1_0.length c1_0) := (blk_cell BK212.out 0).trans rfl; have hfz9_0 := blk_frozen BK212.out 0) | ((with_reducible refine gate_callee (f := 21) rfl ?_); refine goesL_ (some 9) rfl rfl Try.func21 (by kernel_rfl) rfl #[.slice A0_0 l0_0.length c0_0, .slice A1_0 l1_0.length c1_0] rfl (by (try simp only [List.map_toArray, List.map_cons, List.map_nil]); first | done | rfl | (simp only [List.length_drop, List.length_take]; rfl)) ?_; (with_reducible refine (laws_eqTreeS.calls k _ _ l0_0 _ _ l1_0 true _ ?side1 ?side2 ?side3 ?side4 A3.out).mono ?_); (case side1 => repeat (first | exact (Kd.C_below HR0_0.out HB.out) | (with_reducible refine Kd.C_alloc ?_ _) | (with_reducible refine Kd.C_drewN ?_ _) | (with_reducible refine Kd.C_drew ?_))); (case side2 => exact HC0_0.out); (case side3 => repeat (first | exact (Kd.C_below HR1_0.out HB.out) | (with_reducible refine Kd.C_alloc ?_ _) | (with_reducible refine Kd.C_drewN ?_ _) | (with_reducible refine Kd.C_drew ?_))); (case side4 => exact HC1_0.out); rintro e w10 ⟨rfl, hb⟩; refine ⟨_, rfl, ?_⟩; have n0_ := Aside0.mk (blk_below (g := gb211) (o := .cells #[.slice A0_0 l0_0.length c0_0] 31 (0, 0)) (by (with_reducible repeat (first | refine blk_drewN ?_ _ | refine blk_drew ?_ | refine blk_alloc ?_ _)); exact BK211.out) hb); have n1_ := Aside0.mk (blk_below (g := gb212) (o := .cells #[.slice A1_0 l1_0.length c1_0] 31 (0, 0)) (by (with_reducible repeat (first | refine blk_drewN ?_ _ | refine blk_drew ?_ | refine blk_alloc ?_ _)); exact BK212.out) hb); have n2_ := Aside0.mk (below_step (by repeat (first | (with_reducible first | exact HB.out | apply below_alloc | apply pw_below_drewN | apply below_drew1 | refine below_set ?_ GE211.out | refine below_set ?_ GE212.out) | exact HB.out)) hb); clear BK211; clear BK212; clear HB; have BK211 := n0_; have BK212 := n1_; have HB := n2_; clear n0_ n1_ n2_; (try clear hb); (try clear hb2); (try clear hk); (try clear hi)))
    go_ret
    exact ⟨by first | rfl | (simp [errW_none, errW_some] <;> rfl) | (simp [*, errW_none, errW_some] <;> rfl), by repeat (first | (with_reducible first | exact HB.out | apply below_alloc | apply pw_below_drewN | apply below_drew1 | refine below_set ?_ GE211.out | refine below_set ?_ GE212.out) | exact HB.out)⟩
  · replace c4 := Bool.eq_false_iff.mpr c4
    subst c4
    have H1 : (some false) = some r := by rw [if_neg (show ¬ (false = true) by decide)] at H; exact H
    clear H
    have H := H1
    clear H1
    obtain rfl := Option.some.inj H
    go_enter Try.func12, Try.ntmps12
    go_wp2_with (first | ((with_reducible refine gate_dst (N := 2) rfl ?_); refine box_event ?hg (N := 2) ?hd (cs := #[.slice A0_0 l0_0.length c0_0]) (t := 31) ?hr ?_; (case hd => rfl); (case hg => rfl); (case hr => first | (go_simp; done) | (go_simp; rfl)); intro gb211 hg w11 hbox hb; have n0_ := Aside0.mk (below_step (by repeat (first | (with_reducible first | exact HB.out | apply below_alloc | apply pw_below_drewN | apply below_drew1) | exact HB.out)) hb); have n1_ := Aside0.mk (hbox); have n2_ := Aside0.mk ((by rw [hg]; exact (below_size (by repeat (first | (with_reducible first | exact HB.out | apply below_alloc | apply pw_below_drewN | apply below_drew1) | exact HB.out))) : w.heap.size ≤ gb211)); have n3_ := Aside0.mk ((by rw [hg]; exact (below_size (by repeat (first | (with_reducible first | exact HB.out | apply below_alloc | apply pw_below_drewN | apply below_drew1) | exact HB.out))) : w.heap.size ≤ gb211)); clear HB; have HB := n0_; have BK211 := n1_; have GW211 := n2_; have GE211 := n3_; clear n0_ n1_ n2_ n3_; clear hb hbox hg) | ((with_reducible refine gate_dst (N := 3) rfl ?_); refine box_event ?hg (N := 3) ?hd (cs := #[.slice A1_0 l1_0.length c1_0]) (t := 31) ?hr ?_; (case hd => rfl); (case hg => rfl); (case hr => first | (go_simp; done) | (go_simp; rfl)); intro gb212 hg w12 hbox hb; have n0_ := Aside0.mk (blk_below (g := gb211) (o := .cells #[.slice A0_0 l0_0.length c0_0] 31 (0, 0)) (by (with_reducible repeat (first | refine blk_drewN ?_ _ | refine blk_drew ?_ | refine blk_alloc ?_ _)); exact BK211.out) hb); have n1_ := Aside0.mk (below_step (by repeat (first | (with_reducible first | exact HB.out | apply below_alloc | apply pw_below_drewN | apply below_drew1 | refine below_set ?_ GE211.out) | exact HB.out)) hb); have n2_ := Aside0.mk (hbox); have n3_ := Aside0.mk ((by rw [hg]; exact (below_size (by repeat (first | (with_reducible first | exact HB.out | apply below_alloc | apply pw_below_drewN | apply below_drew1 | refine below_set ?_ GE211.out) | exact HB.out))) : w.heap.size ≤ gb212)); have n4_ := Aside0.mk ((by rw [hg]; exact (below_size (by repeat (first | (with_reducible first | exact HB.out | apply below_alloc | apply pw_below_drewN | apply below_drew1 | refine below_set ?_ GE211.out) | exact HB.out))) : w.heap.size ≤ gb212)); have n5_ := Aside0.mk ((by rw [hg]; exact Nat.ne_of_lt (blk_lt (g := gb211) (o := .cells #[.slice A0_0 l0_0.length c0_0] 31 (0, 0)) (by (with_reducible repeat (first | refine blk_drewN ?_ _ | refine blk_drew ?_ | refine blk_alloc ?_ _)); exact BK211.out)) : gb211 ≠ gb212)); have n6_ := Aside0.mk ((by rw [hg]; exact Nat.ne_of_gt (blk_lt (g := gb211) (o := .cells #[.slice A0_0 l0_0.length c0_0] 31 (0, 0)) (by (with_reducible repeat (first | refine blk_drewN ?_ _ | refine blk_drew ?_ | refine blk_alloc ?_ _)); exact BK211.out)) : gb212 ≠ gb211)); clear BK211; clear HB; have BK211 := n0_; have HB := n1_; have BK212 := n2_; have GW212 := n3_; have GE212 := n4_; have NB211_212 := n5_; have NB212_211 := n6_; clear n0_ n1_ n2_ n3_ n4_ n5_ n6_; clear hb hbox hg; have hnb13 := NB211_212.out; have hnc13 := NB212_211.out; have hcz14_0 : w12.cell? ⟨gb211, 0, none⟩ = some (.slice A0_0 l0_0.length c0_0) := (blk_cell BK211.out 0).trans rfl; have hfz14_0 := blk_frozen BK211.out 0; have hcz15_0 : w12.cell? ⟨gb212, 0, none⟩ = some (.slice A1_0 l1_0.length c1_0) := (blk_cell BK212.out 0).trans rfl; have hfz15_0 := blk_frozen BK212.out 0) | ((with_reducible refine gate_callee (f := 21) rfl ?_); refine goesL_ (some 9) rfl rfl Try.func21 (by kernel_rfl) rfl #[.slice A0_0 l0_0.length c0_0, .slice A1_0 l1_0.length c1_0] rfl (by (try simp only [List.map_toArray, List.map_cons, List.map_nil]); first | done | rfl | (simp only [List.length_drop, List.length_take]; rfl)) ?_; (with_reducible refine (laws_eqTreeS.calls k _ _ l0_0 _ _ l1_0 false _ ?side1 ?side2 ?side3 ?side4 A3.out).mono ?_); (case side1 => repeat (first | exact (Kd.C_below HR0_0.out HB.out) | (with_reducible refine Kd.C_alloc ?_ _) | (with_reducible refine Kd.C_drewN ?_ _) | (with_reducible refine Kd.C_drew ?_))); (case side2 => exact HC0_0.out); (case side3 => repeat (first | exact (Kd.C_below HR1_0.out HB.out) | (with_reducible refine Kd.C_alloc ?_ _) | (with_reducible refine Kd.C_drewN ?_ _) | (with_reducible refine Kd.C_drew ?_))); (case side4 => exact HC1_0.out); rintro e w16 ⟨rfl, hb⟩; refine ⟨_, rfl, ?_⟩; have n0_ := Aside0.mk (blk_below (g := gb211) (o := .cells #[.slice A0_0 l0_0.length c0_0] 31 (0, 0)) (by (with_reducible repeat (first | refine blk_drewN ?_ _ | refine blk_drew ?_ | refine blk_alloc ?_ _)); exact BK211.out) hb); have n1_ := Aside0.mk (blk_below (g := gb212) (o := .cells #[.slice A1_0 l1_0.length c1_0] 31 (0, 0)) (by (with_reducible repeat (first | refine blk_drewN ?_ _ | refine blk_drew ?_ | refine blk_alloc ?_ _)); exact BK212.out) hb); have n2_ := Aside0.mk (below_step (by repeat (first | (with_reducible first | exact HB.out | apply below_alloc | apply pw_below_drewN | apply below_drew1 | refine below_set ?_ GE211.out | refine below_set ?_ GE212.out) | exact HB.out)) hb); clear BK211; clear BK212; clear HB; have BK211 := n0_; have BK212 := n1_; have HB := n2_; clear n0_ n1_ n2_; (try clear hb); (try clear hb2); (try clear hk); (try clear hi)))
    go_ret
    exact ⟨by first | rfl | (simp [errW_none, errW_some] <;> rfl) | (simp [*, errW_none, errW_some] <;> rfl), by repeat (first | (with_reducible first | exact HB.out | apply below_alloc | apply pw_below_drewN | apply below_drew1 | refine below_set ?_ GE211.out | refine below_set ?_ GE212.out) | exact HB.out)⟩

/-! ### laws_heldTreeS: function 23 -/
def laws_heldTreeS.l0 : Nat → List (S24) → Int → Int → Option (Int)
  | 0, _, _, _ => none
  | k + 1, x0, x1, x5 => if x5 < (x0.length : Int) then (if 0 ≤ x5 then ((laws_heldTNodeS.f k ((rd_T24 x0 x5).f0) x1).bind fun t217 => (if t217 < 0 then (some (-1)) else (laws_heldTreeS.l0 k x0 t217 (wrap64 (x5 + 1))))) else (none)) else (some x1)
def laws_heldTreeS.f (k : Nat) (l0 : List (S24)) (a1 : Int) : Option (Int) := laws_heldTreeS.l0 k l0 a1 0
theorem laws_heldTreeS.mono_l : ∀ k, (∀ y0 y1 y2, LeO (laws_heldTreeS.l0 k y0 y1 y2) (laws_heldTreeS.l0 (k + 1) y0 y1 y2))
  | 0 => fun _ _ _ r h => by simp [laws_heldTreeS.l0] at h
  | k + 1 => by
    have ih0 := laws_heldTreeS.mono_l k
    · intro y0 y1 y2
      unfold laws_heldTreeS.l0
      repeat' first
      | (with_reducible exact ih0 _ _ _)
      | (with_reducible exact laws_heldTNodeS.mono _ _ _)
      | (with_reducible exact LeO.refl _)
      | (with_reducible exact LeO.none _)
      | (with_reducible refine LeO.ite ?_ ?_)
      | (with_reducible refine LeO.bind ?_ (fun _ => ?_))
      | exact ih0 _ _ _
      | exact laws_heldTNodeS.mono _ _ _
      | exact LeO.none _
      | refine LeO.ite ?_ ?_
      | refine LeO.bind ?_ (fun _ => ?_)
theorem laws_heldTreeS.mono : ∀ a0 a1 k, LeO (laws_heldTreeS.f k a0 a1) (laws_heldTreeS.f (k + 1) a0 a1) := by
  intro a0 a1 k
  have ih0 := laws_heldTreeS.mono_l k
  unfold laws_heldTreeS.f
  repeat' first
      | (with_reducible exact ih0 _ _ _)
      | (with_reducible exact laws_heldTNodeS.mono _ _ _)
      | (with_reducible exact LeO.refl _)
      | (with_reducible exact LeO.none _)
      | (with_reducible refine LeO.ite ?_ ?_)
      | (with_reducible refine LeO.bind ?_ (fun _ => ?_))
      | exact ih0 _ _ _
      | exact laws_heldTNodeS.mono _ _ _
      | exact LeO.none _
      | refine LeO.ite ?_ ?_
      | refine LeO.bind ?_ (fun _ => ?_)
set_option maxHeartbeats 8000000 in
set_option maxRecDepth 100000 in
theorem laws_heldTreeS.calls (k : Nat) (A0 : Option Addr) (c0 : Nat) (l0 : List (S24)) (a1 : Int) (r : Int) (w : World) (hr0 : Kd.C k24 w A0 l0.length l0) (hc0 : l0.length ≤ c0) (h : laws_heldTreeS.f k l0 a1 = some r) :
    Calls Try.prog 23 #[.slice A0 l0.length c0, .int .i64 a1] w fun e w' => e = .returned (.int .i64 r) ∧ Below w.heap.size w w' := by
  have HR0 := Aside0.mk hr0
  have HC0 := Aside0.mk hc0
  clear hr0 hc0
  have HB := Aside0.mk (Below.refl w.heap.size w)
  have H : (laws_heldTreeS.l0 k l0 a1 0) = some r := h
  clear h
  have H' := Aside0.mk H
  clear H
  go_enter Try.func23, Try.ntmps23
  go_wp2
  go_loopg [1, 5] k (fun kq v1 v5 w' => ∃ (x1_1 : Int) (x5_1 : Int), v1 = .int .i64 x1_1 ∧ v5 = .int .i64 x5_1 ∧ Aside0 (laws_heldTreeS.l0 kq l0 x1_1 x5_1 = some r) ∧ Aside0 (kq ≤ k) ∧ Aside0 (Below w.heap.size w w'))
  case atStart => exact ⟨(a1), (0), (by first | rfl | (simp; done) | (simp [*]; done)), (by first | rfl | (simp; done) | (simp [*]; done)), H', ⟨Nat.le_refl _⟩, ⟨by repeat (first | (with_reducible first | exact HB.out | apply below_alloc | apply pw_below_drewN | apply below_drew1) | exact HB.out)⟩⟩
  case round =>
    clear H'
    try clear c2
    try clear p2
    obtain ⟨x1_1, x5_1, rfl, rfl, HA, HK1, HB⟩ := hrel
    cases gk with
    | zero => exact absurd HA.out (by simp [laws_heldTreeS.l0])
    | succ k1 =>
      have H := HA.out
      clear HA
      simp only [laws_heldTreeS.l0] at H
      by_cases c3 : x5_1 < (l0.length : Int)
      · rw [if_pos c3] at H
        have c3b0 : decide (x5_1 < (l0.length : Int)) = true := decide_eq_true c3
        clear c3
        by_cases c4 : 0 ≤ x5_1
        · rw [if_pos c4] at H
          have c4b0 : decide (0 ≤ x5_1) = true := decide_eq_true c4
          clear c4
          replace H := Option.bind_eq_some_iff.mp H
          obtain ⟨t217, A50, H⟩ := H
          replace H : (if t217 < 0 then (some (-1)) else (laws_heldTreeS.l0 k1 l0 t217 (wrap64 (x5_1 + 1)))) = some r := H
          have A5 := Aside0.mk A50
          clear A50
          by_cases c6 : t217 < 0
          · rw [if_pos c6] at H
            have c6b0 : decide (t217 < 0) = true := decide_eq_true c6
            clear c6
            obtain rfl := Option.some.inj H
            have p216 : 0 ≤ (x5_1 : Int) := of_decide_eq_true (by first | (with_reducible assumption) | assumption)
            have q216 : x5_1 < (l0.length : Int) := of_decide_eq_true (by first | (with_reducible assumption) | assumption)
            obtain ⟨ad216, A216_0, c216_0, e216, hx216_0, hl216_0, hi216_0⟩ := at_T24 HR0.out x5_1 p216 q216
            cases e216
            replace hx216_0 := (HB.out.cell (World.block_lt_of_cell? w _ hx216_0)).trans hx216_0
            have HR216_0 := Aside0.mk hi216_0
            have HC216_0 := Aside0.mk hl216_0
            clear hi216_0 hl216_0
            replace p216 := eq_true p216
            replace q216 := eq_true q216
            go_wp2_with (first | ((with_reducible refine gate_callee (f := 20) rfl ?_); refine goesL_ (some 18) rfl rfl Try.func20 (by kernel_rfl) rfl #[.slice A216_0 ((rd_T24 l0 x5_1).f0).length c216_0, .int .i64 x1_1] rfl (by (try simp only [List.map_toArray, List.map_cons, List.map_nil]); first | done | rfl | (simp only [List.length_drop, List.length_take]; rfl)) ?_; (with_reducible refine (laws_heldTNodeS.calls k1 _ _ ((rd_T24 l0 x5_1).f0) x1_1 t217 _ ?side1 ?side2 A5.out).mono ?_); (case side1 => repeat (first | exact (Kd.C_below HR216_0.out HB.out) | (with_reducible refine Kd.C_alloc ?_ _) | (with_reducible refine Kd.C_drewN ?_ _) | (with_reducible refine Kd.C_drew ?_))); (case side2 => exact HC216_0.out); rintro e w7 ⟨rfl, hb⟩; refine ⟨_, rfl, ?_⟩; have n0_ := Aside0.mk (below_step (by repeat (first | (with_reducible first | exact HB.out | apply below_alloc | apply pw_below_drewN | apply below_drew1) | exact HB.out)) hb); clear HB; have HB := n0_; clear n0_; (try clear hb); (try clear hb2); (try clear hk); (try clear hi)))
            go_ret
            exact ⟨by first | rfl | (simp [errW_none, errW_some] <;> rfl) | (simp [*, errW_none, errW_some] <;> rfl), by repeat (first | (with_reducible first | exact HB.out | apply below_alloc | apply pw_below_drewN | apply below_drew1) | exact HB.out)⟩
          · rw [if_neg c6] at H
            have c6b0 : decide (t217 < 0) = false := decide_eq_false c6
            clear c6
            have H' := Aside0.mk H
            clear H
            have p216 : 0 ≤ (x5_1 : Int) := of_decide_eq_true (by first | (with_reducible assumption) | assumption)
            have q216 : x5_1 < (l0.length : Int) := of_decide_eq_true (by first | (with_reducible assumption) | assumption)
            obtain ⟨ad216, A216_0, c216_0, e216, hx216_0, hl216_0, hi216_0⟩ := at_T24 HR0.out x5_1 p216 q216
            cases e216
            replace hx216_0 := (HB.out.cell (World.block_lt_of_cell? w _ hx216_0)).trans hx216_0
            have HR216_0 := Aside0.mk hi216_0
            have HC216_0 := Aside0.mk hl216_0
            clear hi216_0 hl216_0
            replace p216 := eq_true p216
            replace q216 := eq_true q216
            go_wp2_with (first | ((with_reducible refine gate_callee (f := 20) rfl ?_); refine goesL_ (some 18) rfl rfl Try.func20 (by kernel_rfl) rfl #[.slice A216_0 ((rd_T24 l0 x5_1).f0).length c216_0, .int .i64 x1_1] rfl (by (try simp only [List.map_toArray, List.map_cons, List.map_nil]); first | done | rfl | (simp only [List.length_drop, List.length_take]; rfl)) ?_; (with_reducible refine (laws_heldTNodeS.calls k1 _ _ ((rd_T24 l0 x5_1).f0) x1_1 t217 _ ?side1 ?side2 A5.out).mono ?_); (case side1 => repeat (first | exact (Kd.C_below HR216_0.out HB.out) | (with_reducible refine Kd.C_alloc ?_ _) | (with_reducible refine Kd.C_drewN ?_ _) | (with_reducible refine Kd.C_drew ?_))); (case side2 => exact HC216_0.out); rintro e w8 ⟨rfl, hb⟩; refine ⟨_, rfl, ?_⟩; have n0_ := Aside0.mk (below_step (by repeat (first | (with_reducible first | exact HB.out | apply below_alloc | apply pw_below_drewN | apply below_drew1) | exact HB.out)) hb); clear HB; have HB := n0_; clear n0_; (try clear hb); (try clear hb2); (try clear hk); (try clear hi)))
            go_roundg k1
            case measure => have := HK1.out; omega
            case rel => exact ⟨(t217), (wrap64 (x5_1 + 1)), (by first | rfl | (simp; done) | (simp [*]; done)), (by first | rfl | (simp; done) | (simp [*]; done)), H', ⟨by have := HK1.out; omega⟩, ⟨by repeat (first | (with_reducible first | exact HB.out | apply below_alloc | apply pw_below_drewN | apply below_drew1) | exact HB.out)⟩⟩
        · rw [if_neg c4] at H
          exact absurd H (by simp)
      · rw [if_neg c3] at H
        have c3b0 : decide (x5_1 < (l0.length : Int)) = false := decide_eq_false c3
        clear c3
        obtain rfl := Option.some.inj H
        go_wp2
        go_ret
        exact ⟨by first | rfl | (simp [errW_none, errW_some] <;> rfl) | (simp [*, errW_none, errW_some] <;> rfl), by repeat (first | (with_reducible first | exact HB.out | apply below_alloc | apply pw_below_drewN | apply below_drew1) | exact HB.out)⟩

/-! ### laws_heldIndex: function 14 -/
def laws_heldIndex.f (k : Nat) (l0_0 : List (S24)) (a1 : Int) : Option (Int) := (laws_heldTreeS.f k l0_0 a1).bind fun t219 => (if t219 < 0 then (some (-1)) else (some t219))
theorem laws_heldIndex.mono : ∀ a0 a1 k, LeO (laws_heldIndex.f k a0 a1) (laws_heldIndex.f (k + 1) a0 a1) := by
  intro a0 a1 k
  unfold laws_heldIndex.f
  repeat' first
      | (with_reducible exact laws_heldTreeS.mono _ _ _)
      | (with_reducible exact LeO.refl _)
      | (with_reducible exact LeO.none _)
      | (with_reducible refine LeO.ite ?_ ?_)
      | (with_reducible refine LeO.bind ?_ (fun _ => ?_))
      | exact laws_heldTreeS.mono _ _ _
      | exact LeO.none _
      | refine LeO.ite ?_ ?_
      | refine LeO.bind ?_ (fun _ => ?_)
set_option maxHeartbeats 8000000 in
set_option maxRecDepth 100000 in
theorem laws_heldIndex.calls (k : Nat) (A0_0 : Option Addr) (c0_0 : Nat) (l0_0 : List (S24)) (a1 : Int) (r : Int) (w : World) (hr0_0 : Kd.C k24 w A0_0 l0_0.length l0_0) (hc0_0 : l0_0.length ≤ c0_0) (h : laws_heldIndex.f k l0_0 a1 = some r) :
    Calls Try.prog 14 #[.agg #[.slice A0_0 l0_0.length c0_0], .int .i64 a1] w fun e w' => e = .returned (.int .i64 r) ∧ Below w.heap.size w w' := by
  have hu31 := Try.underlying31
  have HR0_0 := Aside0.mk hr0_0
  have HC0_0 := Aside0.mk hc0_0
  clear hr0_0 hc0_0
  have HB := Aside0.mk (Below.refl w.heap.size w)
  have H : ((laws_heldTreeS.f k l0_0 a1).bind fun t219 => (if t219 < 0 then (some (-1)) else (some t219))) = some r := h
  clear h
  replace H := Option.bind_eq_some_iff.mp H
  obtain ⟨t219, A30, H⟩ := H
  replace H : (if t219 < 0 then (some (-1)) else (some t219)) = some r := H
  have A3 := Aside0.mk A30
  clear A30
  by_cases c4 : t219 < 0
  · rw [if_pos c4] at H
    have c4b0 : decide (t219 < 0) = true := decide_eq_true c4
    clear c4
    obtain rfl := Option.some.inj H
    go_enter Try.func14, Try.ntmps14
    go_wp2_with (first | ((with_reducible refine gate_dst (N := 2) rfl ?_); refine box_event ?hg (N := 2) ?hd (cs := #[.slice A0_0 l0_0.length c0_0]) (t := 31) ?hr ?_; (case hd => rfl); (case hg => rfl); (case hr => first | (go_simp; done) | (go_simp; rfl)); intro gb218 hg w5 hbox hb; have n0_ := Aside0.mk (below_step (by repeat (first | (with_reducible first | exact HB.out | apply below_alloc | apply pw_below_drewN | apply below_drew1) | exact HB.out)) hb); have n1_ := Aside0.mk (hbox); have n2_ := Aside0.mk ((by rw [hg]; exact (below_size (by repeat (first | (with_reducible first | exact HB.out | apply below_alloc | apply pw_below_drewN | apply below_drew1) | exact HB.out))) : w.heap.size ≤ gb218)); have n3_ := Aside0.mk ((by rw [hg]; exact (below_size (by repeat (first | (with_reducible first | exact HB.out | apply below_alloc | apply pw_below_drewN | apply below_drew1) | exact HB.out))) : w.heap.size ≤ gb218)); clear HB; have HB := n0_; have BK218 := n1_; have GW218 := n2_; have GE218 := n3_; clear n0_ n1_ n2_ n3_; clear hb hbox hg; have hcz6_0 : w5.cell? ⟨gb218, 0, none⟩ = some (.slice A0_0 l0_0.length c0_0) := (blk_cell BK218.out 0).trans rfl; have hfz6_0 := blk_frozen BK218.out 0) | ((with_reducible refine gate_callee (f := 23) rfl ?_); refine goesL_ (some 8) rfl rfl Try.func23 (by kernel_rfl) rfl #[.slice A0_0 l0_0.length c0_0, .int .i64 a1] rfl (by (try simp only [List.map_toArray, List.map_cons, List.map_nil]); first | done | rfl | (simp only [List.length_drop, List.length_take]; rfl)) ?_; (with_reducible refine (laws_heldTreeS.calls k _ _ l0_0 a1 t219 _ ?side1 ?side2 A3.out).mono ?_); (case side1 => repeat (first | exact (Kd.C_below HR0_0.out HB.out) | (with_reducible refine Kd.C_alloc ?_ _) | (with_reducible refine Kd.C_drewN ?_ _) | (with_reducible refine Kd.C_drew ?_))); (case side2 => exact HC0_0.out); rintro e w7 ⟨rfl, hb⟩; refine ⟨_, rfl, ?_⟩; have n0_ := Aside0.mk (blk_below (g := gb218) (o := .cells #[.slice A0_0 l0_0.length c0_0] 31 (0, 0)) (by (with_reducible repeat (first | refine blk_drewN ?_ _ | refine blk_drew ?_ | refine blk_alloc ?_ _)); exact BK218.out) hb); have n1_ := Aside0.mk (below_step (by repeat (first | (with_reducible first | exact HB.out | apply below_alloc | apply pw_below_drewN | apply below_drew1 | refine below_set ?_ GE218.out) | exact HB.out)) hb); clear BK218; clear HB; have BK218 := n0_; have HB := n1_; clear n0_ n1_; (try clear hb); (try clear hb2); (try clear hk); (try clear hi)))
    go_ret
    exact ⟨by first | rfl | (simp [errW_none, errW_some] <;> rfl) | (simp [*, errW_none, errW_some] <;> rfl), by repeat (first | (with_reducible first | exact HB.out | apply below_alloc | apply pw_below_drewN | apply below_drew1 | refine below_set ?_ GE218.out) | exact HB.out)⟩
  · rw [if_neg c4] at H
    have c4b0 : decide (t219 < 0) = false := decide_eq_false c4
    clear c4
    obtain rfl := Option.some.inj H
    go_enter Try.func14, Try.ntmps14
    go_wp2_with (first | ((with_reducible refine gate_dst (N := 2) rfl ?_); refine box_event ?hg (N := 2) ?hd (cs := #[.slice A0_0 l0_0.length c0_0]) (t := 31) ?hr ?_; (case hd => rfl); (case hg => rfl); (case hr => first | (go_simp; done) | (go_simp; rfl)); intro gb218 hg w8 hbox hb; have n0_ := Aside0.mk (below_step (by repeat (first | (with_reducible first | exact HB.out | apply below_alloc | apply pw_below_drewN | apply below_drew1) | exact HB.out)) hb); have n1_ := Aside0.mk (hbox); have n2_ := Aside0.mk ((by rw [hg]; exact (below_size (by repeat (first | (with_reducible first | exact HB.out | apply below_alloc | apply pw_below_drewN | apply below_drew1) | exact HB.out))) : w.heap.size ≤ gb218)); have n3_ := Aside0.mk ((by rw [hg]; exact (below_size (by repeat (first | (with_reducible first | exact HB.out | apply below_alloc | apply pw_below_drewN | apply below_drew1) | exact HB.out))) : w.heap.size ≤ gb218)); clear HB; have HB := n0_; have BK218 := n1_; have GW218 := n2_; have GE218 := n3_; clear n0_ n1_ n2_ n3_; clear hb hbox hg; have hcz9_0 : w8.cell? ⟨gb218, 0, none⟩ = some (.slice A0_0 l0_0.length c0_0) := (blk_cell BK218.out 0).trans rfl; have hfz9_0 := blk_frozen BK218.out 0) | ((with_reducible refine gate_callee (f := 23) rfl ?_); refine goesL_ (some 8) rfl rfl Try.func23 (by kernel_rfl) rfl #[.slice A0_0 l0_0.length c0_0, .int .i64 a1] rfl (by (try simp only [List.map_toArray, List.map_cons, List.map_nil]); first | done | rfl | (simp only [List.length_drop, List.length_take]; rfl)) ?_; (with_reducible refine (laws_heldTreeS.calls k _ _ l0_0 a1 t219 _ ?side1 ?side2 A3.out).mono ?_); (case side1 => repeat (first | exact (Kd.C_below HR0_0.out HB.out) | (with_reducible refine Kd.C_alloc ?_ _) | (with_reducible refine Kd.C_drewN ?_ _) | (with_reducible refine Kd.C_drew ?_))); (case side2 => exact HC0_0.out); rintro e w10 ⟨rfl, hb⟩; refine ⟨_, rfl, ?_⟩; have n0_ := Aside0.mk (blk_below (g := gb218) (o := .cells #[.slice A0_0 l0_0.length c0_0] 31 (0, 0)) (by (with_reducible repeat (first | refine blk_drewN ?_ _ | refine blk_drew ?_ | refine blk_alloc ?_ _)); exact BK218.out) hb); have n1_ := Aside0.mk (below_step (by repeat (first | (with_reducible first | exact HB.out | apply below_alloc | apply pw_below_drewN | apply below_drew1 | refine below_set ?_ GE218.out) | exact HB.out)) hb); clear BK218; clear HB; have BK218 := n0_; have HB := n1_; clear n0_ n1_; (try clear hb); (try clear hb2); (try clear hk); (try clear hi)))
    go_ret
    exact ⟨by first | rfl | (simp [errW_none, errW_some] <;> rfl) | (simp [*, errW_none, errW_some] <;> rfl), by repeat (first | (with_reducible first | exact HB.out | apply below_alloc | apply pw_below_drewN | apply below_drew1 | refine below_set ?_ GE218.out) | exact HB.out)⟩

/-! ### L_n1: a text by hand -/
/-- A row of one node without keys and kids, in a block of its own. -/
def N1 (w : World) (lo : Nat) (v : Value) (b : Bool) (n : Int) : Prop :=
  ∃ (g c : Nat) (cs : Array Value), v = .slice (some ⟨g, 0, none⟩) 1 c ∧ 1 ≤ c ∧ lo ≤ g ∧ w.heap[g]? = some (.cells cs 52 (0, 0)) ∧ cs[0]? = some (.bool b) ∧ cs[1]? = some (.slice none 0 0) ∧ cs[2]? = some (.slice none 0 0) ∧ cs[3]? = some (.int .i64 n)
section
variable {w w1 : World} {lo : Nat} {v : Value} {b : Bool} {n : Int}
theorem N1.below (h : N1 w lo v b n) (hb : Below w.heap.size w w1) : N1 w1 lo v b n := by
  obtain ⟨g, c, cs, h0, h1, h2, h3, h4⟩ := h
  exact ⟨g, c, cs, h0, h1, h2, blk_below h3 hb, h4⟩
theorem C1_of_cells {A1 A2 : Option Addr} {c1 c2 : Nat} (ad : Addr) (h0 : w.cell? (ad.add 0) = some (.bool b)) (h1 : w.cell? (ad.add 1) = some (.slice A1 0 c1)) (h2 : w.cell? (ad.add 2) = some (.slice A2 0 c2)) (h3 : w.cell? (ad.add 3) = some (.int .i64 n)) :
    Kd.C k52 w (some ad) 1 [⟨b, [], [], n⟩] := by
  refine ⟨rfl, (by show 1 ≤ 9223372036854775807; omega), fun _ => ⟨ad, rfl, fun j p hj => ?_⟩⟩
  cases j with
  | succ j => simp at hj
  | zero =>
    have e : p = ⟨b, [], [], n⟩ := by simpa using hj.symm
    subst e
    refine ⟨[.bool b, .slice A1 0 c1, .slice A2 0 c2, .int .i64 n], rfl, k52_mk w ⟨b, [], [], n⟩ (Nat.zero_le _) ⟨rfl, Nat.zero_le _, fun h => absurd h (Nat.lt_irrefl 0)⟩ (Nat.zero_le _) ⟨rfl, Nat.zero_le _, fun h => absurd h (Nat.lt_irrefl 0)⟩, fun i u hu => ?_⟩
    match i, hu with
    | 0, hu => cases hu; exact h0
    | 1, hu => cases hu; exact h1
    | 2, hu => cases hu; exact h2
    | 3, hu => cases hu; exact h3
    | i + 4, hu => simp at hu
theorem N1.C (h : N1 w lo v b n) : ∃ A c, v = .slice A 1 c ∧ 1 ≤ c ∧ Kd.C k52 w A 1 [⟨b, [], [], n⟩] := by
  obtain ⟨g, c, cs, h0, h1, h2, h3, h4, h5, h6, h7⟩ := h
  have hc : ∀ i u, cs[i]? = some u → w.cell? (Addr.add ⟨g, 0, none⟩ i) = some u := fun i u hu => by rw [add_plain]; exact (blk_cell h3 i).trans hu
  exact ⟨_, c, h0, h1, C1_of_cells _ (hc 0 _ h4) (hc 1 _ h5) (hc 2 _ h6) (hc 3 _ h7)⟩
/-- The same where the lists are empty, not nil. -/
def M1 (w : World) (lo : Nat) (v : Value) (b : Bool) (n : Int) : Prop :=
  ∃ (g c : Nat) (cs : Array Value) (A1 : Option Addr) (c1 : Nat) (A2 : Option Addr) (c2 : Nat), v = .slice (some ⟨g, 0, none⟩) 1 c ∧ 1 ≤ c ∧ lo ≤ g ∧ w.heap[g]? = some (.cells cs 52 (0, 0)) ∧ cs[0]? = some (.bool b) ∧ cs[1]? = some (.slice A1 0 c1) ∧ cs[2]? = some (.slice A2 0 c2) ∧ cs[3]? = some (.int .i64 n)
theorem N1.m (h : N1 w lo v b n) : M1 w lo v b n := by
  obtain ⟨g, c, cs, h0, h1, h2, h3, h4, h5, h6, h7⟩ := h
  exact ⟨g, c, cs, none, 0, none, 0, h0, h1, h2, h3, h4, h5, h6, h7⟩
theorem M1.C (h : M1 w lo v b n) : ∃ A c, v = .slice A 1 c ∧ 1 ≤ c ∧ Kd.C k52 w A 1 [⟨b, [], [], n⟩] := by
  obtain ⟨g, c, cs, A1, c1, A2, c2, h0, h1, h2, h3, h4, h5, h6, h7⟩ := h
  have hc : ∀ i u, cs[i]? = some u → w.cell? (Addr.add ⟨g, 0, none⟩ i) = some u := fun i u hu => by rw [add_plain]; exact (blk_cell h3 i).trans hu
  exact ⟨_, c, h0, h1, C1_of_cells _ (hc 0 _ h4) (hc 1 _ h5) (hc 2 _ h6) (hc 3 _ h7)⟩
theorem M1.move (h : M1 w lo v b n) (hm : ∀ k, lo ≤ k → k < w.heap.size → w1.heap[k]? = w.heap[k]?) : M1 w1 lo v b n := by
  obtain ⟨g, c, cs, A1, c1, A2, c2, h0, h1, h2, h3, h4⟩ := h
  exact ⟨g, c, cs, A1, c1, A2, c2, h0, h1, h2, (hm g h2 (blk_lt h3)).trans h3, h4⟩
theorem N1.move (h : N1 w lo v b n) (hm : ∀ k, lo ≤ k → k < w.heap.size → w1.heap[k]? = w.heap[k]?) : N1 w1 lo v b n := by
  obtain ⟨g, c, cs, h0, h1, h2, h3, h4⟩ := h
  exact ⟨g, c, cs, h0, h1, h2, (hm g h2 (blk_lt h3)).trans h3, h4⟩
theorem M1.below (h : M1 w lo v b n) (hb : Below w.heap.size w w1) : M1 w1 lo v b n := h.move (fun k _ hk => hb.block k hk)
theorem M1.lower {lo' : Nat} (h : M1 w lo v b n) (hl : lo' ≤ lo) : M1 w lo' v b n := by
  obtain ⟨g, c, cs, A1, c1, A2, c2, h0, h1, h2, h3, h4⟩ := h
  exact ⟨g, c, cs, A1, c1, A2, c2, h0, h1, Nat.le_trans hl h2, h3, h4⟩
end

/-! ### L_n2: a text by hand -/
/-- What is asked of one tree of a row of trees. -/
structure TQ (Q : World → Nat → Value → Prop) : Prop where
  move : ∀ {w w1 : World} {lo : Nat} {x : Value}, Q w lo x → (∀ (k : Nat) (cs : Array Value), w.heap[k]? = some (.cells cs 52 (0, 0)) → w1.heap[k]? = w.heap[k]?) → Q w1 lo x
  lower : ∀ {w : World} {lo lo' : Nat} {x : Value}, Q w lo x → lo' ≤ lo → Q w lo' x
  shape : ∀ {w : World} {lo : Nat} {x : Value}, Q w lo x → ∃ g c, x = .slice (some ⟨g, 0, none⟩) 1 c ∧ 1 ≤ c ∧ lo ≤ g ∧ g < w.heap.size
theorem M1.tq (b : Bool) (n : Int) : TQ (fun w lo x => M1 w lo x b n) where
  move := fun h hm => by
    obtain ⟨g, c, cs, A1, c1, A2, c2, h0, h1, h2, h3, h4⟩ := h
    exact ⟨g, c, cs, A1, c1, A2, c2, h0, h1, h2, (hm g _ h3).trans h3, h4⟩
  lower := fun h hl => h.lower hl
  shape := fun h => by
    obtain ⟨g, c, cs, A1, c1, A2, c2, h0, h1, h2, h3, h4⟩ := h
    exact ⟨g, c, h0, h1, h2, blk_lt h3⟩
theorem N1.tq (b : Bool) (n : Int) : TQ (fun w lo x => N1 w lo x b n) where
  move := fun h hm => by
    obtain ⟨g, c, cs, h0, h1, h2, h3, h4⟩ := h
    exact ⟨g, c, cs, h0, h1, h2, (hm g _ h3).trans h3, h4⟩
  lower := fun h hl => by
    obtain ⟨g, c, cs, h0, h1, h2, h3, h4⟩ := h
    exact ⟨g, c, cs, h0, h1, Nat.le_trans hl h2, h3, h4⟩
  shape := fun h => by
    obtain ⟨g, c, cs, h0, h1, h2, h3, h4⟩ := h
    exact ⟨g, c, h0, h1, h2, blk_lt h3⟩
/-- A row of trees in the making, its variable's block and what is below. -/
structure IInv (Q : World → Nat → Value → Prop) (w w' : World) (g0 gb : Nat) (v : Value) (xs : List Value) : Prop where
  k0 : w'.heap[g0]? = some (.cells #[.slice none 0 0] 31 (0, 0))
  kb : w'.heap[gb]? = some (.cells #[v] 31 (0, 0))
  l0 : w.heap.size ≤ g0
  lb : g0 < gb
  r : Kd.R (Kd.raw 1) 24 w' w.heap.size (fun _ => True) v (xs.map fun x => [x])
  q : ∀ x ∈ xs, Q w' w.heap.size x
  p : xs.Pairwise fun x y => x.ownBlock ≠ y.ownBlock
  b : Below w.heap.size w w'
section
variable {Q : World → Nat → Value → Prop} {w w1 w2 : World} {g0 gb : Nat} {v : Value} {xs : List Value}
theorem IInv.below (hq : TQ Q) (h : IInv Q w w1 g0 gb v xs) (hb : Below w1.heap.size w1 w2) : IInv Q w w2 g0 gb v xs :=
  ⟨blk_below h.k0 hb, blk_below h.kb hb, h.l0, h.lb, Kd.R_below h.r hb, fun x hx => hq.move (h.q x hx) (fun k _ hk => hb.block k (blk_lt hk)), h.p, below_step h.b hb⟩
theorem IInv.slice (h : IInv Q w w1 g0 gb v xs) : ∃ A c, v = .slice A xs.length c := by
  obtain ⟨A, c, e⟩ := Kd.R_slice h.r
  exact ⟨A, c, by rw [e, List.length_map]⟩
/-- After an append that has made the row longer, and the store into the variable. -/
theorem IInv.step (hq : TQ Q) (h : IInv Q w w1 g0 gb v xs) {x v1 : Value} {w3 : World} (hx : Q w1 w.heap.size x) (hne : ∀ y ∈ xs, y.ownBlock ≠ x.ownBlock) (hr : Kd.R (Kd.raw 1) 24 w3 w.heap.size (fun _ => True) v1 (xs.map (fun x => [x]) ++ [[x]])) (hb : Below w.heap.size w w3) (hg : w1.grownBy w3 v.ownBlock) :
    IInv Q w (w3.setCell ⟨gb, 0, none⟩ v1) g0 gb v1 (xs ++ [x]) := by
  have n0 := Kd.R_ne h.r h.k0 (by decide)
  have nb := Kd.R_ne h.r h.kb (by decide)
  have k0 := blk_grown h.k0 hg n0
  have kb := blk_grown h.kb hg nb
  have hlb := h.lb
  have hl0 := h.l0
  have hmove : ∀ (k : Nat) (cs : Array Value), w1.heap[k]? = some (.cells cs 52 (0, 0)) → (w3.setCell ⟨gb, 0, none⟩ v1).heap[k]? = w1.heap[k]? := fun k cs hk => by
    have n1 := Kd.R_ne h.r hk (by decide)
    have n2 : k ≠ gb := fun he => by rw [he, h.kb] at hk; injection hk with hk; injection hk with _ hk _; exact absurd hk (by decide)
    exact (Below.heap_setCell w3 ⟨gb, 0, none⟩ v1 k n2).trans ((blk_grown hk hg n1).trans hk.symm)
  refine ⟨(Below.heap_setCell w3 ⟨gb, 0, none⟩ v1 g0 (by show g0 ≠ gb; omega)).trans k0, blk_put kb 0 v1 rfl, hl0, hlb, ?_, ?_, ?_, below_set hb (by omega)⟩
  · rw [List.map_append]
    exact Kd.R_set hr kb (by decide) 0 v1
  · intro y hy
    rcases List.mem_append.1 hy with hy | hy
    · exact hq.move (h.q y hy) hmove
    · obtain rfl : y = x := by simpa using hy
      exact hq.move hx hmove
  · refine List.pairwise_append.2 ⟨h.p, List.pairwise_singleton _ _, fun y hy z hz => ?_⟩
    obtain rfl : z = x := by simpa using hz
    exact hne y hy
theorem IInv.ne (hq : TQ Q) (h : IInv Q w w1 g0 gb v xs) {x : Value} (hx : Q w2 w1.heap.size x) : ∀ y ∈ xs, y.ownBlock ≠ x.ownBlock := by
  intro y hy
  obtain ⟨g, c, rfl, _, _, hg⟩ := hq.shape (h.q y hy)
  obtain ⟨g', c', rfl, _, hg', _⟩ := hq.shape hx
  simp only [Value.ownBlock, ne_eq, Option.some.injEq]
  intro he
  have : g = g' := by simpa using he
  omega
end
theorem infoTree : (Try.prog.info? 24).map (fun i => (i.zero, i.size, i.bytes)) = some (some (.agg #[.slice none 0 0]), 1, 24) := by kernel_rfl

/-! ### impl_tree: a text by hand -/
-- import Derived.StillTailTactics
-- import Derived.WalkSpells
theorem newLeaf_nil (w : World) : Calls Try.prog 17 #[.slice none 0 0] w fun e w' => ∃ g, e = .returned (.pointer (some ⟨g, 0, none⟩)) ∧ w'.heap[g]? = some (.cells #[.int .i64 0, .slice none 0 0] 59 (0, 0)) ∧ w.heap.size ≤ g ∧ Below w.heap.size w w' := by
  have HB := Aside0.mk (Below.refl w.heap.size w)
  have hu57 := Try.underlying57
  have hu59 := Try.underlying59
  go_enter Try.func17, Try.ntmps17
  go_wp2_with fail
  go_ret
  exact ⟨_, rfl, blk_new _ _, Nat.le_refl _, below_alloc HB.out _⟩
theorem clone_nil (w : World) : Calls Try.prog 25 #[.slice none 0 0] w fun e w' => e = .returned (.slice none 0 0) ∧ w' = w := by
  have q27 : ∀ (w : World) (a : Option Addr) (n c n' c' : Nat), (binOp .eql 36 (.slice a n c) (.slice none n' c')).run Try.prog w = .ok (.bool a.isNone) w := fun w a n c n' c' => Lib.run_eql_slice_nil w _ _ a n c n' c' Try.underlying36
  go_enter Try.func25, Try.ntmps25
  go_wp2_with fail
  go_ret
  exact ⟨rfl, rfl⟩
theorem as_leaf (v : Value) (w : World) : (Instr.typeAssert (.iface 41 v) 54 41 true).run Try.prog w = .ok (.tuple #[v, .bool true]) w := by kernel_rfl
theorem N1.made (w : World) (o : Obj) (zs : Array Value) (b : Bool) (n : Int) (cap : Nat) (h : 1 ≤ cap) : N1 ((w.alloc o).alloc (.cells (#[.bool b, .slice none 0 0, .slice none 0 0, .int .i64 n] ++ zs) 52)).drew.drew w.heap.size (.slice (some ⟨w.heap.size + 1, 0, none⟩) 1 cap) b n := by
  have hb := blk_new (w.alloc o) (.cells (#[.bool b, .slice none 0 0, .slice none 0 0, .int .i64 n] ++ zs) 52)
  simp only [World.size_alloc] at hb
  refine ⟨_, cap, _, rfl, h, by omega, blk_drew (blk_drew hb), ?_, ?_, ?_, ?_⟩ <;> simp [Array.getElem?_append]
theorem cut_ge (m c t : Nat) (x : Nat) : m ≤ (Question.appendCap m c t).cut x := by
  simp [Question.cut]
set_option maxHeartbeats 2000000 in
theorem lay_leaf (g : Nat) (w : World) (hg : w.heap[g]? = some (.cells #[.int .i64 0, .slice none 0 0] 59 (0, 0))) :
    Calls Try.prog 16 #[.slice none 0 0, .iface 41 (.pointer (some ⟨g, 0, none⟩))] w fun e w' => ∃ v, e = .returned v ∧ N1 w' w.heap.size v true 0 ∧ Below w.heap.size w w' := by
  have HG := Aside0.mk hg
  have HB := Aside0.mk (Below.refl w.heap.size w)
  have hu57 := Try.underlying57
  have hu59 := Try.underlying59
  have hu52 := Try.underlying52
  clear hg
  have has := as_leaf (.pointer (some ⟨g, 0, none⟩))
  go_enter Try.func16, Try.ntmps16
  go_wp2_with fail
  have s0 : w.cell? ⟨g, 0, none⟩ = some (.int .i64 0) := (blk_cell HG.out 0).trans rfl
  have s1 : w.cell? ⟨g, 1, none⟩ = some (.slice none 0 0) := (blk_cell HG.out 1).trans rfl
  go_region_with (go_at_call 25; refine (clone_nil _).mono ?_; rintro e w2 ⟨rfl, rfl⟩)
  all_goals
    go_wp2_with fail
    go_ret
    refine ⟨_, rfl, N1.made w _ _ true 0 _ ?_, below_drew1 (below_drew1 (below_alloc (below_alloc HB.out _) _))⟩
    exact cut_ge _ _ _ _
set_option maxHeartbeats 2000000 in
theorem impl_TreeNew.calls (w : World) : Calls Try.prog 6 #[] w fun e w' => ∃ v, e = .returned (.agg #[v]) ∧ N1 w' w.heap.size v true 0 ∧ Below w.heap.size w w' := by
  have HB := Aside0.mk (below_alloc (Below.refl w.heap.size w) (.cells #[.slice none 0 0] 24))
  have K0 := Aside0.mk (blk_new w (.cells #[.slice none 0 0] 24))
  have hu24 := Try.underlying24
  go_enter Try.func6, Try.ntmps6
  go_wp2_with fail
  refine (newLeaf_nil _).mono ?_
  rintro e w2 ⟨g, rfl, hg, hlt, hb⟩
  replace K0 := Aside0.mk (blk_below K0.out hb)
  replace HB := Aside0.mk (below_step HB.out hb)
  go_wp2_with fail
  refine (lay_leaf g w2 hg).mono ?_
  rintro e w3 ⟨v, rfl, ⟨g1, c1, cs, rfl, h1, h2, h3, h4⟩, hb3⟩
  have hl0 := blk_lt K0.out
  replace K0 := Aside0.mk (blk_below K0.out hb3)
  replace HB := Aside0.mk (below_step HB.out hb3)
  have hk0 := blk_cell K0.out 0
  have hf0 := blk_frozen K0.out 0
  have hk1 : w3.cell? ⟨w.heap.size, 0, none⟩ = some (.slice none 0 0) := hk0.trans rfl
  have H3 := Aside0.mk h3
  have H4 := Aside0.mk h4
  clear h3 h4
  go_wp2_with fail
  refine bodyPost_ret (results_cell_row rfl _ _ w.heap.size 24 #[.slice (some ⟨g1, 0, none⟩) 1 c1] (0, 0) _ rfl (blk_put (cs := #[.slice none 0 0]) K0.out 0 _ rfl) hu24 rfl (by kernel_rfl)) rfl ?_
  have hne : g1 ≠ w.heap.size := by have := HB.out.size; have := hb.size; omega
  refine ⟨_, rfl, ⟨g1, c1, cs, rfl, h1, by have := hb.size; omega, ?_, H4.out⟩, below_set HB.out (Nat.le_refl _)⟩
  exact (Below.heap_setCell w3 ⟨w.heap.size, 0, none⟩ _ g1 hne).trans H3.out

/-! ### laws_mark1: a text by hand -/
theorem markS_nil (k : Int) (w : World) : Calls Try.prog 27 #[.slice none 0 0, .int .i64 k] w fun e w' => e = .returned (.int .i64 k) ∧ Below w.heap.size w w' := by
  refine (laws_markStringS.calls 1 (fun _ => False) (.slice none 0 0) [] k k [] w w (Below.refl _ _) (Kd.R_nil _ _ _ _ _) (by simp [laws_markStringS.f, laws_markStringS.l0])).mono ?_
  rintro e w' ⟨rfl, _, hb, _⟩
  exact ⟨rfl, hb⟩
theorem markI_nil (k : Int) (w : World) : Calls Try.prog 28 #[.slice none 0 0, .int .i64 k] w fun e w' => e = .returned (.int .i64 k) ∧ Below w.heap.size w w' := by
  refine (laws_markInt64S.calls 1 (fun _ => False) (.slice none 0 0) [] k k [] w w (Below.refl _ _) (Kd.R_nil _ _ _ _ _) (by simp [laws_markInt64S.f, laws_markInt64S.l0])).mono ?_
  rintro e w' ⟨rfl, _, hb, _⟩
  exact ⟨rfl, hb⟩
/-- The world after a mark: block g alone has changed among the old ones. -/
def Mk (base g : Nat) (w w' : World) : Prop := w.heap.size ≤ w'.heap.size ∧ (∀ j, j < w.heap.size → j ≠ g → w'.heap[j]? = w.heap[j]?) ∧ ∀ w0 : World, w0.heap.size = base → Below base w0 w → Below base w0 w'
theorem Mk.refl {base g : Nat} (w : World) (hg : base ≤ g) : base ≤ g ∧ Mk base g w w := ⟨hg, Nat.le_refl _, fun _ _ _ => rfl, fun _ _ h => h⟩
theorem Mk.set {base g : Nat} {w w1 : World} (h : base ≤ g ∧ Mk base g w w1) (j : Nat) (u : Value) : base ≤ g ∧ Mk base g w (w1.setCell ⟨g, j, none⟩ u) :=
  ⟨h.1, by simpa [World.setCell] using h.2.1, fun i hi hne => (Below.heap_setCell w1 ⟨g, j, none⟩ u i hne).trans (h.2.2.1 i hi hne), fun w0 h0 hb => by subst h0; exact below_set (h.2.2.2 w0 rfl hb) h.1⟩
theorem Mk.below {base g : Nat} {w w1 w2 : World} (h : base ≤ g ∧ Mk base g w w1) (hb : Below w1.heap.size w1 w2) : base ≤ g ∧ Mk base g w w2 :=
  ⟨h.1, Nat.le_trans h.2.1 hb.size, fun i hi hne => (hb.block i (Nat.lt_of_lt_of_le hi h.2.1)).trans (h.2.2.1 i hi hne), fun w0 h0 hB => by subst h0; exact below_step (h.2.2.2 w0 rfl hB) hb⟩
set_option maxHeartbeats 2000000 in
theorem markT1 (base g c : Nat) (k : Int) (cs : Array Value) (w : World) (hk0 : 0 ≤ k) (hk1 : k ≤ 100000) (hbg : base ≤ g) (h3 : w.heap[g]? = some (.cells cs 52 (0, 0))) (b : Bool) (n : Int) (h4 : cs[0]? = some (.bool b)) (h5 : cs[1]? = some (.slice none 0 0)) (h6 : cs[2]? = some (.slice none 0 0)) (h7 : cs[3]? = some (.int .i64 n)) :
    Calls Try.prog 19 #[.slice (some ⟨g, 0, none⟩) 1 c, .int .i64 k] w fun e w' => e = .returned (.int .i64 (k + 2)) ∧ (∃ cs', w'.heap[g]? = some (.cells cs' 52 (0, 0)) ∧ cs'[0]? = some (.bool (Int.tmod k 3 == 0)) ∧ cs'[1]? = some (.slice none 0 0) ∧ cs'[2]? = some (.slice none 0 0) ∧ cs'[3]? = some (.int .i64 (k + 1))) ∧ Mk base g w w' := by
  have e1 : wrap64 (k + 1) = k + 1 := by unfold wrap64; omega
  have e2 : wrap64 (k + 1 + 1) = k + 2 := by unfold wrap64; omega
  have H3 := Aside0.mk h3
  have H4 := Aside0.mk h4
  have H5 := Aside0.mk h5
  have H6 := Aside0.mk h6
  have H7 := Aside0.mk h7
  clear h3 h4 h5 h6 h7 hk0 hk1
  have hu52 := Try.underlying52
  go_enter Try.func19, Try.ntmps19
  go_wp2_with fail
  go_loopg [1, 5] 1 (fun kq v1 v5 w' => (kq = 1 ∧ v1 = .int .i64 k ∧ v5 = .int .i64 0 ∧ w' = w) ∨ (kq = 0 ∧ v1 = .int .i64 (k + 2) ∧ v5 = .int .i64 1 ∧ Aside0 (∃ cs', w'.heap[g]? = some (.cells cs' 52 (0, 0)) ∧ cs'[0]? = some (.bool (Int.tmod k 3 == 0)) ∧ cs'[1]? = some (.slice none 0 0) ∧ cs'[2]? = some (.slice none 0 0) ∧ cs'[3]? = some (.int .i64 (k + 1))) ∧ Aside0 (Mk base g w w')))
  case atStart => exact .inl ⟨rfl, rfl, rfl, rfl⟩
  case round =>
    rcases hrel with ⟨rfl, rfl, rfl, rfl⟩ | ⟨rfl, rfl, rfl, HP, HM⟩
    · have x0 : wr.cell? ⟨g, 0, none⟩ = some (.bool b) := (blk_cell H3.out 0).trans H4.out
      have x1 : wr.cell? ⟨g, 1, none⟩ = some (.slice none 0 0) := (blk_cell H3.out 1).trans H5.out
      have x2 : wr.cell? ⟨g, 2, none⟩ = some (.slice none 0 0) := (blk_cell H3.out 2).trans H6.out
      have x3 : wr.cell? ⟨g, 3, none⟩ = some (.int .i64 n) := (blk_cell H3.out 3).trans H7.out
      have y0 := blk_frozen H3.out 0
      go_wp2_with fail
      have z0 := blk_put H3.out 0 (.bool (Int.tmod k 3 == 0)) rfl
      obtain ⟨c1, hc1⟩ : ∃ c1, c1 = cs.setIfInBounds 0 (.bool (Int.tmod k 3 == 0)) := ⟨_, rfl⟩
      rw [← hc1] at z0
      have q0 : c1[0]? = some (.bool (Int.tmod k 3 == 0)) := by rw [hc1, Array.getElem?_setIfInBounds, if_pos rfl, if_pos (Array.getElem?_eq_some_iff.1 H4.out).1]
      have q1 : c1[1]? = some (.slice none 0 0) := by rw [hc1, Array.getElem?_setIfInBounds, if_neg (by decide)]; exact H5.out
      have q2 : c1[2]? = some (.slice none 0 0) := by rw [hc1, Array.getElem?_setIfInBounds, if_neg (by decide)]; exact H6.out
      have q3 : c1[3]? = some (.int .i64 n) := by rw [hc1, Array.getElem?_setIfInBounds, if_neg (by decide)]; exact H7.out
      have M0 := Aside0.mk (Mk.set (base := base) (Mk.refl wr hbg) 0 (.bool (Int.tmod k 3 == 0)))
      have Z0 := Aside0.mk z0
      have Q := Aside0.mk (And.intro q0 (And.intro q1 (And.intro q2 q3)))
      clear z0 q0 q1 q2 q3 x0 x1 x2 x3 y0 hc1 H4 H5 H6 H7
      generalize wr.setCell ⟨g, 0, none⟩ (.bool (Int.tmod k 3 == 0)) = W1 at *
      refine (markS_nil _ W1).mono ?_
      rintro e W2 ⟨rfl, hb⟩
      have Z1 := Aside0.mk (blk_below Z0.out hb)
      have M1 := Aside0.mk (Mk.below M0.out hb)
      have x2 : W2.cell? ⟨g, 2, none⟩ = some (.slice none 0 0) := (blk_cell Z1.out 2).trans Q.out.2.2.1
      have y2 := blk_frozen Z1.out 2
      clear Z0 M0 hb
      go_wp2_with fail
      refine (markI_nil _ W2).mono ?_
      rintro e W3 ⟨rfl, hb⟩
      have Z2 := Aside0.mk (blk_below Z1.out hb)
      have M2 := Aside0.mk (Mk.below M1.out hb)
      have x3 : W3.cell? ⟨g, 3, none⟩ = some (.int .i64 n) := (blk_cell Z2.out 3).trans Q.out.2.2.2
      have y3 := blk_frozen Z2.out 3
      clear Z1 M1 hb x2 y2
      go_wp2_with fail
      go_roundg 0
      case measure => omega
      case rel =>
        refine .inr ⟨rfl, by rw [← e2], by kernel_rfl, ⟨_, blk_put Z2.out 3 (.int .i64 (k + 1)) rfl, ?_, ?_, ?_, ?_⟩, ⟨(Mk.set M2.out 3 _).2⟩⟩
        · rw [Array.getElem?_setIfInBounds, if_neg (by decide)]; exact Q.out.1
        · rw [Array.getElem?_setIfInBounds, if_neg (by decide)]; exact Q.out.2.1
        · rw [Array.getElem?_setIfInBounds, if_neg (by decide)]; exact Q.out.2.2.1
        · rw [Array.getElem?_setIfInBounds, if_pos rfl, if_pos (Array.getElem?_eq_some_iff.1 Q.out.2.2.2).1]
    · go_wp2_with fail
      go_ret
      exact ⟨rfl, HP.out, HM.out⟩

/-! ### spec_tree: a text by hand -/
-- import Derived.Deep.RegionLaw
theorem keys_nil (w : World) : Calls Try.prog 24 #[.agg #[.bool true, .slice none 0 0, .slice none 0 0]] w fun e w' => ∃ A c, e = .returned (.slice A 0 c) ∧ Below w.heap.size w w' := by
  refine (spec_l3Keys.calls 1 true none 0 [] none 0 [] [] w ⟨rfl, Nat.zero_le _, fun h => absurd h (Nat.lt_irrefl 0)⟩ (Nat.le_refl _) ⟨rfl, Nat.zero_le _, fun h => absurd h (Nat.lt_irrefl 0)⟩ (Nat.le_refl _) rfl).mono ?_
  rintro e w' ⟨v, rfl, hR, hb⟩
  obtain ⟨A, c, rfl⟩ := Kd.R_slice hR
  exact ⟨A, c, rfl, hb⟩
def FlatCut (w : World) (v5 : Value) (wc : World) : Prop := ∃ g, v5 = .pointer (some ⟨g, 0, none⟩) ∧ w.heap.size < g ∧ wc.heap[g]? = some (.cells #[.bool true, .slice none 0 0, .slice none 0 0, .int .i64 0] 52 (0, 0)) ∧ wc.heap[w.heap.size]? = some (.cells #[.bool true, .slice none 0 0, .slice none 0 0] 39 (0, 0)) ∧ Below w.heap.size w wc
theorem flatA {w w2 : World} (hk : w2.heap[w.heap.size]? = some (.cells #[.bool true, .slice none 0 0, .slice none 0 0] 39 (0, 0))) (hB : Below w.heap.size w w2) :
    FlatCut w (.pointer (some ⟨w2.heap.size, 0, none⟩)) (w2.alloc (.cells #[.bool true, .slice none 0 0, .slice none 0 0, .int .i64 0] 52)) :=
  ⟨_, rfl, blk_lt hk, blk_new _ _, blk_alloc hk _, below_alloc hB _⟩
theorem flatB {w w2 : World} {g : Nat} (h0 : w.heap.size < g) (hk : w2.heap[w.heap.size]? = some (.cells #[.bool true, .slice none 0 0, .slice none 0 0] 39 (0, 0))) (h5 : w2.heap[g]? = some (.cells #[.bool false, .slice none 0 0, .slice none 0 0, .int .i64 0] 52 (0, 0))) (hB : Below w.heap.size w w2) :
    FlatCut w (.pointer (some ⟨g, 0, none⟩)) ((((w2.setCell ⟨g, 0, none⟩ (.bool true)).setCell ⟨g, 1, none⟩ (.slice none 0 0)).setCell ⟨g, 2, none⟩ (.slice none 0 0)).setCell ⟨g, 3, none⟩ (.int .i64 0)) := by
  have hle : w.heap.size ≤ g := Nat.le_of_lt h0
  refine ⟨_, rfl, h0, blk_put (blk_put (blk_put (blk_put h5 0 (.bool true) rfl) 1 (.slice none 0 0) rfl) 2 (.slice none 0 0) rfl) 3 (.int .i64 0) rfl, ?_, below_set (below_set (below_set (below_set hB hle) hle) hle) hle⟩
  have hne : w.heap.size ≠ g := by omega
  exact (Below.heap_setCell _ _ _ _ hne).trans ((Below.heap_setCell _ _ _ _ hne).trans ((Below.heap_setCell _ _ _ _ hne).trans ((Below.heap_setCell _ _ _ _ hne).trans hk)))
set_option maxHeartbeats 2000000 in
theorem flat_leaf (w : World) : Calls Try.prog 15 #[.agg #[.bool true, .slice none 0 0, .slice none 0 0], .int .i64 0] w fun e w' => ∃ v, e = .returned v ∧ M1 w' w.heap.size v true 0 ∧ Below w.heap.size w w' := by
  have HB := Aside0.mk (below_alloc (Below.refl w.heap.size w) (.cells #[.bool true, .slice none 0 0, .slice none 0 0] 39))
  have K0 := Aside0.mk (blk_new w (.cells #[.bool true, .slice none 0 0, .slice none 0 0] 39))
  have hu39 := Try.underlying39
  have hu52 := Try.underlying52
  go_enter Try.func15, Try.ntmps15
  go_wp2_with fail
  generalize w.alloc (.cells #[.bool true, .slice none 0 0, .slice none 0 0] 39) = W at *
  have s0 : W.cell? ⟨w.heap.size, 0, none⟩ = some (.bool true) := (blk_cell K0.out 0).trans rfl
  have s1 : W.cell? ⟨w.heap.size, 1, none⟩ = some (.slice none 0 0) := (blk_cell K0.out 1).trans rfl
  have s2 : W.cell? ⟨w.heap.size, 2, none⟩ = some (.slice none 0 0) := (blk_cell K0.out 2).trans rfl
  have b0 : (W.alloc (.cells #[.bool false, .slice none 0 0, .slice none 0 0, .int .i64 0] 52)).cell? ⟨w.heap.size, 0, none⟩ = some (.bool true) := (blk_cell (blk_alloc K0.out _) 0).trans rfl
  have b1 : (W.alloc (.cells #[.bool false, .slice none 0 0, .slice none 0 0, .int .i64 0] 52)).cell? ⟨w.heap.size, 1, none⟩ = some (.slice none 0 0) := (blk_cell (blk_alloc K0.out _) 1).trans rfl
  have b2 : (W.alloc (.cells #[.bool false, .slice none 0 0, .slice none 0 0, .int .i64 0] 52)).cell? ⟨w.heap.size, 2, none⟩ = some (.slice none 0 0) := (blk_cell (blk_alloc K0.out _) 2).trans rfl
  have hw0 := blk_lt K0.out
  replace HB := HB
  go_cut [5] (fun v5 wc => FlatCut w v5 wc)
  case first =>
    go_region_law (go_simp; go_at_call 24; refine (keys_nil _).mono ?_; rintro e w2 ⟨A, c, rfl, hb⟩; have HK2 := Aside0.mk (below_step (by repeat (first | (with_reducible first | exact HB.out | apply below_alloc | apply pw_below_drewN | apply below_drew1) | exact HB.out)) hb); have hk0 : w2.heap[w.heap.size]? = some (.cells #[.bool true, .slice none 0 0, .slice none 0 0] 39 (0, 0)) := blk_below (by (with_reducible repeat (first | refine blk_drewN ?_ _ | refine blk_drew ?_ | refine blk_alloc ?_ _)); exact K0.out) hb; have m0 : w2.cell? ⟨w.heap.size, 0, none⟩ = some (.bool true) := (blk_cell hk0 0).trans rfl; have n0 : (w2.alloc (.cells #[.bool false, .slice none 0 0, .slice none 0 0, .int .i64 0] 52)).cell? ⟨w.heap.size, 0, none⟩ = some (.bool true) := (blk_cell (blk_alloc hk0 _) 0).trans rfl; have m1 : w2.cell? ⟨w.heap.size, 1, none⟩ = some (.slice none 0 0) := (blk_cell hk0 1).trans rfl; have n1 : (w2.alloc (.cells #[.bool false, .slice none 0 0, .slice none 0 0, .int .i64 0] 52)).cell? ⟨w.heap.size, 1, none⟩ = some (.slice none 0 0) := (blk_cell (blk_alloc hk0 _) 1).trans rfl; have m2 : w2.cell? ⟨w.heap.size, 2, none⟩ = some (.slice none 0 0) := (blk_cell hk0 2).trans rfl; have n2 : (w2.alloc (.cells #[.bool false, .slice none 0 0, .slice none 0 0, .int .i64 0] 52)).cell? ⟨w.heap.size, 2, none⟩ = some (.slice none 0 0) := (blk_cell (blk_alloc hk0 _) 2).trans rfl; (try have hk5 : w2.heap[W.heap.size]? = some (.cells #[.bool false, .slice none 0 0, .slice none 0 0, .int .i64 0] 52 (0, 0)) := blk_below (by (with_reducible repeat (first | refine blk_drewN ?_ _ | refine blk_drew ?_)); exact blk_new _ _) hb); (try have hz0 : w2.cell? ⟨W.heap.size, 0, none⟩ = some (.bool false) := (blk_cell hk5 0).trans rfl); (try have hy0 := blk_frozen hk5 0); (try have hz1 : w2.cell? ⟨W.heap.size, 1, none⟩ = some (.slice none 0 0) := (blk_cell hk5 1).trans rfl); (try have hy1 := blk_frozen hk5 1); (try have hz2 : w2.cell? ⟨W.heap.size, 2, none⟩ = some (.slice none 0 0) := (blk_cell hk5 2).trans rfl); (try have hy2 := blk_frozen hk5 2); (try have hz3 : w2.cell? ⟨W.heap.size, 3, none⟩ = some (.int .i64 0) := (blk_cell hk5 3).trans rfl); (try have hy3 := blk_frozen hk5 3))
    all_goals
      go_wp2_with fail
      go_meet
      first | exact flatA hk0 HK2.out | exact flatB hw0 hk0 hk5 HK2.out
  case rest =>
    obtain ⟨g, rfl, hg, K5, K0, HB⟩ := hcut
    clear s0 s1 s2 b0 b1 b2 hw0
    have hl5 := blk_lt K5
    have hl0 := blk_lt K0
    have hne : w.heap.size ≠ g := by omega
    have s0 : wc.cell? ⟨w.heap.size, 0, none⟩ = some (.bool true) := (blk_cell K0 0).trans rfl
    have s1 : wc.cell? ⟨w.heap.size, 1, none⟩ = some (.slice none 0 0) := (blk_cell K0 1).trans rfl
    have b0 : wc.cell? ⟨g, 0, none⟩ = some (.bool true) := (blk_cell K5 0).trans rfl
    have b1 : wc.cell? ⟨g, 1, none⟩ = some (.slice none 0 0) := (blk_cell K5 1).trans rfl
    have b2 : wc.cell? ⟨g, 2, none⟩ = some (.slice none 0 0) := (blk_cell K5 2).trans rfl
    have b3 : wc.cell? ⟨g, 3, none⟩ = some (.int .i64 0) := (blk_cell K5 3).trans rfl
    have y1 := blk_frozen K5 1
    replace HB := Aside0.mk HB
    have H5 := Aside0.mk K5
    clear K5 K0
    go_wp2_with fail
    go_ret
    have hn := blk_new ((wc.setCell ⟨g, 1, none⟩ (.slice (some ⟨wc.heap.size, 0, none⟩) 0 0)).alloc (.cells #[] 9)) (.cells #[.bool true, .slice (some ⟨wc.heap.size, 0, none⟩) 0 0, .slice none 0 0, .int .i64 0] 52)
    rw [show ((wc.setCell ⟨g, 1, none⟩ (.slice (some ⟨wc.heap.size, 0, none⟩) 0 0)).alloc (.cells #[] 9)).heap.size = wc.heap.size + 1 by simp [World.setCell]] at hn
    exact ⟨_, rfl, ⟨_, _, _, _, _, _, _, rfl, Nat.le_refl _, by have := HB.out.size; omega, hn, rfl, rfl, rfl, rfl⟩, below_alloc (below_alloc (below_set HB.out (Nat.le_of_lt hg)) _) _⟩
theorem spec_TreeNew.calls (w : World) : Calls Try.prog 5 #[] w fun e w' => ∃ v, e = .returned (.agg #[v]) ∧ M1 w' w.heap.size v true 0 ∧ Below w.heap.size w w' := by
  have HB := Aside0.mk (below_alloc (Below.refl w.heap.size w) (.cells #[.slice none 0 0] 24))
  have K0 := Aside0.mk (blk_new w (.cells #[.slice none 0 0] 24))
  have hu24 := Try.underlying24
  have hu39 := Try.underlying39
  go_enter Try.func5, Try.ntmps5
  go_wp2_with fail
  refine (flat_leaf _).mono ?_
  rintro e w3 ⟨v, rfl, h2, hb⟩
  have h2' := h2
  obtain ⟨g, c, _, _, _, _, _, rfl, _⟩ := h2'
  have hl0 := blk_lt K0.out
  replace K0 := Aside0.mk (blk_below K0.out hb)
  replace HB := Aside0.mk (below_step HB.out hb)
  have hk0 := blk_cell K0.out 0
  have hf0 := blk_frozen K0.out 0
  have hk1 : w3.cell? ⟨w.heap.size, 0, none⟩ = some (.slice none 0 0) := hk0.trans rfl
  have H2 := Aside0.mk h2
  clear h2
  go_wp2_with fail
  refine bodyPost_ret (results_cell_row rfl _ _ w.heap.size 24 #[.slice (some ⟨g, 0, none⟩) 1 c] (0, 0) _ rfl (blk_put (cs := #[.slice none 0 0]) K0.out 0 _ rfl) hu24 rfl (by kernel_rfl)) rfl ?_
  exact ⟨_, rfl, (H2.out.move (fun k hk _ => Below.heap_setCell w3 ⟨w.heap.size, 0, none⟩ _ k (by have : k ≠ w.heap.size := (by simp at hk; omega); exact this))).lower (by simp), below_set HB.out (Nat.le_refl _)⟩

/-! ### yimpl_index: a text by hand -/
-- import Derived.Deep.RegionLaw
set_option maxHeartbeats 4000000 in
theorem impl_IndexNew.calls (w : World) : Calls Try.prog 11 #[] w fun e w' => ∃ v g0 gb xs, e = .returned (.agg #[v]) ∧ xs.length = 6 ∧ (∃ w1, IInv (fun w lo x => N1 w lo x true 0) w w1 g0 gb v xs ∧ w' = w1.setCell ⟨g0, 0, none⟩ v) := by
  have hb0 := below_alloc (below_alloc (Below.refl w.heap.size w) (.cells #[.slice none 0 0] 31)) (.cells #[.slice none 0 0] 31)
  have hk0 := blk_alloc (blk_new w (.cells #[.slice none 0 0] 31)) (.cells #[.slice none 0 0] 31)
  have hkb := blk_new (w.alloc (.cells #[.slice none 0 0] 31)) (.cells #[.slice none 0 0] 31)
  simp only [World.size_alloc] at hkb
  have I0 : Aside0 (IInv (fun w lo x => N1 w lo x true 0) w ((w.alloc (.cells #[.slice none 0 0] 31)).alloc (.cells #[.slice none 0 0] 31)) w.heap.size (w.heap.size + 1) (.slice none 0 0) []) :=
    ⟨hk0, hkb, Nat.le_refl _, by omega, Kd.R_nil _ _ _ _ _, fun x hx => absurd hx (by simp), List.Pairwise.nil, hb0⟩
  clear hb0 hk0 hkb
  have hu31 := Try.underlying31
  have hu24 := Try.underlying24
  go_enter Try.func11, Try.ntmps11
  go_wp2_with fail
  go_loopg [2] 6 (fun kq v2 w' => ∃ (i : Nat) (v : Value) (xs : List Value), v2 = .int .i64 i ∧ xs.length = i ∧ i ≤ 6 ∧ kq = 6 - i ∧ Aside0 (IInv (fun w lo x => N1 w lo x true 0) w w' w.heap.size (w.heap.size + 1) v xs))
  case atStart => exact ⟨0, _, [], rfl, rfl, by omega, rfl, I0⟩
  case round =>
    obtain ⟨i, v, xs, rfl, hxl, hi6, hkq, I⟩ := hrel
    clear I0
    by_cases ci : (i : Int) < 6
    · obtain ⟨A, c, rfl⟩ := I.out.slice
      have x0 : wr.cell? ⟨w.heap.size + 1, 0, none⟩ = some (.slice A xs.length c) := (blk_cell I.out.kb 0).trans rfl
      have y0 := blk_frozen I.out.kb 0
      have XL := Aside0.mk hxl
      have KQ := Aside0.mk hkq
      have I6 := Aside0.mk hi6
      generalize hn : xs.length = n at *
      have HN := Aside0.mk hn
      clear hn hxl hkq hi6
      go_wp2_with fail
      go_region_law (first
        | (go_simp; go_at_call 6; refine (impl_TreeNew.calls _).mono ?_; rintro e w2 ⟨x, rfl, hN, hb⟩; obtain ⟨g, c2, rfl, h1, h2, hlt⟩ := (N1.tq true 0).shape hN; have HNE := Aside0.mk (IInv.ne (N1.tq true 0) I.out (w2 := w2) hN); have HX := Aside0.mk ((N1.tq true 0).lower (lo' := w.heap.size) hN I.out.b.size); have IC := Aside0.mk (IInv.below (N1.tq true 0) I.out (below_step (below_drew1 (Below.refl _ _)) hb)); have x2 : w2.cell? ⟨w.heap.size + 1, 0, none⟩ = some (.slice A n c) := (blk_cell IC.out.kb 0).trans rfl; have y2 := blk_frozen IC.out.kb 0; have x2b : (w2.alloc (.cells #[.slice (some ⟨g, 0, none⟩) 1 c2] 24)).cell? ⟨w.heap.size + 1, 0, none⟩ = some (.slice A n c) := (blk_cell (blk_alloc IC.out.kb _) 0).trans rfl; clear hN hb h1 h2 hlt)
        | (
            refine Kd.R_append_step (Kd.raw 1) (w0 := w) (W := w2) w.heap.size (by rfl) (.tmp 5) (.tmp 7) 29 24 (.agg #[.slice none 0 0]) 24 rfl Try.underlying29 infoTree rfl (by decide) (by omega) (.slice A n c) (xs.map fun x => [x]) [.slice (some ⟨g, 0, none⟩) 1 c2] [.slice (some ⟨g, 0, none⟩) 1 c2] (fun _ => True) (fun _ => False) rfl rfl ?aP ?aK ?aF ?aO ?aB ?aS ?aL ?_
            case aP => exact ⟨rfl, rfl, fun u hu => by obtain rfl : u = _ := by simpa using hu
                                                       rfl⟩
            case aK => exact fun _ h => h.elim
            case aF => exact fun _ _ => trivial
            case aO => exact IC.out.r
            case aB => exact IC.out.b
            case aS => exact IC.out.b.size
            case aL => rw [List.length_map, HN.out]; have := I6.out; have := XL.out; omega
            intro v1 w3 ho hb1 hg1 hat
            have kb3 := blk_grown IC.out.kb hg1 (Kd.R_ne IC.out.r IC.out.kb (by decide))
            have x3 : w3.cell? ⟨w.heap.size + 1, 0, none⟩ = some (.slice A n c) := (blk_cell kb3 0).trans rfl
            have y3 := blk_frozen kb3 0
            have IS := Aside0.mk (IInv.step (N1.tq true 0) IC.out HX.out HNE.out ho hb1 hg1)
            obtain ⟨A3, c3, e3⟩ := Kd.R_slice ho
            have hl3 : (xs.map (fun x => [x]) ++ [[(.slice (some ⟨g, 0, none⟩) 1 c2 : Value)]]).length = n + 1 := by rw [List.length_append, List.length_map, HN.out]; rfl
            rw [hl3] at e3
            subst e3
            clear ho hb1 hg1 hat kb3 hl3))
      all_goals
        go_wp2_with fail
        go_roundg (6 - (i + 1))
        case measure => have h1 := KQ.out; omega
        case rel =>
          refine ⟨i + 1, _, xs ++ [_], by rw [show (((i + 1 : Nat) : Int)) = (i : Int) + 1 from by omega], by rw [List.length_append, HN.out, ← XL.out]; rfl, by omega, rfl, IS⟩
    · obtain ⟨A, c, rfl⟩ := I.out.slice
      have x0 : wr.cell? ⟨w.heap.size + 1, 0, none⟩ = some (.slice A xs.length c) := (blk_cell I.out.kb 0).trans rfl
      have x1 : wr.cell? ⟨w.heap.size, 0, none⟩ = some (.slice none 0 0) := (blk_cell I.out.k0 0).trans rfl
      have y0 := blk_frozen I.out.k0 0
      have h6 : xs.length = 6 := by omega
      rw [h6] at x0 I
      clear hxl hkq hi6
      go_wp2_with fail
      refine bodyPost_ret (results_cell_row rfl _ _ w.heap.size 31 #[.slice A 6 c] (0, 0) _ rfl (blk_put (cs := #[.slice none 0 0]) I.out.k0 0 _ rfl) hu31 rfl (by kernel_rfl)) rfl ?_
      exact ⟨.slice A 6 c, rfl, w.heap.size, w.heap.size + 1, xs, h6, wr, I.out, rfl⟩

/-! ### ymark_index: a text by hand -/
def tns (n : Nat) (f : Nat → Bool × Int) : List S24 := (List.range n).map fun i => ⟨[⟨(f i).1, [], [], (f i).2⟩]⟩
theorem raw_at {w : World} {base : Nat} {ok : Nat → Prop} {A : Option Addr} {n c : Nat} {xs : List Value} (h : Kd.R (Kd.raw 1) 24 w base ok (.slice A n c) (xs.map fun x => [x])) (hp : 0 < n) :
    n = xs.length ∧ n ≤ c ∧ n ≤ 9223372036854775807 ∧ ∃ ad, A = some ad ∧ ∀ j x, xs[j]? = some x → w.cell? (ad.add j) = some x := by
  obtain ⟨h1, h2, h3⟩ := Kd.R_reads' h
  rw [List.length_map] at h1
  obtain ⟨h4, h5, h6⟩ := h3
  obtain ⟨ad, hA, hc⟩ := h6 (by rw [List.length_map]; omega)
  refine ⟨h1, h2, by rw [List.length_map] at h5; omega, ad, hA, fun j x hj => ?_⟩
  obtain ⟨cs, hs, hk, hcell⟩ := hc j [x] (by rw [List.getElem?_map, hj]; rfl)
  obtain ⟨rfl, _, _⟩ := hk
  have := hcell 0 x rfl
  rw [show j * (Kd.raw 1).sz + 0 = j from Nat.mul_one _] at this
  exact this
theorem C24 {w : World} {base lo : Nat} {ok : Nat → Prop} {A : Option Addr} {n c : Nat} {xs : List Value} (f : Nat → Bool × Int) (h : Kd.R (Kd.raw 1) 24 w base ok (.slice A n c) (xs.map fun x => [x])) (hp : 0 < n) (hq : ∀ (i : Nat) x, xs[i]? = some x → M1 w lo x (f i).1 (f i).2) :
    n ≤ c ∧ Kd.C k24 w A n (tns n f) := by
  obtain ⟨h1, h2, h3, ad, hA, hc⟩ := raw_at h hp
  refine ⟨h2, by rw [tns, List.length_map, List.length_range], h3, fun _ => ⟨ad, hA, fun j p hj => ?_⟩⟩
  have hjn : j < n := by have := (List.getElem?_eq_some_iff.1 hj).1; rw [tns, List.length_map, List.length_range] at this; exact this
  have hp' : p = ⟨[⟨(f j).1, [], [], (f j).2⟩]⟩ := by
    rw [tns, List.getElem?_map, List.getElem?_range hjn] at hj
    exact (Option.some.inj hj).symm
  subst hp'
  obtain ⟨x, hx⟩ : ∃ x, xs[j]? = some x := ⟨_, List.getElem?_eq_getElem (by omega)⟩
  obtain ⟨A', c', rfl, hc1, hC⟩ := M1.C (hq j x hx)
  refine ⟨[.slice A' 1 c'], rfl, k24_mk w ⟨[⟨(f j).1, [], [], (f j).2⟩]⟩ hc1 hC, fun i u hu => ?_⟩
  match i, hu with
  | 0, hu => cases hu; rw [show j * (k24).sz + 0 = j from Nat.mul_one _]; exact hc j _ hx
  | i + 1, hu => simp at hu
def mkF (j i : Nat) : Bool × Int := if i < j then (Int.tmod (1 + 2 * i) 3 == 0, 1 + 2 * i + 1) else (true, 0)
/-- The state behind j marks. -/
structure MInv (base : Nat) (w0 w : World) (v : Value) (xs : List Value) (j : Nat) : Prop where
  r : Kd.R (Kd.raw 1) 24 w base (fun _ => True) v (xs.map fun x => [x])
  q : ∀ (i : Nat) x, xs[i]? = some x → N1 w base x (mkF j i).1 (mkF j i).2
  p : xs.Pairwise fun x y => x.ownBlock ≠ y.ownBlock
  s : w0.heap.size ≤ w.heap.size
  k : ∀ (i : Nat) (cs : Array Value) (t : TypeId), w0.heap[i]? = some (.cells cs t (0, 0)) → t ≠ 52 → w.heap[i]? = some (.cells cs t (0, 0))
  b : ∀ W : World, W.heap.size = base → Below base W w0 → Below base W w
theorem N1.at {w w1 : World} {lo : Nat} {x : Value} {b : Bool} {n : Int} (h : N1 w lo x b n) (hm : ∀ k, x.ownBlock = some k → k < w.heap.size → w1.heap[k]? = w.heap[k]?) : N1 w1 lo x b n := by
  obtain ⟨g, c, cs, h0, h1, h2, h3, h4⟩ := h
  subst h0
  exact ⟨g, c, cs, rfl, h1, h2, (hm g rfl (blk_lt h3)).trans h3, h4⟩
theorem MInv.step {base : Nat} {w0 w w1 : World} {v : Value} {xs : List Value} {j g c : Nat} (h : MInv base w0 w v xs j) (hj : xs[j]? = some (.slice (some ⟨g, 0, none⟩) 1 c)) (hb : base ≤ g) (hc1 : 1 ≤ c)
    (h1 : ∃ cs', w1.heap[g]? = some (.cells cs' 52 (0, 0)) ∧ cs'[0]? = some (.bool (Int.tmod (1 + 2 * j) 3 == 0)) ∧ cs'[1]? = some (.slice none 0 0) ∧ cs'[2]? = some (.slice none 0 0) ∧ cs'[3]? = some (.int .i64 (1 + 2 * j + 1))) (hm : Mk base g w w1) (hg : ∃ cs, w.heap[g]? = some (.cells cs 52 (0, 0))) :
    MInv base w0 w1 v xs (j + 1) := by
  obtain ⟨csg, hg⟩ := hg
  obtain ⟨m1, m2, m3⟩ := hm
  refine ⟨?_, ?_, h.p, Nat.le_trans h.s m1, ?_, fun W hW hB => m3 W hW (h.b W hW hB)⟩
  · exact Kd.R_mono (Kd.R_step (Kd.R_types h.r hg (by decide)) (fun k hk hlt => m2 k hlt hk.2)) (fun _ _ => trivial)
  · intro i x hi
    by_cases hij : i = j
    · subst hij
      obtain rfl : x = .slice (some ⟨g, 0, none⟩) 1 c := Option.some.inj (hi.symm.trans hj)
      obtain ⟨cs', q0, q1, q2, q3, q4⟩ := h1
      refine ⟨g, c, cs', rfl, hc1, hb, q0, ?_, q2, q3, ?_⟩
      · rw [mkF, if_pos (by omega)]; exact q1
      · rw [mkF, if_pos (by omega)]; exact q4
    · have he : mkF (j + 1) i = mkF j i := by
        unfold mkF
        by_cases hl : i < j
        · rw [if_pos hl, if_pos (by omega)]
        · rw [if_neg hl, if_neg (by omega)]
      rw [he]
      refine (h.q i x hi).at (fun k hk hlt => m2 k hlt (fun hkg => ?_))
      subst hkg
      have hli := (List.getElem?_eq_some_iff.1 hi)
      have hlj := (List.getElem?_eq_some_iff.1 hj)
      have hp := List.pairwise_iff_getElem.1 h.p
      rcases Nat.lt_or_gt_of_ne hij with hl | hl
      · exact hp i j hli.1 hlj.1 hl (by rw [hli.2, hlj.2, hk]; rfl)
      · exact hp j i hlj.1 hli.1 hl (by rw [hli.2, hlj.2, hk]; rfl)
  · intro i cs t hi ht
    have hi' := h.k i cs t hi ht
    refine (m2 i (blk_lt hi') (fun he => ?_)).trans hi'
    subst he
    rw [hg] at hi'
    injection hi' with hi'
    injection hi' with _ hi' _
    exact ht hi'.symm
set_option maxHeartbeats 2000000 in
theorem markTreeS_any (base c : Nat) (A : Option Addr) (xs : List Value) (w : World) (hl : xs.length = 6) (h : MInv base w w (.slice A 6 c) xs 0) :
    Calls Try.prog 22 #[.slice A 6 c, .int .i64 1] w fun e w' => e = .returned (.int .i64 13) ∧ MInv base w w' (.slice A 6 c) xs 6 := by
  have H := Aside0.mk h
  have HL := Aside0.mk hl
  have hu24 := Try.underlying24
  clear h hl
  go_enter Try.func22, Try.ntmps22
  go_wp2_with fail
  go_loopg [1, 5] 6 (fun kq v1 v5 w' => ∃ j : Nat, v1 = .int .i64 (1 + 2 * (j : Int)) ∧ v5 = .int .i64 j ∧ kq = 6 - j ∧ j ≤ 6 ∧ Aside0 (MInv base w w' (.slice A 6 c) xs j))
  case atStart => exact ⟨0, rfl, rfl, rfl, by omega, H⟩
  case round =>
    obtain ⟨j, rfl, rfl, hkq, hj6, I⟩ := hrel
    by_cases cj : (j : Int) < 6
    · have hj : j < 6 := by omega
      obtain ⟨hz, hcc, hz2, ad, rfl, hcell⟩ := raw_at I.out.r (by omega)
      obtain ⟨x, hx⟩ : ∃ x, xs[j]? = some x := ⟨_, List.getElem?_eq_getElem (by rw [HL.out]; exact hj)⟩
      obtain ⟨g, c1, cs, rfl, n1, n2, n3, n4, n5, n6, n7⟩ := I.out.q j x hx
      have x0 : wr.cell? (ad.add j) = some (.slice (some ⟨g, 0, none⟩) 1 c1) := hcell j _ hx
      have i0 : 0 ≤ (j : Int) := by omega
      have i1 : ((j : Int).toNat) = j := Int.toNat_natCast j
      have KQ := Aside0.mk hkq
      have HX := Aside0.mk hx
      have HJ := Aside0.mk hj
      have N1_ := Aside0.mk n1
      have N2_ := Aside0.mk n2
      have N3_ := Aside0.mk n3
      have N4_ := Aside0.mk (And.intro n4 (And.intro n5 (And.intro n6 n7)))
      clear hkq hx hcell n1 n2 n3 n4 n5 n6 n7 hcc hj6 hz hz2
      go_wp2_with fail
      have hj := HJ.out
      refine (markT1 base g c1 (1 + 2 * (j : Int)) cs wr (by omega) (by omega) N2_.out N3_.out _ _ N4_.out.1 N4_.out.2.1 N4_.out.2.2.1 N4_.out.2.2.2).mono ?_
      rintro e w2 ⟨rfl, h1, hm⟩
      have IS := Aside0.mk (MInv.step I.out HX.out N2_.out N1_.out h1 hm ⟨cs, N3_.out⟩)
      clear h1 hm
      go_wp2_with fail
      go_roundg (6 - (j + 1))
      case measure => have h1 := KQ.out; omega
      case rel =>
        exact ⟨j + 1, by rw [show 1 + 2 * ((j + 1 : Nat) : Int) = 1 + 2 * (j : Int) + 2 from by omega], by rw [show (((j + 1 : Nat) : Int)) = (j : Int) + 1 from by omega], rfl, by omega, IS⟩
    · have h6 : j = 6 := by omega
      subst h6
      clear hkq hj6
      go_wp2_with fail
      go_ret
      exact ⟨rfl, I.out⟩
theorem markIndex_any (base c : Nat) (A : Option Addr) (xs : List Value) (w : World) (hl : xs.length = 6) (h : MInv base w w (.slice A 6 c) xs 0) :
    Calls Try.prog 13 #[.agg #[.slice A 6 c], .int .i64 1] w fun e w' => e = .returned (.int .i64 13) ∧ MInv base w w' (.slice A 6 c) xs 6 := by
  have hb0 : Below w.heap.size w (w.alloc (.cells #[.slice A 6 c] 31)) := below_alloc (Below.refl _ _) _
  have h' : MInv base (w.alloc (.cells #[.slice A 6 c] 31)) (w.alloc (.cells #[.slice A 6 c] 31)) (.slice A 6 c) xs 0 :=
    ⟨Kd.R_below h.r hb0, fun i x hi => (h.q i x hi).below hb0, h.p, Nat.le_refl _, fun _ _ _ hi _ => hi, fun _ _ hB => hB⟩
  have HC := Aside0.mk (markTreeS_any base c A xs _ hl h')
  have HB := Aside0.mk hb0
  clear h h' hb0
  have hu31 := Try.underlying31
  go_enter Try.func13, Try.ntmps13
  go_wp2_with fail
  refine HC.out.mono ?_
  rintro e w2 ⟨rfl, hm⟩
  have HM := Aside0.mk hm
  clear hm
  go_wp2_with fail
  go_ret
  exact ⟨rfl, HM.out.r, HM.out.q, HM.out.p, Nat.le_trans HB.out.size HM.out.s, fun i cs t hi ht => HM.out.k i cs t (blk_below hi HB.out) ht, fun W hW hB => HM.out.b W hW (by subst hW; exact below_step hB HB.out)⟩
theorem eqI_six : laws_eqIndex.f 20 (tns 6 fun _ => (true, 0)) (tns 6 fun _ => (true, 0)) = some true := by kernel_rfl
theorem heldI_six : laws_heldIndex.f 20 (tns 6 (mkF 6)) 1 = some 13 := by kernel_rfl

/-! ### yspec_index: a text by hand -/
-- import Derived.Deep.RegionLaw
set_option maxHeartbeats 4000000 in
theorem spec_IndexNew.calls (w : World) : Calls Try.prog 10 #[] w fun e w' => ∃ v g0 gb xs, e = .returned (.agg #[v]) ∧ xs.length = 6 ∧ (∃ w1, IInv (fun w lo x => M1 w lo x true 0) w w1 g0 gb v xs ∧ w' = w1.setCell ⟨g0, 0, none⟩ v) := by
  have hb0 := below_alloc (below_alloc (Below.refl w.heap.size w) (.cells #[.slice none 0 0] 31)) (.cells #[.slice none 0 0] 31)
  have hk0 := blk_alloc (blk_new w (.cells #[.slice none 0 0] 31)) (.cells #[.slice none 0 0] 31)
  have hkb := blk_new (w.alloc (.cells #[.slice none 0 0] 31)) (.cells #[.slice none 0 0] 31)
  simp only [World.size_alloc] at hkb
  have I0 : Aside0 (IInv (fun w lo x => M1 w lo x true 0) w ((w.alloc (.cells #[.slice none 0 0] 31)).alloc (.cells #[.slice none 0 0] 31)) w.heap.size (w.heap.size + 1) (.slice none 0 0) []) :=
    ⟨hk0, hkb, Nat.le_refl _, by omega, Kd.R_nil _ _ _ _ _, fun x hx => absurd hx (by simp), List.Pairwise.nil, hb0⟩
  clear hb0 hk0 hkb
  have hu31 := Try.underlying31
  have hu24 := Try.underlying24
  go_enter Try.func10, Try.ntmps10
  go_wp2_with fail
  go_loopg [2] 6 (fun kq v2 w' => ∃ (i : Nat) (v : Value) (xs : List Value), v2 = .int .i64 i ∧ xs.length = i ∧ i ≤ 6 ∧ kq = 6 - i ∧ Aside0 (IInv (fun w lo x => M1 w lo x true 0) w w' w.heap.size (w.heap.size + 1) v xs))
  case atStart => exact ⟨0, _, [], rfl, rfl, by omega, rfl, I0⟩
  case round =>
    obtain ⟨i, v, xs, rfl, hxl, hi6, hkq, I⟩ := hrel
    clear I0
    by_cases ci : (i : Int) < 6
    · obtain ⟨A, c, rfl⟩ := I.out.slice
      have x0 : wr.cell? ⟨w.heap.size + 1, 0, none⟩ = some (.slice A xs.length c) := (blk_cell I.out.kb 0).trans rfl
      have y0 := blk_frozen I.out.kb 0
      have XL := Aside0.mk hxl
      have KQ := Aside0.mk hkq
      have I6 := Aside0.mk hi6
      generalize hn : xs.length = n at *
      have HN := Aside0.mk hn
      clear hn hxl hkq hi6
      go_wp2_with fail
      go_region_law (first
        | (go_simp; go_at_call 5; refine (spec_TreeNew.calls _).mono ?_; rintro e w2 ⟨x, rfl, hN, hb⟩; obtain ⟨g, c2, rfl, h1, h2, hlt⟩ := (M1.tq true 0).shape hN; have HNE := Aside0.mk (IInv.ne (M1.tq true 0) I.out (w2 := w2) hN); have HX := Aside0.mk ((M1.tq true 0).lower (lo' := w.heap.size) hN I.out.b.size); have IC := Aside0.mk (IInv.below (M1.tq true 0) I.out (below_step (below_drew1 (Below.refl _ _)) hb)); have x2 : w2.cell? ⟨w.heap.size + 1, 0, none⟩ = some (.slice A n c) := (blk_cell IC.out.kb 0).trans rfl; have y2 := blk_frozen IC.out.kb 0; have x2b : (w2.alloc (.cells #[.slice (some ⟨g, 0, none⟩) 1 c2] 24)).cell? ⟨w.heap.size + 1, 0, none⟩ = some (.slice A n c) := (blk_cell (blk_alloc IC.out.kb _) 0).trans rfl; clear hN hb h1 h2 hlt)
        | (
            refine Kd.R_append_step (Kd.raw 1) (w0 := w) (W := w2) w.heap.size (by rfl) (.tmp 9) (.tmp 11) 29 24 (.agg #[.slice none 0 0]) 24 rfl Try.underlying29 infoTree rfl (by decide) (by omega) (.slice A n c) (xs.map fun x => [x]) [.slice (some ⟨g, 0, none⟩) 1 c2] [.slice (some ⟨g, 0, none⟩) 1 c2] (fun _ => True) (fun _ => False) rfl rfl ?aP ?aK ?aF ?aO ?aB ?aS ?aL ?_
            case aP => exact ⟨rfl, rfl, fun u hu => by obtain rfl : u = _ := by simpa using hu
                                                       rfl⟩
            case aK => exact fun _ h => h.elim
            case aF => exact fun _ _ => trivial
            case aO => exact IC.out.r
            case aB => exact IC.out.b
            case aS => exact IC.out.b.size
            case aL => rw [List.length_map, HN.out]; have := I6.out; have := XL.out; omega
            intro v1 w3 ho hb1 hg1 hat
            have kb3 := blk_grown IC.out.kb hg1 (Kd.R_ne IC.out.r IC.out.kb (by decide))
            have x3 : w3.cell? ⟨w.heap.size + 1, 0, none⟩ = some (.slice A n c) := (blk_cell kb3 0).trans rfl
            have y3 := blk_frozen kb3 0
            have IS := Aside0.mk (IInv.step (M1.tq true 0) IC.out HX.out HNE.out ho hb1 hg1)
            obtain ⟨A3, c3, e3⟩ := Kd.R_slice ho
            have hl3 : (xs.map (fun x => [x]) ++ [[(.slice (some ⟨g, 0, none⟩) 1 c2 : Value)]]).length = n + 1 := by rw [List.length_append, List.length_map, HN.out]; rfl
            rw [hl3] at e3
            subst e3
            clear ho hb1 hg1 hat kb3 hl3))
      all_goals
        go_wp2_with fail
        go_roundg (6 - (i + 1))
        case measure => have h1 := KQ.out; omega
        case rel =>
          refine ⟨i + 1, _, xs ++ [_], by rw [show (((i + 1 : Nat) : Int)) = (i : Int) + 1 from by omega], by rw [List.length_append, HN.out, ← XL.out]; rfl, by omega, rfl, IS⟩
    · obtain ⟨A, c, rfl⟩ := I.out.slice
      have x0 : wr.cell? ⟨w.heap.size + 1, 0, none⟩ = some (.slice A xs.length c) := (blk_cell I.out.kb 0).trans rfl
      have x1 : wr.cell? ⟨w.heap.size, 0, none⟩ = some (.slice none 0 0) := (blk_cell I.out.k0 0).trans rfl
      have y0 := blk_frozen I.out.k0 0
      have h6 : xs.length = 6 := by omega
      rw [h6] at x0 I
      clear hxl hkq hi6
      go_wp2_with fail
      refine bodyPost_ret (results_cell_row rfl _ _ w.heap.size 31 #[.slice A 6 c] (0, 0) _ rfl (blk_put (cs := #[.slice none 0 0]) I.out.k0 0 _ rfl) hu31 rfl (by kernel_rfl)) rfl ?_
      exact ⟨.slice A 6 c, rfl, w.heap.size, w.heap.size + 1, xs, h6, wr, I.out, rfl⟩

/-! ### zmain_IndexNew: a text by hand -/
theorem IInv.fin {Q : World → Nat → Value → Prop} {w w1 : World} {g0 gb : Nat} {v : Value} {xs : List Value} (hq : TQ Q) (h : IInv Q w w1 g0 gb v xs) :
    Kd.R (Kd.raw 1) 24 (w1.setCell ⟨g0, 0, none⟩ v) w.heap.size (fun _ => True) v (xs.map fun x => [x]) ∧ (∀ x ∈ xs, Q (w1.setCell ⟨g0, 0, none⟩ v) w.heap.size x) ∧ Below w.heap.size w (w1.setCell ⟨g0, 0, none⟩ v) := by
  refine ⟨Kd.R_set h.r h.k0 (by decide) 0 v, fun x hx => hq.move (h.q x hx) (fun k cs hk => ?_), below_set h.b h.l0⟩
  have n2 : k ≠ g0 := fun he => by rw [he, h.k0] at hk; injection hk with hk; injection hk with _ hk _; exact absurd hk (by decide)
  exact Below.heap_setCell w1 ⟨g0, 0, none⟩ v k n2
theorem IInv.minv {w w1 : World} {g0 gb : Nat} {v : Value} {xs : List Value} (h : IInv (fun w lo x => N1 w lo x true 0) w w1 g0 gb v xs) : MInv w.heap.size (w1.setCell ⟨g0, 0, none⟩ v) (w1.setCell ⟨g0, 0, none⟩ v) v xs 0 := by
  obtain ⟨hr, hq, _⟩ := h.fin (N1.tq true 0)
  refine ⟨hr, fun i x hi => ?_, h.p, Nat.le_refl _, fun _ _ _ hi _ => hi, fun _ _ hB => hB⟩
  rw [mkF, if_neg (by omega)]
  exact hq x (List.mem_of_getElem? hi)
theorem MInv.moved {base : Nat} {w w1 : World} {v : Value} {xs : List Value} (h : MInv base w w v xs 0) (hb : Below w.heap.size w w1) : MInv base w1 w1 v xs 0 :=
  ⟨Kd.R_below h.r hb, fun i x hi => (h.q i x hi).below hb, h.p, Nat.le_refl _, fun _ _ _ hi _ => hi, fun _ _ hB => hB⟩
theorem MInv.C {base : Nat} {w0 w : World} {A : Option Addr} {c j : Nat} {xs : List Value} (h : MInv base w0 w (.slice A 6 c) xs j) : 6 ≤ c ∧ Kd.C k24 w A 6 (tns 6 (mkF j)) :=
  C24 (mkF j) h.r (by omega) (fun i x hi => (h.q i x hi).m)
theorem mkF_zero : tns 6 (mkF 0) = tns 6 fun _ => (true, 0) := by kernel_rfl
set_option maxHeartbeats 2000000 in
theorem main_IndexNew (w : World) : Calls Try.prog 4 #[] w fun e w' => e = .returned (.bool true) ∧ Below w.heap.size w w' := by
  have hu31 := Try.underlying31
  go_enter Try.func4, Try.ntmps4
  go_wp2_with fail
  refine (spec_IndexNew.calls w).mono ?_
  rintro e w1 ⟨v, g0, gb, xs, rfl, hl, w0, hI, rfl⟩
  obtain ⟨hr, hq, hb⟩ := hI.fin (M1.tq true 0)
  obtain ⟨A, c, hv⟩ := hI.slice
  rw [hl] at hv
  subst hv
  obtain ⟨hc, hC⟩ := C24 (fun _ => (true, 0)) hr (by omega) (fun i x hi => hq x (List.mem_of_getElem? hi))
  generalize (w0.setCell ⟨g0, 0, none⟩ (.slice A 6 c)) = w1 at *
  have SC := Aside0.mk (Kd.C_alloc hC (.cells #[.slice A 6 c] 31))
  have SL := Aside0.mk hc
  have K1 := Aside0.mk (blk_new w1 (.cells #[.slice A 6 c] 31))
  have HB := Aside0.mk (below_alloc hb (.cells #[.slice A 6 c] 31))
  clear hr hq hb hI hl hc hC
  go_wp2_with fail
  generalize (w1.alloc (.cells #[.slice A 6 c] 31)) = w2 at *
  generalize w1.heap.size = gA at *
  refine (impl_IndexNew.calls w2).mono ?_
  rintro e w3 ⟨v, g0', gb', ys, rfl, hl, w0', hI, rfl⟩
  have hM := hI.minv
  obtain ⟨_, _, hb⟩ := hI.fin (N1.tq true 0)
  obtain ⟨A1, c1, hv⟩ := hI.slice
  rw [hl] at hv
  subst hv
  generalize (w0'.setCell ⟨g0', 0, none⟩ (.slice A1 6 c1)) = w3 at *
  have hb3 := below_alloc (Below.refl w3.heap.size w3) (.cells #[.slice A1 6 c1] 31)
  have HM := Aside0.mk (hM.moved hb3)
  have HL := Aside0.mk hl
  have HB2 := Aside0.mk (below_step hb hb3)
  have K2 := Aside0.mk (blk_new w3 (.cells #[.slice A1 6 c1] 31))
  clear hM hb hI hl hb3
  have x1 : (w3.alloc (.cells #[.slice A1 6 c1] 31)).cell? ⟨gA, 0, none⟩ = some (.slice A 6 c) := (blk_cell (blk_below K1.out HB2.out) 0).trans rfl
  go_wp2_with fail
  clear x1
  generalize (w3.alloc (.cells #[.slice A1 6 c1] 31)) = w4 at *
  generalize w3.heap.size = gB at *
  obtain ⟨hc1, hC1⟩ := HM.out.C
  rw [mkF_zero] at hC1
  refine (laws_eqIndex.calls 20 A1 c1 (tns 6 fun _ => (true, 0)) A c (tns 6 fun _ => (true, 0)) true w4 hC1 hc1 (Kd.C_below SC.out HB2.out) SL.out eqI_six).mono ?_
  rintro e w5 ⟨rfl, hb⟩
  replace HM := Aside0.mk (HM.out.moved hb)
  replace HB2 := Aside0.mk (below_step HB2.out hb)
  replace K2 := Aside0.mk (blk_below K2.out hb)
  clear hb hc1 hC1
  have x2 : w5.cell? ⟨gB, 0, none⟩ = some (.slice A1 6 c1) := (blk_cell K2.out 0).trans rfl
  go_wp2_with fail
  clear x2
  refine (markIndex_any w2.heap.size c1 A1 ys w5 HL.out HM.out).mono ?_
  rintro e w6 ⟨rfl, hm⟩
  replace HB2 := Aside0.mk (hm.b w2 rfl HB2.out)
  replace K2 := Aside0.mk (hm.k gB _ _ K2.out (by decide))
  obtain ⟨hc1, hC1⟩ := hm.C
  have HC1 := Aside0.mk hc1
  have HC2 := Aside0.mk hC1
  clear hm HM hc1 hC1
  have x2 : w6.cell? ⟨gB, 0, none⟩ = some (.slice A1 6 c1) := (blk_cell K2.out 0).trans rfl
  go_wp2_with fail
  clear x2
  refine (laws_heldIndex.calls 20 A1 c1 (tns 6 (mkF 6)) 1 13 w6 HC2.out HC1.out heldI_six).mono ?_
  rintro e w7 ⟨rfl, hb⟩
  replace HB2 := Aside0.mk (below_step HB2.out hb)
  clear hb HC1 HC2 K2
  go_wp2_with fail
  refine (impl_IndexNew.calls w7).mono ?_
  rintro e w8 ⟨v, g0', gb', ys, rfl, hl, w0', hI, rfl⟩
  have hM := hI.minv
  obtain ⟨_, _, hb⟩ := hI.fin (N1.tq true 0)
  obtain ⟨A2, c2, hv⟩ := hI.slice
  rw [hl] at hv
  subst hv
  generalize (w0'.setCell ⟨g0', 0, none⟩ (.slice A2 6 c2)) = w8 at *
  have hb3 := below_alloc (Below.refl w8.heap.size w8) (.cells #[.slice A2 6 c2] 31)
  replace HB2 := Aside0.mk (below_step HB2.out (below_step hb hb3))
  obtain ⟨hc1, hC1⟩ := (hM.moved hb3).C
  rw [mkF_zero] at hC1
  have HC1 := Aside0.mk hc1
  have HC2 := Aside0.mk hC1
  clear hM hb hI hl hb3 hc1 hC1
  have x1 : (w8.alloc (.cells #[.slice A2 6 c2] 31)).cell? ⟨gA, 0, none⟩ = some (.slice A 6 c) := (blk_cell (blk_below K1.out HB2.out) 0).trans rfl
  go_wp2_with fail
  clear x1
  refine (laws_eqIndex.calls 20 A2 c2 (tns 6 fun _ => (true, 0)) A c (tns 6 fun _ => (true, 0)) true _ HC2.out HC1.out (Kd.C_below SC.out HB2.out) SL.out eqI_six).mono ?_
  rintro e w9 ⟨rfl, hb⟩
  replace HB2 := Aside0.mk (below_step HB2.out hb)
  go_wp2_with fail
  go_ret
  exact ⟨rfl, below_step HB.out HB2.out⟩
end Go.Proofs.Ytnkigjncfkgceaa.PN
