-- Made by this session's programs out of the translation and of its own texts.
import Derived.Test.YtnkigjncfkgceaaMFnExactTreeNewa
namespace Go.Proofs.Ytnkigjncfkgceaa.PN
open Go.RowKit Go.Proofs.YtnkigjncfkgceaaW.PrintWords Go.Proofs.YtnkigjncfkgceaaW.PrintLast Go.Proofs.YtnkigjncfkgceaaW.PrintMore
attribute [local go_sem] max2_int min2_int max_two min_two max_three min_three max_four min_four   -- for this text's walks alone
set_option linter.unusedVariables false
set_option linter.unusedSimpArgs false

/-! ### laws_heldTNodeS: function 20 -/
def laws_heldTNodeS.l0 : Nat → List (S52) → Int → Int → Option (Int)
  | 0, _, _, _ => none
  | k + 1, x0, x1, x5 => if x5 < (x0.length : Int) then (if 0 ≤ x5 then (if (((rd_T52 x0 x5).f0) != ((Int.tmod x1 3) == 0)) = true then (some (-1)) else ((laws_heldStringS.f k ((rd_T52 x0 x5).f1) (wrap64 (x1 + 1))).bind fun t198 => (if t198 < 0 then (some (-1)) else ((laws_heldInt64S.f k ((rd_T52 x0 x5).f2) t198).bind fun t200 => (if t200 < 0 then (some (-1)) else (if ((rd_T52 x0 x5).f3) = t200 then (laws_heldTNodeS.l0 k x0 (wrap64 (t200 + 1)) (wrap64 (x5 + 1))) else (some (-1)))))))) else (none)) else (some x1)
def laws_heldTNodeS.f (k : Nat) (l0 : List (S52)) (a1 : Int) : Option (Int) := laws_heldTNodeS.l0 k l0 a1 0
theorem laws_heldTNodeS.mono_l : ∀ k, (∀ y0 y1 y2, LeO (laws_heldTNodeS.l0 k y0 y1 y2) (laws_heldTNodeS.l0 (k + 1) y0 y1 y2))
  | 0 => fun _ _ _ r h => by simp [laws_heldTNodeS.l0] at h
  | k + 1 => by
    have ih0 := laws_heldTNodeS.mono_l k
    · intro y0 y1 y2
      unfold laws_heldTNodeS.l0
      repeat' first
      | (with_reducible exact ih0 _ _ _)
      | (with_reducible exact laws_heldInt64S.mono _ _ _)
      | (with_reducible exact laws_heldStringS.mono _ _ _)
      | (with_reducible exact LeO.refl _)
      | (with_reducible exact LeO.none _)
      | (with_reducible refine LeO.ite ?_ ?_)
      | (with_reducible refine LeO.bind ?_ (fun _ => ?_))
      | exact ih0 _ _ _
      | exact laws_heldInt64S.mono _ _ _
      | exact laws_heldStringS.mono _ _ _
      | exact LeO.none _
      | refine LeO.ite ?_ ?_
      | refine LeO.bind ?_ (fun _ => ?_)
theorem laws_heldTNodeS.mono : ∀ a0 a1 k, LeO (laws_heldTNodeS.f k a0 a1) (laws_heldTNodeS.f (k + 1) a0 a1) := by
  intro a0 a1 k
  have ih0 := laws_heldTNodeS.mono_l k
  unfold laws_heldTNodeS.f
  repeat' first
      | (with_reducible exact ih0 _ _ _)
      | (with_reducible exact laws_heldInt64S.mono _ _ _)
      | (with_reducible exact laws_heldStringS.mono _ _ _)
      | (with_reducible exact LeO.refl _)
      | (with_reducible exact LeO.none _)
      | (with_reducible refine LeO.ite ?_ ?_)
      | (with_reducible refine LeO.bind ?_ (fun _ => ?_))
      | exact ih0 _ _ _
      | exact laws_heldInt64S.mono _ _ _
      | exact laws_heldStringS.mono _ _ _
      | exact LeO.none _
      | refine LeO.ite ?_ ?_
      | refine LeO.bind ?_ (fun _ => ?_)
set_option maxHeartbeats 8000000 in
set_option maxRecDepth 100000 in
theorem laws_heldTNodeS.calls (k : Nat) (A0 : Option Addr) (c0 : Nat) (l0 : List (S52)) (a1 : Int) (r : Int) (w : World) (hr0 : Kd.C k52 w A0 l0.length l0) (hc0 : l0.length ≤ c0) (h : laws_heldTNodeS.f k l0 a1 = some r) :
    Calls Try.prog 20 #[.slice A0 l0.length c0, .int .i64 a1] w fun e w' => e = .returned (.int .i64 r) ∧ Below w.heap.size w w' := by
  have HR0 := Aside0.mk hr0
  have HC0 := Aside0.mk hc0
  clear hr0 hc0
  have HB := Aside0.mk (Below.refl w.heap.size w)
  have H : (laws_heldTNodeS.l0 k l0 a1 0) = some r := h
  clear h
  have H' := Aside0.mk H
  clear H
  go_enter Try.func20, Try.ntmps20
  go_wp2
  go_loopg [1, 5] k (fun kq v1 v5 w' => ∃ (x1_1 : Int) (x5_1 : Int), v1 = .int .i64 x1_1 ∧ v5 = .int .i64 x5_1 ∧ Aside0 (laws_heldTNodeS.l0 kq l0 x1_1 x5_1 = some r) ∧ Aside0 (kq ≤ k) ∧ Aside0 (Below w.heap.size w w'))
  case atStart => exact ⟨(a1), (0), (by first | rfl | (simp; done) | (simp [*]; done)), (by first | rfl | (simp; done) | (simp [*]; done)), H', ⟨Nat.le_refl _⟩, ⟨by repeat (first | (with_reducible first | exact HB.out | apply below_alloc | apply pw_below_drewN | apply below_drew1) | exact HB.out)⟩⟩
  case round =>
    clear H'
    try clear c2
    try clear p2
    obtain ⟨x1_1, x5_1, rfl, rfl, HA, HK1, HB⟩ := hrel
    cases gk with
    | zero => exact absurd HA.out (by simp [laws_heldTNodeS.l0])
    | succ k1 =>
      have H := HA.out
      clear HA
      simp only [laws_heldTNodeS.l0] at H
      by_cases c3 : x5_1 < (l0.length : Int)
      · rw [if_pos c3] at H
        have c3b0 : decide (x5_1 < (l0.length : Int)) = true := decide_eq_true c3
        clear c3
        by_cases c4 : 0 ≤ x5_1
        · rw [if_pos c4] at H
          have c4b0 : decide (0 ≤ x5_1) = true := decide_eq_true c4
          clear c4
          by_cases c5 : (((rd_T52 l0 x5_1).f0) != ((Int.tmod x1_1 3) == 0)) = true
          · rw [if_pos c5] at H
            have c5b0 : (((rd_T52 l0 x5_1).f0) != ((Int.tmod x1_1 3) == 0)) = true := c5
            (try (have c5b1 : decide (((rd_T52 l0 x5_1).f0) = ((Int.tmod x1_1 3) == 0)) = false := by simpa using c5))
            (try (have c5b2 : (((rd_T52 l0 x5_1).f0) == ((Int.tmod x1_1 3) == 0)) = false := by simpa using c5))
            (try (have c5b3 : ¬ (((rd_T52 l0 x5_1).f0) = ((Int.tmod x1_1 3) == 0)) := by simpa using c5))
            clear c5
            obtain rfl := Option.some.inj H
            have p196 : 0 ≤ (x5_1 : Int) := of_decide_eq_true (by first | (with_reducible assumption) | assumption)
            have q196 : x5_1 < (l0.length : Int) := of_decide_eq_true (by first | (with_reducible assumption) | assumption)
            obtain ⟨ad196, A196_1, c196_1, A196_2, c196_2, e196, hx196_0, hx196_1, hx196_2, hx196_3, hl196_1, hi196_1, hl196_2, hi196_2⟩ := at_T52 HR0.out x5_1 p196 q196
            cases e196
            replace hx196_0 := (HB.out.cell (World.block_lt_of_cell? w _ hx196_0)).trans hx196_0
            replace hx196_1 := (HB.out.cell (World.block_lt_of_cell? w _ hx196_1)).trans hx196_1
            replace hx196_2 := (HB.out.cell (World.block_lt_of_cell? w _ hx196_2)).trans hx196_2
            replace hx196_3 := (HB.out.cell (World.block_lt_of_cell? w _ hx196_3)).trans hx196_3
            have HR196_1 := Aside0.mk hi196_1
            have HC196_1 := Aside0.mk hl196_1
            clear hi196_1 hl196_1
            have HR196_2 := Aside0.mk hi196_2
            have HC196_2 := Aside0.mk hl196_2
            clear hi196_2 hl196_2
            replace p196 := eq_true p196
            replace q196 := eq_true q196
            go_wp2
            go_ret
            exact ⟨by first | rfl | (simp [errW_none, errW_some] <;> rfl) | (simp [*, errW_none, errW_some] <;> rfl), by repeat (first | (with_reducible first | exact HB.out | apply below_alloc | apply pw_below_drewN | apply below_drew1) | exact HB.out)⟩
          · rw [if_neg c5] at H
            have c5b0 : (((rd_T52 l0 x5_1).f0) != ((Int.tmod x1_1 3) == 0)) = false := by simpa using c5
            (try (have c5b1 : decide (((rd_T52 l0 x5_1).f0) = ((Int.tmod x1_1 3) == 0)) = true := by simpa using c5))
            (try (have c5b2 : (((rd_T52 l0 x5_1).f0) == ((Int.tmod x1_1 3) == 0)) = true := by simpa using c5))
            clear c5
            replace H := Option.bind_eq_some_iff.mp H
            obtain ⟨t198, A60, H⟩ := H
            replace H : (if t198 < 0 then (some (-1)) else ((laws_heldInt64S.f k1 ((rd_T52 l0 x5_1).f2) t198).bind fun t200 => (if t200 < 0 then (some (-1)) else (if ((rd_T52 l0 x5_1).f3) = t200 then (laws_heldTNodeS.l0 k1 l0 (wrap64 (t200 + 1)) (wrap64 (x5_1 + 1))) else (some (-1)))))) = some r := H
            have A6 := Aside0.mk A60
            clear A60
            by_cases c7 : t198 < 0
            · rw [if_pos c7] at H
              have c7b0 : decide (t198 < 0) = true := decide_eq_true c7
              clear c7
              obtain rfl := Option.some.inj H
              have p196 : 0 ≤ (x5_1 : Int) := of_decide_eq_true (by first | (with_reducible assumption) | assumption)
              have q196 : x5_1 < (l0.length : Int) := of_decide_eq_true (by first | (with_reducible assumption) | assumption)
              obtain ⟨ad196, A196_1, c196_1, A196_2, c196_2, e196, hx196_0, hx196_1, hx196_2, hx196_3, hl196_1, hi196_1, hl196_2, hi196_2⟩ := at_T52 HR0.out x5_1 p196 q196
              cases e196
              replace hx196_0 := (HB.out.cell (World.block_lt_of_cell? w _ hx196_0)).trans hx196_0
              replace hx196_1 := (HB.out.cell (World.block_lt_of_cell? w _ hx196_1)).trans hx196_1
              replace hx196_2 := (HB.out.cell (World.block_lt_of_cell? w _ hx196_2)).trans hx196_2
              replace hx196_3 := (HB.out.cell (World.block_lt_of_cell? w _ hx196_3)).trans hx196_3
              have HR196_1 := Aside0.mk hi196_1
              have HC196_1 := Aside0.mk hl196_1
              clear hi196_1 hl196_1
              have HR196_2 := Aside0.mk hi196_2
              have HC196_2 := Aside0.mk hl196_2
              clear hi196_2 hl196_2
              replace p196 := eq_true p196
              replace q196 := eq_true q196
              have p197 : 0 ≤ (x5_1 : Int) := of_decide_eq_true (by first | (with_reducible assumption) | assumption)
              have q197 : x5_1 < (l0.length : Int) := of_decide_eq_true (by first | (with_reducible assumption) | assumption)
              obtain ⟨ad197, A197_1, c197_1, A197_2, c197_2, e197, hx197_0, hx197_1, hx197_2, hx197_3, hl197_1, hi197_1, hl197_2, hi197_2⟩ := at_T52 HR0.out x5_1 p197 q197
              obtain rfl : ad196 = ad197 := (by injection e197)
              replace hx197_0 := (HB.out.cell (World.block_lt_of_cell? w _ hx197_0)).trans hx197_0
              replace hx197_1 := (HB.out.cell (World.block_lt_of_cell? w _ hx197_1)).trans hx197_1
              replace hx197_2 := (HB.out.cell (World.block_lt_of_cell? w _ hx197_2)).trans hx197_2
              replace hx197_3 := (HB.out.cell (World.block_lt_of_cell? w _ hx197_3)).trans hx197_3
              have HR197_1 := Aside0.mk hi197_1
              have HC197_1 := Aside0.mk hl197_1
              clear hi197_1 hl197_1
              have HR197_2 := Aside0.mk hi197_2
              have HC197_2 := Aside0.mk hl197_2
              clear hi197_2 hl197_2
              replace p197 := eq_true p197
              replace q197 := eq_true q197
              have ea_ := Option.some.inj (hx196_1.symm.trans hx197_1)
              injection ea_ with ea_ en_ ec_
              subst ea_
              subst ec_
              clear en_
              have ea_ := Option.some.inj (hx196_2.symm.trans hx197_2)
              injection ea_ with ea_ en_ ec_
              subst ea_
              subst ec_
              clear en_
              go_wp2_with (first | ((with_reducible refine gate_callee (f := 29) rfl ?_); refine goesL_ (some 29) rfl rfl Try.func29 (by kernel_rfl) rfl #[.slice A196_1 ((rd_T52 l0 x5_1).f1).length c196_1, .int .i64 (wrap64 (x1_1 + 1))] rfl (by (try simp only [List.map_toArray, List.map_cons, List.map_nil]); first | done | rfl | (simp only [List.length_drop, List.length_take]; rfl)) ?_; (with_reducible refine (laws_heldStringS.calls k1 _ _ ((rd_T52 l0 x5_1).f1) (wrap64 (x1_1 + 1)) t198 _ ?side1 ?side2 A6.out).mono ?_); (case side1 => repeat (first | exact (Kd.C_below HR197_1.out HB.out) | (with_reducible refine Kd.C_alloc ?_ _) | (with_reducible refine Kd.C_drewN ?_ _) | (with_reducible refine Kd.C_drew ?_))); (case side2 => exact HC197_1.out); rintro e w8 ⟨rfl, hb⟩; refine ⟨_, rfl, ?_⟩; have n0_ := Aside0.mk (below_step (by repeat (first | (with_reducible first | exact HB.out | apply below_alloc | apply pw_below_drewN | apply below_drew1) | exact HB.out)) hb); clear HB; have HB := n0_; clear n0_; (try clear hb); (try clear hb2); (try clear hk); (try clear hi)))
              go_ret
              exact ⟨by first | rfl | (simp [errW_none, errW_some] <;> rfl) | (simp [*, errW_none, errW_some] <;> rfl), by repeat (first | (with_reducible first | exact HB.out | apply below_alloc | apply pw_below_drewN | apply below_drew1) | exact HB.out)⟩
            · rw [if_neg c7] at H
              have c7b0 : decide (t198 < 0) = false := decide_eq_false c7
              clear c7
              replace H := Option.bind_eq_some_iff.mp H
              obtain ⟨t200, A90, H⟩ := H
              replace H : (if t200 < 0 then (some (-1)) else (if ((rd_T52 l0 x5_1).f3) = t200 then (laws_heldTNodeS.l0 k1 l0 (wrap64 (t200 + 1)) (wrap64 (x5_1 + 1))) else (some (-1)))) = some r := H
              have A9 := Aside0.mk A90
              clear A90
              by_cases c10 : t200 < 0
              · rw [if_pos c10] at H
                have c10b0 : decide (t200 < 0) = true := decide_eq_true c10
                clear c10
                obtain rfl := Option.some.inj H
                have p196 : 0 ≤ (x5_1 : Int) := of_decide_eq_true (by first | (with_reducible assumption) | assumption)
                have q196 : x5_1 < (l0.length : Int) := of_decide_eq_true (by first | (with_reducible assumption) | assumption)
                obtain ⟨ad196, A196_1, c196_1, A196_2, c196_2, e196, hx196_0, hx196_1, hx196_2, hx196_3, hl196_1, hi196_1, hl196_2, hi196_2⟩ := at_T52 HR0.out x5_1 p196 q196
                cases e196
                replace hx196_0 := (HB.out.cell (World.block_lt_of_cell? w _ hx196_0)).trans hx196_0
                replace hx196_1 := (HB.out.cell (World.block_lt_of_cell? w _ hx196_1)).trans hx196_1
                replace hx196_2 := (HB.out.cell (World.block_lt_of_cell? w _ hx196_2)).trans hx196_2
                replace hx196_3 := (HB.out.cell (World.block_lt_of_cell? w _ hx196_3)).trans hx196_3
                have HR196_1 := Aside0.mk hi196_1
                have HC196_1 := Aside0.mk hl196_1
                clear hi196_1 hl196_1
                have HR196_2 := Aside0.mk hi196_2
                have HC196_2 := Aside0.mk hl196_2
                clear hi196_2 hl196_2
                replace p196 := eq_true p196
                replace q196 := eq_true q196
                have p197 : 0 ≤ (x5_1 : Int) := of_decide_eq_true (by first | (with_reducible assumption) | assumption)
                have q197 : x5_1 < (l0.length : Int) := of_decide_eq_true (by first | (with_reducible assumption) | assumption)
                obtain ⟨ad197, A197_1, c197_1, A197_2, c197_2, e197, hx197_0, hx197_1, hx197_2, hx197_3, hl197_1, hi197_1, hl197_2, hi197_2⟩ := at_T52 HR0.out x5_1 p197 q197
                obtain rfl : ad196 = ad197 := (by injection e197)
                replace hx197_0 := (HB.out.cell (World.block_lt_of_cell? w _ hx197_0)).trans hx197_0
                replace hx197_1 := (HB.out.cell (World.block_lt_of_cell? w _ hx197_1)).trans hx197_1
                replace hx197_2 := (HB.out.cell (World.block_lt_of_cell? w _ hx197_2)).trans hx197_2
                replace hx197_3 := (HB.out.cell (World.block_lt_of_cell? w _ hx197_3)).trans hx197_3
                have HR197_1 := Aside0.mk hi197_1
                have HC197_1 := Aside0.mk hl197_1
                clear hi197_1 hl197_1
                have HR197_2 := Aside0.mk hi197_2
                have HC197_2 := Aside0.mk hl197_2
                clear hi197_2 hl197_2
                replace p197 := eq_true p197
                replace q197 := eq_true q197
                have ea_ := Option.some.inj (hx196_1.symm.trans hx197_1)
                injection ea_ with ea_ en_ ec_
                subst ea_
                subst ec_
                clear en_
                have ea_ := Option.some.inj (hx196_2.symm.trans hx197_2)
                injection ea_ with ea_ en_ ec_
                subst ea_
                subst ec_
                clear en_
                go_wp2_with (first | ((with_reducible refine gate_callee (f := 29) rfl ?_); refine goesL_ (some 29) rfl rfl Try.func29 (by kernel_rfl) rfl #[.slice A196_1 ((rd_T52 l0 x5_1).f1).length c196_1, .int .i64 (wrap64 (x1_1 + 1))] rfl (by (try simp only [List.map_toArray, List.map_cons, List.map_nil]); first | done | rfl | (simp only [List.length_drop, List.length_take]; rfl)) ?_; (with_reducible refine (laws_heldStringS.calls k1 _ _ ((rd_T52 l0 x5_1).f1) (wrap64 (x1_1 + 1)) t198 _ ?side1 ?side2 A6.out).mono ?_); (case side1 => repeat (first | exact (Kd.C_below HR197_1.out HB.out) | (with_reducible refine Kd.C_alloc ?_ _) | (with_reducible refine Kd.C_drewN ?_ _) | (with_reducible refine Kd.C_drew ?_))); (case side2 => exact HC197_1.out); rintro e w11 ⟨rfl, hb⟩; refine ⟨_, rfl, ?_⟩; have n0_ := Aside0.mk (below_step (by repeat (first | (with_reducible first | exact HB.out | apply below_alloc | apply pw_below_drewN | apply below_drew1) | exact HB.out)) hb); clear HB; have HB := n0_; clear n0_; (try clear hb); (try clear hb2); (try clear hk); (try clear hi); have p199 : 0 ≤ (x5_1 : Int) := of_decide_eq_true (by first | (with_reducible assumption) | assumption); have q199 : x5_1 < (l0.length : Int) := of_decide_eq_true (by first | (with_reducible assumption) | assumption); obtain ⟨ad199, A199_1, c199_1, A199_2, c199_2, e199, hx199_0, hx199_1, hx199_2, hx199_3, hl199_1, hi199_1, hl199_2, hi199_2⟩ := at_T52 HR0.out x5_1 p199 q199; obtain rfl : ad196 = ad199 := (by injection e199); replace hx199_0 := (HB.out.cell (World.block_lt_of_cell? w _ hx199_0)).trans hx199_0; replace hx199_1 := (HB.out.cell (World.block_lt_of_cell? w _ hx199_1)).trans hx199_1; replace hx199_2 := (HB.out.cell (World.block_lt_of_cell? w _ hx199_2)).trans hx199_2; replace hx199_3 := (HB.out.cell (World.block_lt_of_cell? w _ hx199_3)).trans hx199_3; have HR199_1 := Aside0.mk hi199_1; have HC199_1 := Aside0.mk hl199_1; clear hi199_1 hl199_1; have HR199_2 := Aside0.mk hi199_2; have HC199_2 := Aside0.mk hl199_2; clear hi199_2 hl199_2; replace p199 := eq_true p199; replace q199 := eq_true q199) | ((with_reducible refine gate_callee (f := 30) rfl ?_); refine goesL_ (some 38) rfl rfl Try.func30 (by kernel_rfl) rfl #[.slice A199_2 ((rd_T52 l0 x5_1).f2).length c199_2, .int .i64 t198] rfl (by (try simp only [List.map_toArray, List.map_cons, List.map_nil]); first | done | rfl | (simp only [List.length_drop, List.length_take]; rfl)) ?_; (with_reducible refine (laws_heldInt64S.calls k1 _ _ ((rd_T52 l0 x5_1).f2) t198 t200 _ ?side1 ?side2 A9.out).mono ?_); (case side1 => repeat (first | exact (Kd.C_below HR199_2.out HB.out) | (with_reducible refine Kd.C_alloc ?_ _) | (with_reducible refine Kd.C_drewN ?_ _) | (with_reducible refine Kd.C_drew ?_))); (case side2 => exact HC199_2.out); rintro e w' ⟨rfl, ⟨nd, rfl⟩⟩; refine ⟨_, rfl, ?_⟩))
                go_ret
                exact ⟨by first | rfl | (simp [errW_none, errW_some] <;> rfl) | (simp [*, errW_none, errW_some] <;> rfl), by repeat (first | (with_reducible first | exact HB.out | apply below_alloc | apply pw_below_drewN | apply below_drew1) | exact HB.out)⟩
              · rw [if_neg c10] at H
                have c10b0 : decide (t200 < 0) = false := decide_eq_false c10
                clear c10
                by_cases c12 : ((rd_T52 l0 x5_1).f3) = t200
                · rw [if_pos c12] at H
                  have c12b0 : (((rd_T52 l0 x5_1).f3) == t200) = true := beq_iff_eq.mpr c12
                  have c12b1 : (((rd_T52 l0 x5_1).f3) != t200) = false := bne_eq_false_iff_eq.mpr c12
                  clear c12
                  have H' := Aside0.mk H
                  clear H
                  have p196 : 0 ≤ (x5_1 : Int) := of_decide_eq_true (by first | (with_reducible assumption) | assumption)
                  have q196 : x5_1 < (l0.length : Int) := of_decide_eq_true (by first | (with_reducible assumption) | assumption)
                  obtain ⟨ad196, A196_1, c196_1, A196_2, c196_2, e196, hx196_0, hx196_1, hx196_2, hx196_3, hl196_1, hi196_1, hl196_2, hi196_2⟩ := at_T52 HR0.out x5_1 p196 q196
                  cases e196
                  replace hx196_0 := (HB.out.cell (World.block_lt_of_cell? w _ hx196_0)).trans hx196_0
                  replace hx196_1 := (HB.out.cell (World.block_lt_of_cell? w _ hx196_1)).trans hx196_1
                  replace hx196_2 := (HB.out.cell (World.block_lt_of_cell? w _ hx196_2)).trans hx196_2
                  replace hx196_3 := (HB.out.cell (World.block_lt_of_cell? w _ hx196_3)).trans hx196_3
                  have HR196_1 := Aside0.mk hi196_1
                  have HC196_1 := Aside0.mk hl196_1
                  clear hi196_1 hl196_1
                  have HR196_2 := Aside0.mk hi196_2
                  have HC196_2 := Aside0.mk hl196_2
                  clear hi196_2 hl196_2
                  replace p196 := eq_true p196
                  replace q196 := eq_true q196
                  have p197 : 0 ≤ (x5_1 : Int) := of_decide_eq_true (by first | (with_reducible assumption) | assumption)
                  have q197 : x5_1 < (l0.length : Int) := of_decide_eq_true (by first | (with_reducible assumption) | assumption)
                  obtain ⟨ad197, A197_1, c197_1, A197_2, c197_2, e197, hx197_0, hx197_1, hx197_2, hx197_3, hl197_1, hi197_1, hl197_2, hi197_2⟩ := at_T52 HR0.out x5_1 p197 q197
                  obtain rfl : ad196 = ad197 := (by injection e197)
                  replace hx197_0 := (HB.out.cell (World.block_lt_of_cell? w _ hx197_0)).trans hx197_0
                  replace hx197_1 := (HB.out.cell (World.block_lt_of_cell? w _ hx197_1)).trans hx197_1
                  replace hx197_2 := (HB.out.cell (World.block_lt_of_cell? w _ hx197_2)).trans hx197_2
                  replace hx197_3 := (HB.out.cell (World.block_lt_of_cell? w _ hx197_3)).trans hx197_3
                  have HR197_1 := Aside0.mk hi197_1
                  have HC197_1 := Aside0.mk hl197_1
                  clear hi197_1 hl197_1
                  have HR197_2 := Aside0.mk hi197_2
                  have HC197_2 := Aside0.mk hl197_2
                  clear hi197_2 hl197_2
                  replace p197 := eq_true p197
                  replace q197 := eq_true q197
                  have ea_ := Option.some.inj (hx196_1.symm.trans hx197_1)
                  injection ea_ with ea_ en_ ec_
                  subst ea_
                  subst ec_
                  clear en_
                  have ea_ := Option.some.inj (hx196_2.symm.trans hx197_2)
                  injection ea_ with ea_ en_ ec_
                  subst ea_
                  subst ec_
                  clear en_
                  go_wp2_with (first | ((with_reducible refine gate_callee (f := 29) rfl ?_); refine goesL_ (some 29) rfl rfl Try.func29 (by kernel_rfl) rfl #[.slice A196_1 ((rd_T52 l0 x5_1).f1).length c196_1, .int .i64 (wrap64 (x1_1 + 1))] rfl (by (try simp only [List.map_toArray, List.map_cons, List.map_nil]); first | done | rfl | (simp only [List.length_drop, List.length_take]; rfl)) ?_; (with_reducible refine (laws_heldStringS.calls k1 _ _ ((rd_T52 l0 x5_1).f1) (wrap64 (x1_1 + 1)) t198 _ ?side1 ?side2 A6.out).mono ?_); (case side1 => repeat (first | exact (Kd.C_below HR197_1.out HB.out) | (with_reducible refine Kd.C_alloc ?_ _) | (with_reducible refine Kd.C_drewN ?_ _) | (with_reducible refine Kd.C_drew ?_))); (case side2 => exact HC197_1.out); rintro e w13 ⟨rfl, hb⟩; refine ⟨_, rfl, ?_⟩; have n0_ := Aside0.mk (below_step (by repeat (first | (with_reducible first | exact HB.out | apply below_alloc | apply pw_below_drewN | apply below_drew1) | exact HB.out)) hb); clear HB; have HB := n0_; clear n0_; (try clear hb); (try clear hb2); (try clear hk); (try clear hi); have p199 : 0 ≤ (x5_1 : Int) := of_decide_eq_true (by first | (with_reducible assumption) | assumption); have q199 : x5_1 < (l0.length : Int) := of_decide_eq_true (by first | (with_reducible assumption) | assumption); obtain ⟨ad199, A199_1, c199_1, A199_2, c199_2, e199, hx199_0, hx199_1, hx199_2, hx199_3, hl199_1, hi199_1, hl199_2, hi199_2⟩ := at_T52 HR0.out x5_1 p199 q199; obtain rfl : ad196 = ad199 := (by injection e199); replace hx199_0 := (HB.out.cell (World.block_lt_of_cell? w _ hx199_0)).trans hx199_0; replace hx199_1 := (HB.out.cell (World.block_lt_of_cell? w _ hx199_1)).trans hx199_1; replace hx199_2 := (HB.out.cell (World.block_lt_of_cell? w _ hx199_2)).trans hx199_2; replace hx199_3 := (HB.out.cell (World.block_lt_of_cell? w _ hx199_3)).trans hx199_3; have HR199_1 := Aside0.mk hi199_1; have HC199_1 := Aside0.mk hl199_1; clear hi199_1 hl199_1; have HR199_2 := Aside0.mk hi199_2; have HC199_2 := Aside0.mk hl199_2; clear hi199_2 hl199_2; replace p199 := eq_true p199; replace q199 := eq_true q199) | ((with_reducible refine gate_callee (f := 30) rfl ?_); refine goesL_ (some 38) rfl rfl Try.func30 (by kernel_rfl) rfl #[.slice A199_2 ((rd_T52 l0 x5_1).f2).length c199_2, .int .i64 t198] rfl (by (try simp only [List.map_toArray, List.map_cons, List.map_nil]); first | done | rfl | (simp only [List.length_drop, List.length_take]; rfl)) ?_; (with_reducible refine (laws_heldInt64S.calls k1 _ _ ((rd_T52 l0 x5_1).f2) t198 t200 _ ?side1 ?side2 A9.out).mono ?_); (case side1 => repeat (first | exact (Kd.C_below HR199_2.out HB.out) | (with_reducible refine Kd.C_alloc ?_ _) | (with_reducible refine Kd.C_drewN ?_ _) | (with_reducible refine Kd.C_drew ?_))); (case side2 => exact HC199_2.out); rintro e w' ⟨rfl, ⟨nd, rfl⟩⟩; refine ⟨_, rfl, ?_⟩; have p201 : 0 ≤ (x5_1 : Int) := of_decide_eq_true (by first | (with_reducible assumption) | assumption); have q201 : x5_1 < (l0.length : Int) := of_decide_eq_true (by first | (with_reducible assumption) | assumption); obtain ⟨ad201, A201_1, c201_1, A201_2, c201_2, e201, hx201_0, hx201_1, hx201_2, hx201_3, hl201_1, hi201_1, hl201_2, hi201_2⟩ := at_T52 HR0.out x5_1 p201 q201; obtain rfl : ad196 = ad201 := (by injection e201); replace hx201_0 := (HB.out.cell (World.block_lt_of_cell? w _ hx201_0)).trans hx201_0; replace hx201_1 := (HB.out.cell (World.block_lt_of_cell? w _ hx201_1)).trans hx201_1; replace hx201_2 := (HB.out.cell (World.block_lt_of_cell? w _ hx201_2)).trans hx201_2; replace hx201_3 := (HB.out.cell (World.block_lt_of_cell? w _ hx201_3)).trans hx201_3; have HR201_1 := Aside0.mk hi201_1; have HC201_1 := Aside0.mk hl201_1; clear hi201_1 hl201_1; have HR201_2 := Aside0.mk hi201_2; have HC201_2 := Aside0.mk hl201_2; clear hi201_2 hl201_2; replace p201 := eq_true p201; replace q201 := eq_true q201; have ea_ := Option.some.inj (hx199_1.symm.trans hx201_1); injection ea_ with ea_ en_ ec_; subst ea_; subst ec_; clear en_; have ea_ := Option.some.inj (hx199_2.symm.trans hx201_2); injection ea_ with ea_ en_ ec_; subst ea_; subst ec_; clear en_))
                  go_roundg k1
                  case measure => have := HK1.out; omega
                  case rel => exact ⟨(wrap64 (t200 + 1)), (wrap64 (x5_1 + 1)), (by first | rfl | (simp; done) | (simp [*]; done)), (by first | rfl | (simp; done) | (simp [*]; done)), H', ⟨by have := HK1.out; omega⟩, ⟨by repeat (first | (with_reducible first | exact HB.out | apply below_alloc | apply pw_below_drewN | apply below_drew1) | exact HB.out)⟩⟩
                · rw [if_neg c12] at H
                  have c12b0 : (((rd_T52 l0 x5_1).f3) == t200) = false := beq_eq_false_iff_ne.mpr c12
                  have c12b1 : (((rd_T52 l0 x5_1).f3) != t200) = true := bne_iff_ne.mpr c12
                  obtain rfl := Option.some.inj H
                  have p196 : 0 ≤ (x5_1 : Int) := of_decide_eq_true (by first | (with_reducible assumption) | assumption)
                  have q196 : x5_1 < (l0.length : Int) := of_decide_eq_true (by first | (with_reducible assumption) | assumption)
                  obtain ⟨ad196, A196_1, c196_1, A196_2, c196_2, e196, hx196_0, hx196_1, hx196_2, hx196_3, hl196_1, hi196_1, hl196_2, hi196_2⟩ := at_T52 HR0.out x5_1 p196 q196
                  cases e196
                  replace hx196_0 := (HB.out.cell (World.block_lt_of_cell? w _ hx196_0)).trans hx196_0
                  replace hx196_1 := (HB.out.cell (World.block_lt_of_cell? w _ hx196_1)).trans hx196_1
                  replace hx196_2 := (HB.out.cell (World.block_lt_of_cell? w _ hx196_2)).trans hx196_2
                  replace hx196_3 := (HB.out.cell (World.block_lt_of_cell? w _ hx196_3)).trans hx196_3
                  have HR196_1 := Aside0.mk hi196_1
                  have HC196_1 := Aside0.mk hl196_1
                  clear hi196_1 hl196_1
                  have HR196_2 := Aside0.mk hi196_2
                  have HC196_2 := Aside0.mk hl196_2
                  clear hi196_2 hl196_2
                  replace p196 := eq_true p196
                  replace q196 := eq_true q196
                  have p197 : 0 ≤ (x5_1 : Int) := of_decide_eq_true (by first | (with_reducible assumption) | assumption)
                  have q197 : x5_1 < (l0.length : Int) := of_decide_eq_true (by first | (with_reducible assumption) | assumption)
                  obtain ⟨ad197, A197_1, c197_1, A197_2, c197_2, e197, hx197_0, hx197_1, hx197_2, hx197_3, hl197_1, hi197_1, hl197_2, hi197_2⟩ := at_T52 HR0.out x5_1 p197 q197
                  obtain rfl : ad196 = ad197 := (by injection e197)
                  replace hx197_0 := (HB.out.cell (World.block_lt_of_cell? w _ hx197_0)).trans hx197_0
                  replace hx197_1 := (HB.out.cell (World.block_lt_of_cell? w _ hx197_1)).trans hx197_1
                  replace hx197_2 := (HB.out.cell (World.block_lt_of_cell? w _ hx197_2)).trans hx197_2
                  replace hx197_3 := (HB.out.cell (World.block_lt_of_cell? w _ hx197_3)).trans hx197_3
                  have HR197_1 := Aside0.mk hi197_1
                  have HC197_1 := Aside0.mk hl197_1
                  clear hi197_1 hl197_1
                  have HR197_2 := Aside0.mk hi197_2
                  have HC197_2 := Aside0.mk hl197_2
                  clear hi197_2 hl197_2
                  replace p197 := eq_true p197
                  replace q197 := eq_true q197
                  have ea_ := Option.some.inj (hx196_1.symm.trans hx197_1)
                  injection ea_ with ea_ en_ ec_
                  subst ea_
                  subst ec_
                  clear en_
                  have ea_ := Option.some.inj (hx196_2.symm.trans hx197_2)
                  injection ea_ with ea_ en_ ec_
                  subst ea_
                  subst ec_
                  clear en_
                  go_wp2_with (first | ((with_reducible refine gate_callee (f := 29) rfl ?_); refine goesL_ (some 29) rfl rfl Try.func29 (by kernel_rfl) rfl #[.slice A196_1 ((rd_T52 l0 x5_1).f1).length c196_1, .int .i64 (wrap64 (x1_1 + 1))] rfl (by (try simp only [List.map_toArray, List.map_cons, List.map_nil]); first | done | rfl | (simp only [List.length_drop, List.length_take]; rfl)) ?_; (with_reducible refine (laws_heldStringS.calls k1 _ _ ((rd_T52 l0 x5_1).f1) (wrap64 (x1_1 + 1)) t198 _ ?side1 ?side2 A6.out).mono ?_); (case side1 => repeat (first | exact (Kd.C_below HR197_1.out HB.out) | (with_reducible refine Kd.C_alloc ?_ _) | (with_reducible refine Kd.C_drewN ?_ _) | (with_reducible refine Kd.C_drew ?_))); (case side2 => exact HC197_1.out); rintro e w14 ⟨rfl, hb⟩; refine ⟨_, rfl, ?_⟩; have n0_ := Aside0.mk (below_step (by repeat (first | (with_reducible first | exact HB.out | apply below_alloc | apply pw_below_drewN | apply below_drew1) | exact HB.out)) hb); clear HB; have HB := n0_; clear n0_; (try clear hb); (try clear hb2); (try clear hk); (try clear hi); have p199 : 0 ≤ (x5_1 : Int) := of_decide_eq_true (by first | (with_reducible assumption) | assumption); have q199 : x5_1 < (l0.length : Int) := of_decide_eq_true (by first | (with_reducible assumption) | assumption); obtain ⟨ad199, A199_1, c199_1, A199_2, c199_2, e199, hx199_0, hx199_1, hx199_2, hx199_3, hl199_1, hi199_1, hl199_2, hi199_2⟩ := at_T52 HR0.out x5_1 p199 q199; obtain rfl : ad196 = ad199 := (by injection e199); replace hx199_0 := (HB.out.cell (World.block_lt_of_cell? w _ hx199_0)).trans hx199_0; replace hx199_1 := (HB.out.cell (World.block_lt_of_cell? w _ hx199_1)).trans hx199_1; replace hx199_2 := (HB.out.cell (World.block_lt_of_cell? w _ hx199_2)).trans hx199_2; replace hx199_3 := (HB.out.cell (World.block_lt_of_cell? w _ hx199_3)).trans hx199_3; have HR199_1 := Aside0.mk hi199_1; have HC199_1 := Aside0.mk hl199_1; clear hi199_1 hl199_1; have HR199_2 := Aside0.mk hi199_2; have HC199_2 := Aside0.mk hl199_2; clear hi199_2 hl199_2; replace p199 := eq_true p199; replace q199 := eq_true q199) | ((with_reducible refine gate_callee (f := 30) rfl ?_); refine goesL_ (some 38) rfl rfl Try.func30 (by kernel_rfl) rfl #[.slice A199_2 ((rd_T52 l0 x5_1).f2).length c199_2, .int .i64 t198] rfl (by (try simp only [List.map_toArray, List.map_cons, List.map_nil]); first | done | rfl | (simp only [List.length_drop, List.length_take]; rfl)) ?_; (with_reducible refine (laws_heldInt64S.calls k1 _ _ ((rd_T52 l0 x5_1).f2) t198 t200 _ ?side1 ?side2 A9.out).mono ?_); (case side1 => repeat (first | exact (Kd.C_below HR199_2.out HB.out) | (with_reducible refine Kd.C_alloc ?_ _) | (with_reducible refine Kd.C_drewN ?_ _) | (with_reducible refine Kd.C_drew ?_))); (case side2 => exact HC199_2.out); rintro e w' ⟨rfl, ⟨nd, rfl⟩⟩; refine ⟨_, rfl, ?_⟩; have p201 : 0 ≤ (x5_1 : Int) := of_decide_eq_true (by first | (with_reducible assumption) | assumption); have q201 : x5_1 < (l0.length : Int) := of_decide_eq_true (by first | (with_reducible assumption) | assumption); obtain ⟨ad201, A201_1, c201_1, A201_2, c201_2, e201, hx201_0, hx201_1, hx201_2, hx201_3, hl201_1, hi201_1, hl201_2, hi201_2⟩ := at_T52 HR0.out x5_1 p201 q201; obtain rfl : ad196 = ad201 := (by injection e201); replace hx201_0 := (HB.out.cell (World.block_lt_of_cell? w _ hx201_0)).trans hx201_0; replace hx201_1 := (HB.out.cell (World.block_lt_of_cell? w _ hx201_1)).trans hx201_1; replace hx201_2 := (HB.out.cell (World.block_lt_of_cell? w _ hx201_2)).trans hx201_2; replace hx201_3 := (HB.out.cell (World.block_lt_of_cell? w _ hx201_3)).trans hx201_3; have HR201_1 := Aside0.mk hi201_1; have HC201_1 := Aside0.mk hl201_1; clear hi201_1 hl201_1; have HR201_2 := Aside0.mk hi201_2; have HC201_2 := Aside0.mk hl201_2; clear hi201_2 hl201_2; replace p201 := eq_true p201; replace q201 := eq_true q201; have ea_ := Option.some.inj (hx199_1.symm.trans hx201_1); injection ea_ with ea_ en_ ec_; subst ea_; subst ec_; clear en_; have ea_ := Option.some.inj (hx199_2.symm.trans hx201_2); injection ea_ with ea_ en_ ec_; subst ea_; subst ec_; clear en_))
                  go_ret
                  exact ⟨by first | rfl | (simp [errW_none, errW_some] <;> rfl) | (simp [*, errW_none, errW_some] <;> rfl), by repeat (first | (with_reducible first | exact HB.out | apply below_alloc | apply pw_below_drewN | apply below_drew1) | exact HB.out)⟩
        · rw [if_neg c4] at H
          exact absurd H (by simp)
      · rw [if_neg c3] at H
        have c3b0 : decide (x5_1 < (l0.length : Int)) = false := decide_eq_false c3
        clear c3
        obtain rfl := Option.some.inj H
        go_wp2
        go_ret
        exact ⟨by first | rfl | (simp [errW_none, errW_some] <;> rfl) | (simp [*, errW_none, errW_some] <;> rfl), by repeat (first | (with_reducible first | exact HB.out | apply below_alloc | apply pw_below_drewN | apply below_drew1) | exact HB.out)⟩

/-! ### laws_heldTree: function 9 -/
def laws_heldTree.f (k : Nat) (l0_0 : List (S52)) (a1 : Int) : Option (Int) := (laws_heldTNodeS.f k l0_0 a1).bind fun t203 => (if t203 < 0 then (some (-1)) else (some t203))
theorem laws_heldTree.mono : ∀ a0 a1 k, LeO (laws_heldTree.f k a0 a1) (laws_heldTree.f (k + 1) a0 a1) := by
  intro a0 a1 k
  unfold laws_heldTree.f
  repeat' first
      | (with_reducible exact laws_heldTNodeS.mono _ _ _)
      | (with_reducible exact LeO.refl _)
      | (with_reducible exact LeO.none _)
      | (with_reducible refine LeO.ite ?_ ?_)
      | (with_reducible refine LeO.bind ?_ (fun _ => ?_))
      | exact laws_heldTNodeS.mono _ _ _
      | exact LeO.none _
      | refine LeO.ite ?_ ?_
      | refine LeO.bind ?_ (fun _ => ?_)
set_option maxHeartbeats 8000000 in
set_option maxRecDepth 100000 in
theorem laws_heldTree.calls (k : Nat) (A0_0 : Option Addr) (c0_0 : Nat) (l0_0 : List (S52)) (a1 : Int) (r : Int) (w : World) (hr0_0 : Kd.C k52 w A0_0 l0_0.length l0_0) (hc0_0 : l0_0.length ≤ c0_0) (h : laws_heldTree.f k l0_0 a1 = some r) :
    Calls Try.prog 9 #[.agg #[.slice A0_0 l0_0.length c0_0], .int .i64 a1] w fun e w' => e = .returned (.int .i64 r) ∧ Below w.heap.size w w' := by
  have hu24 := Try.underlying24
  have HR0_0 := Aside0.mk hr0_0
  have HC0_0 := Aside0.mk hc0_0
  clear hr0_0 hc0_0
  have HB := Aside0.mk (Below.refl w.heap.size w)
  have H : ((laws_heldTNodeS.f k l0_0 a1).bind fun t203 => (if t203 < 0 then (some (-1)) else (some t203))) = some r := h
  clear h
  replace H := Option.bind_eq_some_iff.mp H
  obtain ⟨t203, A30, H⟩ := H
  replace H : (if t203 < 0 then (some (-1)) else (some t203)) = some r := H
  have A3 := Aside0.mk A30
  clear A30
  by_cases c4 : t203 < 0
  · rw [if_pos c4] at H
    have c4b0 : decide (t203 < 0) = true := decide_eq_true c4
    clear c4
    obtain rfl := Option.some.inj H
    go_enter Try.func9, Try.ntmps9
    go_wp2_with (first | ((with_reducible refine gate_dst (N := 2) rfl ?_); refine box_event ?hg (N := 2) ?hd (cs := #[.slice A0_0 l0_0.length c0_0]) (t := 24) ?hr ?_; (case hd => rfl); (case hg => rfl); (case hr => first | (go_simp; done) | (go_simp; rfl)); intro gb202 hg w5 hbox hb; have n0_ := Aside0.mk (below_step (by repeat (first | (with_reducible first | exact HB.out | apply below_alloc | apply pw_below_drewN | apply below_drew1) | exact HB.out)) hb); have n1_ := Aside0.mk (hbox); have n2_ := Aside0.mk ((by rw [hg]; exact (below_size (by repeat (first | (with_reducible first | exact HB.out | apply below_alloc | apply pw_below_drewN | apply below_drew1) | exact HB.out))) : w.heap.size ≤ gb202)); have n3_ := Aside0.mk ((by rw [hg]; exact (below_size (by repeat (first | (with_reducible first | exact HB.out | apply below_alloc | apply pw_below_drewN | apply below_drew1) | exact HB.out))) : w.heap.size ≤ gb202)); clear HB; have HB := n0_; have BK202 := n1_; have GW202 := n2_; have GE202 := n3_; clear n0_ n1_ n2_ n3_; clear hb hbox hg; have hcz6_0 : w5.cell? ⟨gb202, 0, none⟩ = some (.slice A0_0 l0_0.length c0_0) := (blk_cell BK202.out 0).trans rfl; have hfz6_0 := blk_frozen BK202.out 0) | ((with_reducible refine gate_callee (f := 20) rfl ?_); refine goesL_ (some 8) rfl rfl Try.func20 (by kernel_rfl) rfl #[.slice A0_0 l0_0.length c0_0, .int .i64 a1] rfl (by (try simp only [List.map_toArray, List.map_cons, List.map_nil]); first | done | rfl | (simp only [List.length_drop, List.length_take]; rfl)) ?_; (with_reducible refine (laws_heldTNodeS.calls k _ _ l0_0 a1 t203 _ ?side1 ?side2 A3.out).mono ?_); (case side1 => repeat (first | exact (Kd.C_below HR0_0.out HB.out) | (with_reducible refine Kd.C_alloc ?_ _) | (with_reducible refine Kd.C_drewN ?_ _) | (with_reducible refine Kd.C_drew ?_))); (case side2 => exact HC0_0.out); rintro e w7 ⟨rfl, hb⟩; refine ⟨_, rfl, ?_⟩; have n0_ := Aside0.mk (blk_below (g := gb202) (o := .cells #[.slice A0_0 l0_0.length c0_0] 24 (0, 0)) (by (with_reducible repeat (first | refine blk_drewN ?_ _ | refine blk_drew ?_ | refine blk_alloc ?_ _)); exact BK202.out) hb); have n1_ := Aside0.mk (below_step (by repeat (first | (with_reducible first | exact HB.out | apply below_alloc | apply pw_below_drewN | apply below_drew1 | refine below_set ?_ GE202.out) | exact HB.out)) hb); clear BK202; clear HB; have BK202 := n0_; have HB := n1_; clear n0_ n1_; (try clear hb); (try clear hb2); (try clear hk); (try clear hi)))
    go_ret
    exact ⟨by first | rfl | (simp [errW_none, errW_some] <;> rfl) | (simp [*, errW_none, errW_some] <;> rfl), by repeat (first | (with_reducible first | exact HB.out | apply below_alloc | apply pw_below_drewN | apply below_drew1 | refine below_set ?_ GE202.out) | exact HB.out)⟩
  · rw [if_neg c4] at H
    have c4b0 : decide (t203 < 0) = false := decide_eq_false c4
    clear c4
    obtain rfl := Option.some.inj H
    go_enter Try.func9, Try.ntmps9
    go_wp2_with (first | ((with_reducible refine gate_dst (N := 2) rfl ?_); refine box_event ?hg (N := 2) ?hd (cs := #[.slice A0_0 l0_0.length c0_0]) (t := 24) ?hr ?_; (case hd => rfl); (case hg => rfl); (case hr => first | (go_simp; done) | (go_simp; rfl)); intro gb202 hg w8 hbox hb; have n0_ := Aside0.mk (below_step (by repeat (first | (with_reducible first | exact HB.out | apply below_alloc | apply pw_below_drewN | apply below_drew1) | exact HB.out)) hb); have n1_ := Aside0.mk (hbox); have n2_ := Aside0.mk ((by rw [hg]; exact (below_size (by repeat (first | (with_reducible first | exact HB.out | apply below_alloc | apply pw_below_drewN | apply below_drew1) | exact HB.out))) : w.heap.size ≤ gb202)); have n3_ := Aside0.mk ((by rw [hg]; exact (below_size (by repeat (first | (with_reducible first | exact HB.out | apply below_alloc | apply pw_below_drewN | apply below_drew1) | exact HB.out))) : w.heap.size ≤ gb202)); clear HB; have HB := n0_; have BK202 := n1_; have GW202 := n2_; have GE202 := n3_; clear n0_ n1_ n2_ n3_; clear hb hbox hg; have hcz9_0 : w8.cell? ⟨gb202, 0, none⟩ = some (.slice A0_0 l0_0.length c0_0) := (blk_cell BK202.out 0).trans rfl; have hfz9_0 := blk_frozen BK202.out 0) | ((with_reducible refine gate_callee (f := 20) rfl ?_); refine goesL_ (some 8) rfl rfl Try.func20 (by kernel_rfl) rfl #[.slice A0_0 l0_0.length c0_0, .int .i64 a1] rfl (by (try simp only [List.map_toArray, List.map_cons, List.map_nil]); first | done | rfl | (simp only [List.length_drop, List.length_take]; rfl)) ?_; (with_reducible refine (laws_heldTNodeS.calls k _ _ l0_0 a1 t203 _ ?side1 ?side2 A3.out).mono ?_); (case side1 => repeat (first | exact (Kd.C_below HR0_0.out HB.out) | (with_reducible refine Kd.C_alloc ?_ _) | (with_reducible refine Kd.C_drewN ?_ _) | (with_reducible refine Kd.C_drew ?_))); (case side2 => exact HC0_0.out); rintro e w10 ⟨rfl, hb⟩; refine ⟨_, rfl, ?_⟩; have n0_ := Aside0.mk (blk_below (g := gb202) (o := .cells #[.slice A0_0 l0_0.length c0_0] 24 (0, 0)) (by (with_reducible repeat (first | refine blk_drewN ?_ _ | refine blk_drew ?_ | refine blk_alloc ?_ _)); exact BK202.out) hb); have n1_ := Aside0.mk (below_step (by repeat (first | (with_reducible first | exact HB.out | apply below_alloc | apply pw_below_drewN | apply below_drew1 | refine below_set ?_ GE202.out) | exact HB.out)) hb); clear BK202; clear HB; have BK202 := n0_; have HB := n1_; clear n0_ n1_; (try clear hb); (try clear hb2); (try clear hk); (try clear hi)))
    go_ret
    exact ⟨by first | rfl | (simp [errW_none, errW_some] <;> rfl) | (simp [*, errW_none, errW_some] <;> rfl), by repeat (first | (with_reducible first | exact HB.out | apply below_alloc | apply pw_below_drewN | apply below_drew1 | refine below_set ?_ GE202.out) | exact HB.out)⟩

/-! ### L_n1: a text by hand -/
/-- A row of one node without keys and kids, in a block of its own. -/
def N1 (w : World) (lo : Nat) (v : Value) (b : Bool) (n : Int) : Prop :=
  ∃ (g c : Nat) (cs : Array Value), v = .slice (some ⟨g, 0, none⟩) 1 c ∧ 1 ≤ c ∧ lo ≤ g ∧ w.heap[g]? = some (.cells cs 52 (0, 0)) ∧ cs[0]? = some (.bool b) ∧ cs[1]? = some (.slice none 0 0) ∧ cs[2]? = some (.slice none 0 0) ∧ cs[3]? = some (.int .i64 n)
section
variable {w w1 : World} {lo : Nat} {v : Value} {b : Bool} {n : Int}
theorem N1.below (h : N1 w lo v b n) (hb : Below w.heap.size w w1) : N1 w1 lo v b n := by
  obtain ⟨g, c, cs, h0, h1, h2, h3, h4⟩ := h
  exact ⟨g, c, cs, h0, h1, h2, blk_below h3 hb, h4⟩
theorem C1_of_cells {A1 A2 : Option Addr} {c1 c2 : Nat} (ad : Addr) (h0 : w.cell? (ad.add 0) = some (.bool b)) (h1 : w.cell? (ad.add 1) = some (.slice A1 0 c1)) (h2 : w.cell? (ad.add 2) = some (.slice A2 0 c2)) (h3 : w.cell? (ad.add 3) = some (.int .i64 n)) :
    Kd.C k52 w (some ad) 1 [⟨b, [], [], n⟩] := by
  refine ⟨rfl, (by show 1 ≤ 9223372036854775807; omega), fun _ => ⟨ad, rfl, fun j p hj => ?_⟩⟩
  cases j with
  | succ j => simp at hj
  | zero =>
    have e : p = ⟨b, [], [], n⟩ := by simpa using hj.symm
    subst e
    refine ⟨[.bool b, .slice A1 0 c1, .slice A2 0 c2, .int .i64 n], rfl, k52_mk w ⟨b, [], [], n⟩ (Nat.zero_le _) ⟨rfl, Nat.zero_le _, fun h => absurd h (Nat.lt_irrefl 0)⟩ (Nat.zero_le _) ⟨rfl, Nat.zero_le _, fun h => absurd h (Nat.lt_irrefl 0)⟩, fun i u hu => ?_⟩
    match i, hu with
    | 0, hu => cases hu; exact h0
    | 1, hu => cases hu; exact h1
    | 2, hu => cases hu; exact h2
    | 3, hu => cases hu; exact h3
    | i + 4, hu => simp at hu
theorem N1.C (h : N1 w lo v b n) : ∃ A c, v = .slice A 1 c ∧ 1 ≤ c ∧ Kd.C k52 w A 1 [⟨b, [], [], n⟩] := by
  obtain ⟨g, c, cs, h0, h1, h2, h3, h4, h5, h6, h7⟩ := h
  have hc : ∀ i u, cs[i]? = some u → w.cell? (Addr.add ⟨g, 0, none⟩ i) = some u := fun i u hu => by rw [add_plain]; exact (blk_cell h3 i).trans hu
  exact ⟨_, c, h0, h1, C1_of_cells _ (hc 0 _ h4) (hc 1 _ h5) (hc 2 _ h6) (hc 3 _ h7)⟩
/-- The same where the lists are empty, not nil. -/
def M1 (w : World) (lo : Nat) (v : Value) (b : Bool) (n : Int) : Prop :=
  ∃ (g c : Nat) (cs : Array Value) (A1 : Option Addr) (c1 : Nat) (A2 : Option Addr) (c2 : Nat), v = .slice (some ⟨g, 0, none⟩) 1 c ∧ 1 ≤ c ∧ lo ≤ g ∧ w.heap[g]? = some (.cells cs 52 (0, 0)) ∧ cs[0]? = some (.bool b) ∧ cs[1]? = some (.slice A1 0 c1) ∧ cs[2]? = some (.slice A2 0 c2) ∧ cs[3]? = some (.int .i64 n)
theorem N1.m (h : N1 w lo v b n) : M1 w lo v b n := by
  obtain ⟨g, c, cs, h0, h1, h2, h3, h4, h5, h6, h7⟩ := h
  exact ⟨g, c, cs, none, 0, none, 0, h0, h1, h2, h3, h4, h5, h6, h7⟩
theorem M1.C (h : M1 w lo v b n) : ∃ A c, v = .slice A 1 c ∧ 1 ≤ c ∧ Kd.C k52 w A 1 [⟨b, [], [], n⟩] := by
  obtain ⟨g, c, cs, A1, c1, A2, c2, h0, h1, h2, h3, h4, h5, h6, h7⟩ := h
  have hc : ∀ i u, cs[i]? = some u → w.cell? (Addr.add ⟨g, 0, none⟩ i) = some u := fun i u hu => by rw [add_plain]; exact (blk_cell h3 i).trans hu
  exact ⟨_, c, h0, h1, C1_of_cells _ (hc 0 _ h4) (hc 1 _ h5) (hc 2 _ h6) (hc 3 _ h7)⟩
theorem M1.move (h : M1 w lo v b n) (hm : ∀ k, lo ≤ k → k < w.heap.size → w1.heap[k]? = w.heap[k]?) : M1 w1 lo v b n := by
  obtain ⟨g, c, cs, A1, c1, A2, c2, h0, h1, h2, h3, h4⟩ := h
  exact ⟨g, c, cs, A1, c1, A2, c2, h0, h1, h2, (hm g h2 (blk_lt h3)).trans h3, h4⟩
theorem N1.move (h : N1 w lo v b n) (hm : ∀ k, lo ≤ k → k < w.heap.size → w1.heap[k]? = w.heap[k]?) : N1 w1 lo v b n := by
  obtain ⟨g, c, cs, h0, h1, h2, h3, h4⟩ := h
  exact ⟨g, c, cs, h0, h1, h2, (hm g h2 (blk_lt h3)).trans h3, h4⟩
theorem M1.below (h : M1 w lo v b n) (hb : Below w.heap.size w w1) : M1 w1 lo v b n := h.move (fun k _ hk => hb.block k hk)
theorem M1.lower {lo' : Nat} (h : M1 w lo v b n) (hl : lo' ≤ lo) : M1 w lo' v b n := by
  obtain ⟨g, c, cs, A1, c1, A2, c2, h0, h1, h2, h3, h4⟩ := h
  exact ⟨g, c, cs, A1, c1, A2, c2, h0, h1, Nat.le_trans hl h2, h3, h4⟩
end

/-! ### impl_tree: a text by hand -/
-- import Derived.StillTailTactics
-- import Derived.WalkSpells
theorem newLeaf_nil (w : World) : Calls Try.prog 17 #[.slice none 0 0] w fun e w' => ∃ g, e = .returned (.pointer (some ⟨g, 0, none⟩)) ∧ w'.heap[g]? = some (.cells #[.int .i64 0, .slice none 0 0] 59 (0, 0)) ∧ w.heap.size ≤ g ∧ Below w.heap.size w w' := by
  have HB := Aside0.mk (Below.refl w.heap.size w)
  have hu57 := Try.underlying57
  have hu59 := Try.underlying59
  go_enter Try.func17, Try.ntmps17
  go_wp2_with fail
  go_ret
  exact ⟨_, rfl, blk_new _ _, Nat.le_refl _, below_alloc HB.out _⟩
theorem clone_nil (w : World) : Calls Try.prog 25 #[.slice none 0 0] w fun e w' => e = .returned (.slice none 0 0) ∧ w' = w := by
  have q27 : ∀ (w : World) (a : Option Addr) (n c n' c' : Nat), (binOp .eql 36 (.slice a n c) (.slice none n' c')).run Try.prog w = .ok (.bool a.isNone) w := fun w a n c n' c' => Lib.run_eql_slice_nil w _ _ a n c n' c' Try.underlying36
  go_enter Try.func25, Try.ntmps25
  go_wp2_with fail
  go_ret
  exact ⟨rfl, rfl⟩
theorem as_leaf (v : Value) (w : World) : (Instr.typeAssert (.iface 41 v) 54 41 true).run Try.prog w = .ok (.tuple #[v, .bool true]) w := by kernel_rfl
theorem N1.made (w : World) (o : Obj) (zs : Array Value) (b : Bool) (n : Int) (cap : Nat) (h : 1 ≤ cap) : N1 ((w.alloc o).alloc (.cells (#[.bool b, .slice none 0 0, .slice none 0 0, .int .i64 n] ++ zs) 52)).drew.drew w.heap.size (.slice (some ⟨w.heap.size + 1, 0, none⟩) 1 cap) b n := by
  have hb := blk_new (w.alloc o) (.cells (#[.bool b, .slice none 0 0, .slice none 0 0, .int .i64 n] ++ zs) 52)
  simp only [World.size_alloc] at hb
  refine ⟨_, cap, _, rfl, h, by omega, blk_drew (blk_drew hb), ?_, ?_, ?_, ?_⟩ <;> simp [Array.getElem?_append]
theorem cut_ge (m c t : Nat) (x : Nat) : m ≤ (Question.appendCap m c t).cut x := by
  simp [Question.cut]
set_option maxHeartbeats 2000000 in
theorem lay_leaf (g : Nat) (w : World) (hg : w.heap[g]? = some (.cells #[.int .i64 0, .slice none 0 0] 59 (0, 0))) :
    Calls Try.prog 16 #[.slice none 0 0, .iface 41 (.pointer (some ⟨g, 0, none⟩))] w fun e w' => ∃ v, e = .returned v ∧ N1 w' w.heap.size v true 0 ∧ Below w.heap.size w w' := by
  have HG := Aside0.mk hg
  have HB := Aside0.mk (Below.refl w.heap.size w)
  have hu57 := Try.underlying57
  have hu59 := Try.underlying59
  have hu52 := Try.underlying52
  clear hg
  have has := as_leaf (.pointer (some ⟨g, 0, none⟩))
  go_enter Try.func16, Try.ntmps16
  go_wp2_with fail
  have s0 : w.cell? ⟨g, 0, none⟩ = some (.int .i64 0) := (blk_cell HG.out 0).trans rfl
  have s1 : w.cell? ⟨g, 1, none⟩ = some (.slice none 0 0) := (blk_cell HG.out 1).trans rfl
  go_region_with (go_at_call 25; refine (clone_nil _).mono ?_; rintro e w2 ⟨rfl, rfl⟩)
  all_goals
    go_wp2_with fail
    go_ret
    refine ⟨_, rfl, N1.made w _ _ true 0 _ ?_, below_drew1 (below_drew1 (below_alloc (below_alloc HB.out _) _))⟩
    exact cut_ge _ _ _ _
set_option maxHeartbeats 2000000 in
theorem impl_TreeNew.calls (w : World) : Calls Try.prog 6 #[] w fun e w' => ∃ v, e = .returned (.agg #[v]) ∧ N1 w' w.heap.size v true 0 ∧ Below w.heap.size w w' := by
  have HB := Aside0.mk (below_alloc (Below.refl w.heap.size w) (.cells #[.slice none 0 0] 24))
  have K0 := Aside0.mk (blk_new w (.cells #[.slice none 0 0] 24))
  have hu24 := Try.underlying24
  go_enter Try.func6, Try.ntmps6
  go_wp2_with fail
  refine (newLeaf_nil _).mono ?_
  rintro e w2 ⟨g, rfl, hg, hlt, hb⟩
  replace K0 := Aside0.mk (blk_below K0.out hb)
  replace HB := Aside0.mk (below_step HB.out hb)
  go_wp2_with fail
  refine (lay_leaf g w2 hg).mono ?_
  rintro e w3 ⟨v, rfl, ⟨g1, c1, cs, rfl, h1, h2, h3, h4⟩, hb3⟩
  have hl0 := blk_lt K0.out
  replace K0 := Aside0.mk (blk_below K0.out hb3)
  replace HB := Aside0.mk (below_step HB.out hb3)
  have hk0 := blk_cell K0.out 0
  have hf0 := blk_frozen K0.out 0
  have hk1 : w3.cell? ⟨w.heap.size, 0, none⟩ = some (.slice none 0 0) := hk0.trans rfl
  have H3 := Aside0.mk h3
  have H4 := Aside0.mk h4
  clear h3 h4
  go_wp2_with fail
  refine bodyPost_ret (results_cell_row rfl _ _ w.heap.size 24 #[.slice (some ⟨g1, 0, none⟩) 1 c1] (0, 0) _ rfl (blk_put (cs := #[.slice none 0 0]) K0.out 0 _ rfl) hu24 rfl (by kernel_rfl)) rfl ?_
  have hne : g1 ≠ w.heap.size := by have := HB.out.size; have := hb.size; omega
  refine ⟨_, rfl, ⟨g1, c1, cs, rfl, h1, by have := hb.size; omega, ?_, H4.out⟩, below_set HB.out (Nat.le_refl _)⟩
  exact (Below.heap_setCell w3 ⟨w.heap.size, 0, none⟩ _ g1 hne).trans H3.out

/-! ### laws_mark1: a text by hand -/
theorem markS_nil (k : Int) (w : World) : Calls Try.prog 27 #[.slice none 0 0, .int .i64 k] w fun e w' => e = .returned (.int .i64 k) ∧ Below w.heap.size w w' := by
  refine (laws_markStringS.calls 1 (fun _ => False) (.slice none 0 0) [] k k [] w w (Below.refl _ _) (Kd.R_nil _ _ _ _ _) (by simp [laws_markStringS.f, laws_markStringS.l0])).mono ?_
  rintro e w' ⟨rfl, _, hb, _⟩
  exact ⟨rfl, hb⟩
theorem markI_nil (k : Int) (w : World) : Calls Try.prog 28 #[.slice none 0 0, .int .i64 k] w fun e w' => e = .returned (.int .i64 k) ∧ Below w.heap.size w w' := by
  refine (laws_markInt64S.calls 1 (fun _ => False) (.slice none 0 0) [] k k [] w w (Below.refl _ _) (Kd.R_nil _ _ _ _ _) (by simp [laws_markInt64S.f, laws_markInt64S.l0])).mono ?_
  rintro e w' ⟨rfl, _, hb, _⟩
  exact ⟨rfl, hb⟩
/-- The world after a mark: block g alone has changed among the old ones. -/
def Mk (base g : Nat) (w w' : World) : Prop := w.heap.size ≤ w'.heap.size ∧ (∀ j, j < w.heap.size → j ≠ g → w'.heap[j]? = w.heap[j]?) ∧ ∀ w0 : World, w0.heap.size = base → Below base w0 w → Below base w0 w'
theorem Mk.refl {base g : Nat} (w : World) (hg : base ≤ g) : base ≤ g ∧ Mk base g w w := ⟨hg, Nat.le_refl _, fun _ _ _ => rfl, fun _ _ h => h⟩
theorem Mk.set {base g : Nat} {w w1 : World} (h : base ≤ g ∧ Mk base g w w1) (j : Nat) (u : Value) : base ≤ g ∧ Mk base g w (w1.setCell ⟨g, j, none⟩ u) :=
  ⟨h.1, by simpa [World.setCell] using h.2.1, fun i hi hne => (Below.heap_setCell w1 ⟨g, j, none⟩ u i hne).trans (h.2.2.1 i hi hne), fun w0 h0 hb => by subst h0; exact below_set (h.2.2.2 w0 rfl hb) h.1⟩
theorem Mk.below {base g : Nat} {w w1 w2 : World} (h : base ≤ g ∧ Mk base g w w1) (hb : Below w1.heap.size w1 w2) : base ≤ g ∧ Mk base g w w2 :=
  ⟨h.1, Nat.le_trans h.2.1 hb.size, fun i hi hne => (hb.block i (Nat.lt_of_lt_of_le hi h.2.1)).trans (h.2.2.1 i hi hne), fun w0 h0 hB => by subst h0; exact below_step (h.2.2.2 w0 rfl hB) hb⟩
set_option maxHeartbeats 2000000 in
theorem markT1 (base g c : Nat) (k : Int) (cs : Array Value) (w : World) (hk0 : 0 ≤ k) (hk1 : k ≤ 100000) (hbg : base ≤ g) (h3 : w.heap[g]? = some (.cells cs 52 (0, 0))) (b : Bool) (n : Int) (h4 : cs[0]? = some (.bool b)) (h5 : cs[1]? = some (.slice none 0 0)) (h6 : cs[2]? = some (.slice none 0 0)) (h7 : cs[3]? = some (.int .i64 n)) :
    Calls Try.prog 19 #[.slice (some ⟨g, 0, none⟩) 1 c, .int .i64 k] w fun e w' => e = .returned (.int .i64 (k + 2)) ∧ (∃ cs', w'.heap[g]? = some (.cells cs' 52 (0, 0)) ∧ cs'[0]? = some (.bool (Int.tmod k 3 == 0)) ∧ cs'[1]? = some (.slice none 0 0) ∧ cs'[2]? = some (.slice none 0 0) ∧ cs'[3]? = some (.int .i64 (k + 1))) ∧ Mk base g w w' := by
  have e1 : wrap64 (k + 1) = k + 1 := by unfold wrap64; omega
  have e2 : wrap64 (k + 1 + 1) = k + 2 := by unfold wrap64; omega
  have H3 := Aside0.mk h3
  have H4 := Aside0.mk h4
  have H5 := Aside0.mk h5
  have H6 := Aside0.mk h6
  have H7 := Aside0.mk h7
  clear h3 h4 h5 h6 h7 hk0 hk1
  have hu52 := Try.underlying52
  go_enter Try.func19, Try.ntmps19
  go_wp2_with fail
  go_loopg [1, 5] 1 (fun kq v1 v5 w' => (kq = 1 ∧ v1 = .int .i64 k ∧ v5 = .int .i64 0 ∧ w' = w) ∨ (kq = 0 ∧ v1 = .int .i64 (k + 2) ∧ v5 = .int .i64 1 ∧ Aside0 (∃ cs', w'.heap[g]? = some (.cells cs' 52 (0, 0)) ∧ cs'[0]? = some (.bool (Int.tmod k 3 == 0)) ∧ cs'[1]? = some (.slice none 0 0) ∧ cs'[2]? = some (.slice none 0 0) ∧ cs'[3]? = some (.int .i64 (k + 1))) ∧ Aside0 (Mk base g w w')))
  case atStart => exact .inl ⟨rfl, rfl, rfl, rfl⟩
  case round =>
    rcases hrel with ⟨rfl, rfl, rfl, rfl⟩ | ⟨rfl, rfl, rfl, HP, HM⟩
    · have x0 : wr.cell? ⟨g, 0, none⟩ = some (.bool b) := (blk_cell H3.out 0).trans H4.out
      have x1 : wr.cell? ⟨g, 1, none⟩ = some (.slice none 0 0) := (blk_cell H3.out 1).trans H5.out
      have x2 : wr.cell? ⟨g, 2, none⟩ = some (.slice none 0 0) := (blk_cell H3.out 2).trans H6.out
      have x3 : wr.cell? ⟨g, 3, none⟩ = some (.int .i64 n) := (blk_cell H3.out 3).trans H7.out
      have y0 := blk_frozen H3.out 0
      go_wp2_with fail
      have z0 := blk_put H3.out 0 (.bool (Int.tmod k 3 == 0)) rfl
      obtain ⟨c1, hc1⟩ : ∃ c1, c1 = cs.setIfInBounds 0 (.bool (Int.tmod k 3 == 0)) := ⟨_, rfl⟩
      rw [← hc1] at z0
      have q0 : c1[0]? = some (.bool (Int.tmod k 3 == 0)) := by rw [hc1, Array.getElem?_setIfInBounds, if_pos rfl, if_pos (Array.getElem?_eq_some_iff.1 H4.out).1]
      have q1 : c1[1]? = some (.slice none 0 0) := by rw [hc1, Array.getElem?_setIfInBounds, if_neg (by decide)]; exact H5.out
      have q2 : c1[2]? = some (.slice none 0 0) := by rw [hc1, Array.getElem?_setIfInBounds, if_neg (by decide)]; exact H6.out
      have q3 : c1[3]? = some (.int .i64 n) := by rw [hc1, Array.getElem?_setIfInBounds, if_neg (by decide)]; exact H7.out
      have M0 := Aside0.mk (Mk.set (base := base) (Mk.refl wr hbg) 0 (.bool (Int.tmod k 3 == 0)))
      have Z0 := Aside0.mk z0
      have Q := Aside0.mk (And.intro q0 (And.intro q1 (And.intro q2 q3)))
      clear z0 q0 q1 q2 q3 x0 x1 x2 x3 y0 hc1 H4 H5 H6 H7
      generalize wr.setCell ⟨g, 0, none⟩ (.bool (Int.tmod k 3 == 0)) = W1 at *
      refine (markS_nil _ W1).mono ?_
      rintro e W2 ⟨rfl, hb⟩
      have Z1 := Aside0.mk (blk_below Z0.out hb)
      have M1 := Aside0.mk (Mk.below M0.out hb)
      have x2 : W2.cell? ⟨g, 2, none⟩ = some (.slice none 0 0) := (blk_cell Z1.out 2).trans Q.out.2.2.1
      have y2 := blk_frozen Z1.out 2
      clear Z0 M0 hb
      go_wp2_with fail
      refine (markI_nil _ W2).mono ?_
      rintro e W3 ⟨rfl, hb⟩
      have Z2 := Aside0.mk (blk_below Z1.out hb)
      have M2 := Aside0.mk (Mk.below M1.out hb)
      have x3 : W3.cell? ⟨g, 3, none⟩ = some (.int .i64 n) := (blk_cell Z2.out 3).trans Q.out.2.2.2
      have y3 := blk_frozen Z2.out 3
      clear Z1 M1 hb x2 y2
      go_wp2_with fail
      go_roundg 0
      case measure => omega
      case rel =>
        refine .inr ⟨rfl, by rw [← e2], by kernel_rfl, ⟨_, blk_put Z2.out 3 (.int .i64 (k + 1)) rfl, ?_, ?_, ?_, ?_⟩, ⟨(Mk.set M2.out 3 _).2⟩⟩
        · rw [Array.getElem?_setIfInBounds, if_neg (by decide)]; exact Q.out.1
        · rw [Array.getElem?_setIfInBounds, if_neg (by decide)]; exact Q.out.2.1
        · rw [Array.getElem?_setIfInBounds, if_neg (by decide)]; exact Q.out.2.2.1
        · rw [Array.getElem?_setIfInBounds, if_pos rfl, if_pos (Array.getElem?_eq_some_iff.1 Q.out.2.2.2).1]
    · go_wp2_with fail
      go_ret
      exact ⟨rfl, HP.out, HM.out⟩

/-! ### spec_tree: a text by hand -/
-- import Derived.Deep.RegionLaw
theorem keys_nil (w : World) : Calls Try.prog 24 #[.agg #[.bool true, .slice none 0 0, .slice none 0 0]] w fun e w' => ∃ A c, e = .returned (.slice A 0 c) ∧ Below w.heap.size w w' := by
  refine (spec_l3Keys.calls 1 true none 0 [] none 0 [] [] w ⟨rfl, Nat.zero_le _, fun h => absurd h (Nat.lt_irrefl 0)⟩ (Nat.le_refl _) ⟨rfl, Nat.zero_le _, fun h => absurd h (Nat.lt_irrefl 0)⟩ (Nat.le_refl _) rfl).mono ?_
  rintro e w' ⟨v, rfl, hR, hb⟩
  obtain ⟨A, c, rfl⟩ := Kd.R_slice hR
  exact ⟨A, c, rfl, hb⟩
def FlatCut (w : World) (v5 : Value) (wc : World) : Prop := ∃ g, v5 = .pointer (some ⟨g, 0, none⟩) ∧ w.heap.size < g ∧ wc.heap[g]? = some (.cells #[.bool true, .slice none 0 0, .slice none 0 0, .int .i64 0] 52 (0, 0)) ∧ wc.heap[w.heap.size]? = some (.cells #[.bool true, .slice none 0 0, .slice none 0 0] 39 (0, 0)) ∧ Below w.heap.size w wc
theorem flatA {w w2 : World} (hk : w2.heap[w.heap.size]? = some (.cells #[.bool true, .slice none 0 0, .slice none 0 0] 39 (0, 0))) (hB : Below w.heap.size w w2) :
    FlatCut w (.pointer (some ⟨w2.heap.size, 0, none⟩)) (w2.alloc (.cells #[.bool true, .slice none 0 0, .slice none 0 0, .int .i64 0] 52)) :=
  ⟨_, rfl, blk_lt hk, blk_new _ _, blk_alloc hk _, below_alloc hB _⟩
theorem flatB {w w2 : World} {g : Nat} (h0 : w.heap.size < g) (hk : w2.heap[w.heap.size]? = some (.cells #[.bool true, .slice none 0 0, .slice none 0 0] 39 (0, 0))) (h5 : w2.heap[g]? = some (.cells #[.bool false, .slice none 0 0, .slice none 0 0, .int .i64 0] 52 (0, 0))) (hB : Below w.heap.size w w2) :
    FlatCut w (.pointer (some ⟨g, 0, none⟩)) ((((w2.setCell ⟨g, 0, none⟩ (.bool true)).setCell ⟨g, 1, none⟩ (.slice none 0 0)).setCell ⟨g, 2, none⟩ (.slice none 0 0)).setCell ⟨g, 3, none⟩ (.int .i64 0)) := by
  have hle : w.heap.size ≤ g := Nat.le_of_lt h0
  refine ⟨_, rfl, h0, blk_put (blk_put (blk_put (blk_put h5 0 (.bool true) rfl) 1 (.slice none 0 0) rfl) 2 (.slice none 0 0) rfl) 3 (.int .i64 0) rfl, ?_, below_set (below_set (below_set (below_set hB hle) hle) hle) hle⟩
  have hne : w.heap.size ≠ g := by omega
  exact (Below.heap_setCell _ _ _ _ hne).trans ((Below.heap_setCell _ _ _ _ hne).trans ((Below.heap_setCell _ _ _ _ hne).trans ((Below.heap_setCell _ _ _ _ hne).trans hk)))
set_option maxHeartbeats 2000000 in
theorem flat_leaf (w : World) : Calls Try.prog 15 #[.agg #[.bool true, .slice none 0 0, .slice none 0 0], .int .i64 0] w fun e w' => ∃ v, e = .returned v ∧ M1 w' w.heap.size v true 0 ∧ Below w.heap.size w w' := by
  have HB := Aside0.mk (below_alloc (Below.refl w.heap.size w) (.cells #[.bool true, .slice none 0 0, .slice none 0 0] 39))
  have K0 := Aside0.mk (blk_new w (.cells #[.bool true, .slice none 0 0, .slice none 0 0] 39))
  have hu39 := Try.underlying39
  have hu52 := Try.underlying52
  go_enter Try.func15, Try.ntmps15
  go_wp2_with fail
  generalize w.alloc (.cells #[.bool true, .slice none 0 0, .slice none 0 0] 39) = W at *
  have s0 : W.cell? ⟨w.heap.size, 0, none⟩ = some (.bool true) := (blk_cell K0.out 0).trans rfl
  have s1 : W.cell? ⟨w.heap.size, 1, none⟩ = some (.slice none 0 0) := (blk_cell K0.out 1).trans rfl
  have s2 : W.cell? ⟨w.heap.size, 2, none⟩ = some (.slice none 0 0) := (blk_cell K0.out 2).trans rfl
  have b0 : (W.alloc (.cells #[.bool false, .slice none 0 0, .slice none 0 0, .int .i64 0] 52)).cell? ⟨w.heap.size, 0, none⟩ = some (.bool true) := (blk_cell (blk_alloc K0.out _) 0).trans rfl
  have b1 : (W.alloc (.cells #[.bool false, .slice none 0 0, .slice none 0 0, .int .i64 0] 52)).cell? ⟨w.heap.size, 1, none⟩ = some (.slice none 0 0) := (blk_cell (blk_alloc K0.out _) 1).trans rfl
  have b2 : (W.alloc (.cells #[.bool false, .slice none 0 0, .slice none 0 0, .int .i64 0] 52)).cell? ⟨w.heap.size, 2, none⟩ = some (.slice none 0 0) := (blk_cell (blk_alloc K0.out _) 2).trans rfl
  have hw0 := blk_lt K0.out
  replace HB := HB
  go_cut [5] (fun v5 wc => FlatCut w v5 wc)
  case first =>
    go_region_law (go_simp; go_at_call 24; refine (keys_nil _).mono ?_; rintro e w2 ⟨A, c, rfl, hb⟩; have HK2 := Aside0.mk (below_step (by repeat (first | (with_reducible first | exact HB.out | apply below_alloc | apply pw_below_drewN | apply below_drew1) | exact HB.out)) hb); have hk0 : w2.heap[w.heap.size]? = some (.cells #[.bool true, .slice none 0 0, .slice none 0 0] 39 (0, 0)) := blk_below (by (with_reducible repeat (first | refine blk_drewN ?_ _ | refine blk_drew ?_ | refine blk_alloc ?_ _)); exact K0.out) hb; have m0 : w2.cell? ⟨w.heap.size, 0, none⟩ = some (.bool true) := (blk_cell hk0 0).trans rfl; have n0 : (w2.alloc (.cells #[.bool false, .slice none 0 0, .slice none 0 0, .int .i64 0] 52)).cell? ⟨w.heap.size, 0, none⟩ = some (.bool true) := (blk_cell (blk_alloc hk0 _) 0).trans rfl; have m1 : w2.cell? ⟨w.heap.size, 1, none⟩ = some (.slice none 0 0) := (blk_cell hk0 1).trans rfl; have n1 : (w2.alloc (.cells #[.bool false, .slice none 0 0, .slice none 0 0, .int .i64 0] 52)).cell? ⟨w.heap.size, 1, none⟩ = some (.slice none 0 0) := (blk_cell (blk_alloc hk0 _) 1).trans rfl; have m2 : w2.cell? ⟨w.heap.size, 2, none⟩ = some (.slice none 0 0) := (blk_cell hk0 2).trans rfl; have n2 : (w2.alloc (.cells #[.bool false, .slice none 0 0, .slice none 0 0, .int .i64 0] 52)).cell? ⟨w.heap.size, 2, none⟩ = some (.slice none 0 0) := (blk_cell (blk_alloc hk0 _) 2).trans rfl; (try have hk5 : w2.heap[W.heap.size]? = some (.cells #[.bool false, .slice none 0 0, .slice none 0 0, .int .i64 0] 52 (0, 0)) := blk_below (by (with_reducible repeat (first | refine blk_drewN ?_ _ | refine blk_drew ?_)); exact blk_new _ _) hb); (try have hz0 : w2.cell? ⟨W.heap.size, 0, none⟩ = some (.bool false) := (blk_cell hk5 0).trans rfl); (try have hy0 := blk_frozen hk5 0); (try have hz1 : w2.cell? ⟨W.heap.size, 1, none⟩ = some (.slice none 0 0) := (blk_cell hk5 1).trans rfl); (try have hy1 := blk_frozen hk5 1); (try have hz2 : w2.cell? ⟨W.heap.size, 2, none⟩ = some (.slice none 0 0) := (blk_cell hk5 2).trans rfl); (try have hy2 := blk_frozen hk5 2); (try have hz3 : w2.cell? ⟨W.heap.size, 3, none⟩ = some (.int .i64 0) := (blk_cell hk5 3).trans rfl); (try have hy3 := blk_frozen hk5 3))
    all_goals
      go_wp2_with fail
      go_meet
      first | exact flatA hk0 HK2.out | exact flatB hw0 hk0 hk5 HK2.out
  case rest =>
    obtain ⟨g, rfl, hg, K5, K0, HB⟩ := hcut
    clear s0 s1 s2 b0 b1 b2 hw0
    have hl5 := blk_lt K5
    have hl0 := blk_lt K0
    have hne : w.heap.size ≠ g := by omega
    have s0 : wc.cell? ⟨w.heap.size, 0, none⟩ = some (.bool true) := (blk_cell K0 0).trans rfl
    have s1 : wc.cell? ⟨w.heap.size, 1, none⟩ = some (.slice none 0 0) := (blk_cell K0 1).trans rfl
    have b0 : wc.cell? ⟨g, 0, none⟩ = some (.bool true) := (blk_cell K5 0).trans rfl
    have b1 : wc.cell? ⟨g, 1, none⟩ = some (.slice none 0 0) := (blk_cell K5 1).trans rfl
    have b2 : wc.cell? ⟨g, 2, none⟩ = some (.slice none 0 0) := (blk_cell K5 2).trans rfl
    have b3 : wc.cell? ⟨g, 3, none⟩ = some (.int .i64 0) := (blk_cell K5 3).trans rfl
    have y1 := blk_frozen K5 1
    replace HB := Aside0.mk HB
    have H5 := Aside0.mk K5
    clear K5 K0
    go_wp2_with fail
    go_ret
    have hn := blk_new ((wc.setCell ⟨g, 1, none⟩ (.slice (some ⟨wc.heap.size, 0, none⟩) 0 0)).alloc (.cells #[] 9)) (.cells #[.bool true, .slice (some ⟨wc.heap.size, 0, none⟩) 0 0, .slice none 0 0, .int .i64 0] 52)
    rw [show ((wc.setCell ⟨g, 1, none⟩ (.slice (some ⟨wc.heap.size, 0, none⟩) 0 0)).alloc (.cells #[] 9)).heap.size = wc.heap.size + 1 by simp [World.setCell]] at hn
    exact ⟨_, rfl, ⟨_, _, _, _, _, _, _, rfl, Nat.le_refl _, by have := HB.out.size; omega, hn, rfl, rfl, rfl, rfl⟩, below_alloc (below_alloc (below_set HB.out (Nat.le_of_lt hg)) _) _⟩
theorem spec_TreeNew.calls (w : World) : Calls Try.prog 5 #[] w fun e w' => ∃ v, e = .returned (.agg #[v]) ∧ M1 w' w.heap.size v true 0 ∧ Below w.heap.size w w' := by
  have HB := Aside0.mk (below_alloc (Below.refl w.heap.size w) (.cells #[.slice none 0 0] 24))
  have K0 := Aside0.mk (blk_new w (.cells #[.slice none 0 0] 24))
  have hu24 := Try.underlying24
  have hu39 := Try.underlying39
  go_enter Try.func5, Try.ntmps5
  go_wp2_with fail
  refine (flat_leaf _).mono ?_
  rintro e w3 ⟨v, rfl, h2, hb⟩
  have h2' := h2
  obtain ⟨g, c, _, _, _, _, _, rfl, _⟩ := h2'
  have hl0 := blk_lt K0.out
  replace K0 := Aside0.mk (blk_below K0.out hb)
  replace HB := Aside0.mk (below_step HB.out hb)
  have hk0 := blk_cell K0.out 0
  have hf0 := blk_frozen K0.out 0
  have hk1 : w3.cell? ⟨w.heap.size, 0, none⟩ = some (.slice none 0 0) := hk0.trans rfl
  have H2 := Aside0.mk h2
  clear h2
  go_wp2_with fail
  refine bodyPost_ret (results_cell_row rfl _ _ w.heap.size 24 #[.slice (some ⟨g, 0, none⟩) 1 c] (0, 0) _ rfl (blk_put (cs := #[.slice none 0 0]) K0.out 0 _ rfl) hu24 rfl (by kernel_rfl)) rfl ?_
  exact ⟨_, rfl, (H2.out.move (fun k hk _ => Below.heap_setCell w3 ⟨w.heap.size, 0, none⟩ _ k (by have : k ≠ w.heap.size := (by simp at hk; omega); exact this))).lower (by simp), below_set HB.out (Nat.le_refl _)⟩

/-! ### zmain_TreeNew: a text by hand -/
theorem markTree1 (base g c : Nat) (k : Int) (cs : Array Value) (w : World) (hk0 : 0 ≤ k) (hk1 : k ≤ 100000) (hbg : base ≤ g) (h3 : w.heap[g]? = some (.cells cs 52 (0, 0))) (b : Bool) (n : Int) (h4 : cs[0]? = some (.bool b)) (h5 : cs[1]? = some (.slice none 0 0)) (h6 : cs[2]? = some (.slice none 0 0)) (h7 : cs[3]? = some (.int .i64 n)) :
    Calls Try.prog 8 #[.agg #[.slice (some ⟨g, 0, none⟩) 1 c], .int .i64 k] w fun e w' => e = .returned (.int .i64 (k + 2)) ∧ (∃ cs', w'.heap[g]? = some (.cells cs' 52 (0, 0)) ∧ cs'[0]? = some (.bool (Int.tmod k 3 == 0)) ∧ cs'[1]? = some (.slice none 0 0) ∧ cs'[2]? = some (.slice none 0 0) ∧ cs'[3]? = some (.int .i64 (k + 1))) ∧ Mk base g w w' := by
  have hb0 : Below w.heap.size w (w.alloc (.cells #[.slice (some ⟨g, 0, none⟩) 1 c] 24)) := below_alloc (Below.refl _ _) _
  have HC := Aside0.mk (markT1 base g c k cs _ hk0 hk1 hbg (blk_below h3 hb0) b n h4 h5 h6 h7)
  have HM := Aside0.mk (Mk.below (Mk.refl w hbg) hb0)
  clear h3 h4 h5 h6 h7 hb0
  have hu24 := Try.underlying24
  go_enter Try.func8, Try.ntmps8
  go_wp2_with fail
  refine HC.out.mono ?_
  rintro e w2 ⟨rfl, h, hm⟩
  have H := Aside0.mk h
  have HM2 := Aside0.mk hm
  clear h hm
  go_wp2_with fail
  go_ret
  exact ⟨rfl, H.out, Nat.le_trans HM.out.2.1 HM2.out.1, fun j hj hne => (HM2.out.2.1 j (Nat.lt_of_lt_of_le hj HM.out.2.1) hne).trans (HM.out.2.2.1 j hj hne), fun w0 h0 hB => HM2.out.2.2 w0 h0 (HM.out.2.2.2 w0 h0 hB)⟩
theorem eqT_one : laws_eqTree.f 9 [⟨true, [], [], 0⟩] [⟨true, [], [], 0⟩] = some true := by kernel_rfl
theorem heldT_one : laws_heldTree.f 9 [⟨Int.tmod 1 3 == 0, [], [], 1 + 1⟩] 1 = some 3 := by kernel_rfl
set_option maxHeartbeats 2000000 in
theorem main_TreeNew (w : World) : Calls Try.prog 3 #[] w fun e w' => e = .returned (.bool true) ∧ Below w.heap.size w w' := by
  have HB := Aside0.mk (Below.refl w.heap.size w)
  have hu24 := Try.underlying24
  go_enter Try.func3, Try.ntmps3
  go_wp2_with fail
  refine (spec_TreeNew.calls w).mono ?_
  rintro e w1 ⟨v, rfl, h, hb⟩
  obtain ⟨g0, c0, cs0, A1, a1, A2, a2, rfl, h1, h2, h3, h4⟩ := h
  have L0 := Aside0.mk h1
  have G0 := Aside0.mk (blk_alloc h3 (.cells #[.slice (some ⟨g0, 0, none⟩) 1 c0] 24))
  have D0 := Aside0.mk h4
  have K1 := Aside0.mk (blk_new w1 (.cells #[.slice (some ⟨g0, 0, none⟩) 1 c0] 24))
  replace HB := Aside0.mk (below_alloc (below_step HB.out hb) (.cells #[.slice (some ⟨g0, 0, none⟩) 1 c0] 24))
  clear hb h1 h2 h3 h4
  go_wp2_with fail
  generalize (w1.alloc (.cells #[.slice (some ⟨g0, 0, none⟩) 1 c0] 24)) = w2 at *
  generalize w1.heap.size = gA at *
  refine (impl_TreeNew.calls w2).mono ?_
  rintro e w3 ⟨v, rfl, ⟨g1, c1, cs1, rfl, h1, h2, h3, h4, h5, h6, h7⟩, hb⟩
  have hlt0 := blk_lt G0.out
  have hltA := blk_lt K1.out
  have N0 := Aside0.mk (show g0 ≠ g1 by omega)
  have NA := Aside0.mk (show gA ≠ g1 by omega)
  have L1 := Aside0.mk h1
  have W1 := Aside0.mk (show w.heap.size ≤ g1 from Nat.le_trans HB.out.size h2)
  have D1 := Aside0.mk (And.intro h4 (And.intro h5 (And.intro h6 h7)))
  have G1 := Aside0.mk (blk_alloc h3 (.cells #[.slice (some ⟨g1, 0, none⟩) 1 c1] 24))
  have K2 := Aside0.mk (blk_new w3 (.cells #[.slice (some ⟨g1, 0, none⟩) 1 c1] 24))
  have NB := Aside0.mk (show w3.heap.size ≠ g1 by have := blk_lt h3; omega)
  have hb' := below_alloc hb (.cells #[.slice (some ⟨g1, 0, none⟩) 1 c1] 24)
  replace G0 := Aside0.mk (blk_below G0.out hb')
  replace K1 := Aside0.mk (blk_below K1.out hb')
  replace HB := Aside0.mk (below_step HB.out hb')
  clear hb hb' h1 h2 h3 h4 h5 h6 h7 hlt0 hltA
  have x1 : (w3.alloc (.cells #[.slice (some ⟨g1, 0, none⟩) 1 c1] 24)).cell? ⟨gA, 0, none⟩ = some (.slice (some ⟨g0, 0, none⟩) 1 c0) := (blk_cell K1.out 0).trans rfl
  go_wp2_with fail
  clear x1
  generalize (w3.alloc (.cells #[.slice (some ⟨g1, 0, none⟩) 1 c1] 24)) = w4 at *
  generalize w3.heap.size = gB at *
  have hcm : ∀ (w : World) (h0 : w.heap[g0]? = some (.cells cs0 52 (0, 0))), Kd.C k52 w (some ⟨g0, 0, none⟩) 1 [⟨true, [], [], 0⟩] := fun w h0 => by
    obtain ⟨A, c, he, _, hC⟩ := M1.C (lo := 0) ⟨g0, c0, cs0, A1, a1, A2, a2, rfl, L0.out, Nat.zero_le _, h0, D0.out⟩
    injection he with ha _ _
    exact ha ▸ hC
  have HCM := Aside0.mk hcm
  have hc1 : Kd.C k52 w4 (some ⟨g1, 0, none⟩) 1 [⟨true, [], [], 0⟩] := by
    obtain ⟨A, c, he, _, hC⟩ := N1.C (lo := 0) ⟨g1, c1, cs1, rfl, L1.out, Nat.zero_le _, G1.out, D1.out⟩
    injection he with ha _ _
    exact ha ▸ hC
  refine (laws_eqTree.calls 9 (some ⟨g1, 0, none⟩) c1 [⟨true, [], [], 0⟩] (some ⟨g0, 0, none⟩) c0 [⟨true, [], [], 0⟩] true w4 hc1 L1.out (hcm w4 G0.out) L0.out eqT_one).mono ?_
  rintro e w5 ⟨rfl, hb⟩
  clear hc1 hcm
  replace G0 := Aside0.mk (blk_below G0.out hb)
  replace G1 := Aside0.mk (blk_below G1.out hb)
  replace K1 := Aside0.mk (blk_below K1.out hb)
  replace K2 := Aside0.mk (blk_below K2.out hb)
  replace HB := Aside0.mk (below_step HB.out hb)
  clear hb
  have x2 : w5.cell? ⟨gB, 0, none⟩ = some (.slice (some ⟨g1, 0, none⟩) 1 c1) := (blk_cell K2.out 0).trans rfl
  go_wp2_with fail
  clear x2
  refine (markTree1 w.heap.size g1 c1 1 cs1 w5 (by omega) (by omega) W1.out G1.out true 0 D1.out.1 D1.out.2.1 D1.out.2.2.1 D1.out.2.2.2).mono ?_
  rintro e w6 ⟨rfl, ⟨cs2, h3, h4, h5, h6, h7⟩, hm1, hm2, hm3⟩
  have hk : ∀ (g : Nat) o, w5.heap[g]? = some o → g ≠ g1 → w6.heap[g]? = some o := fun g o h hne => (hm2 g (blk_lt h) hne).trans h
  replace G0 := Aside0.mk (hk g0 _ G0.out N0.out)
  replace K1 := Aside0.mk (hk gA _ K1.out NA.out)
  replace K2 := Aside0.mk (hk gB _ K2.out NB.out)
  replace HB := Aside0.mk (hm3 w rfl HB.out)
  have hc1 : Kd.C k52 w6 (some ⟨g1, 0, none⟩) 1 [⟨Int.tmod 1 3 == 0, [], [], 1 + 1⟩] := by
    obtain ⟨A, c, he, _, hC⟩ := N1.C (lo := 0) ⟨g1, c1, cs2, rfl, L1.out, Nat.zero_le _, h3, h4, h5, h6, h7⟩
    injection he with ha _ _
    exact ha ▸ hC
  clear hm1 hm2 hm3 hk h3 h4 h5 h6 h7
  replace hc1 := Aside0.mk hc1
  have x2 : w6.cell? ⟨gB, 0, none⟩ = some (.slice (some ⟨g1, 0, none⟩) 1 c1) := (blk_cell K2.out 0).trans rfl
  go_wp2_with fail
  clear x2
  refine (laws_heldTree.calls 9 (some ⟨g1, 0, none⟩) c1 [⟨Int.tmod 1 3 == 0, [], [], 1 + 1⟩] 1 3 w6 hc1.out L1.out heldT_one).mono ?_
  rintro e w7 ⟨rfl, hb⟩
  replace G0 := Aside0.mk (blk_below G0.out hb)
  replace K1 := Aside0.mk (blk_below K1.out hb)
  replace HB := Aside0.mk (below_step HB.out hb)
  clear hb hc1 D1 G1 K2
  go_wp2_with fail
  refine (impl_TreeNew.calls w7).mono ?_
  rintro e w8 ⟨v, rfl, ⟨g2, c2, cs2, rfl, h1, h2, h3, h4, h5, h6, h7⟩, hb⟩
  have hb' := below_alloc hb (.cells #[.slice (some ⟨g2, 0, none⟩) 1 c2] 24)
  replace G0 := Aside0.mk (blk_below G0.out hb')
  replace K1 := Aside0.mk (blk_below K1.out hb')
  replace HB := Aside0.mk (below_step HB.out hb')
  have hc1 : Kd.C k52 (w8.alloc (.cells #[.slice (some ⟨g2, 0, none⟩) 1 c2] 24)) (some ⟨g2, 0, none⟩) 1 [⟨true, [], [], 0⟩] := by
    obtain ⟨A, c, he, _, hC⟩ := N1.C (lo := 0) ⟨g2, c2, cs2, rfl, h1, Nat.zero_le _, blk_alloc h3 (.cells #[.slice (some ⟨g2, 0, none⟩) 1 c2] 24), h4, h5, h6, h7⟩
    injection he with ha _ _
    exact ha ▸ hC
  have HC1 := Aside0.mk hc1
  have L2 := Aside0.mk h1
  clear hb hb' h1 h2 h3 h4 h5 h6 h7 hc1
  have x1 : (w8.alloc (.cells #[.slice (some ⟨g2, 0, none⟩) 1 c2] 24)).cell? ⟨gA, 0, none⟩ = some (.slice (some ⟨g0, 0, none⟩) 1 c0) := (blk_cell K1.out 0).trans rfl
  go_wp2_with fail
  clear x1
  refine (laws_eqTree.calls 9 (some ⟨g2, 0, none⟩) c2 [⟨true, [], [], 0⟩] (some ⟨g0, 0, none⟩) c0 [⟨true, [], [], 0⟩] true _ HC1.out L2.out (HCM.out _ G0.out) L0.out eqT_one).mono ?_
  rintro e w9 ⟨rfl, hb⟩
  replace HB := Aside0.mk (below_step HB.out hb)
  go_wp2_with fail
  go_ret
  exact ⟨rfl, HB.out⟩
end Go.Proofs.Ytnkigjncfkgceaa.PN
