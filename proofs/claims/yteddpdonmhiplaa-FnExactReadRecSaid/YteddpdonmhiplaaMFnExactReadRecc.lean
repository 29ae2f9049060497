-- Made by this session's programs out of the translation and of its own texts.
import Derived.Test.YteddpdonmhiplaaMFnExactReadRecb
namespace Go.Proofs.Yteddpdonmhiplaa.PR
open Go.RowKit Go.Proofs.YteddpdonmhiplaaW.PrintWords Go.Proofs.YteddpdonmhiplaaW.PrintLast Go.Proofs.YteddpdonmhiplaaW.PrintMore
attribute [local go_sem] max2_int min2_int max_two min_two max_three min_three max_four min_four   -- for this text's walks alone
set_option linter.unusedVariables false
set_option linter.unusedSimpArgs false

/-! ### laws_eqPend: function 110 -/
def laws_eqPend.f (k : Nat) (a0_0 : Int) (l0_1 : List Int) (a1_0 : Int) (l1_1 : List Int) : Option (Bool) := if a0_0 = a1_0 then ((laws_eqByteS.f k l0_1 l1_1).bind fun t308 => (if t308 = true then (some true) else (some false))) else (some false)
theorem laws_eqPend.mono : ∀ a0 a1 a2 a3 k, LeO (laws_eqPend.f k a0 a1 a2 a3) (laws_eqPend.f (k + 1) a0 a1 a2 a3) := by
  intro a0 a1 a2 a3 k
  unfold laws_eqPend.f
  repeat' first
      | (with_reducible exact laws_eqByteS.mono _ _ _)
      | (with_reducible exact LeO.refl _)
      | (with_reducible exact LeO.none _)
      | (with_reducible refine LeO.ite ?_ ?_)
      | (with_reducible refine LeO.bind ?_ (fun _ => ?_))
      | exact laws_eqByteS.mono _ _ _
      | exact LeO.none _
      | refine LeO.ite ?_ ?_
      | refine LeO.bind ?_ (fun _ => ?_)
set_option maxHeartbeats 8000000 in
set_option maxRecDepth 100000 in
theorem laws_eqPend.calls (k : Nat) (a0_0 : Int) (A0_1 : Option Addr) (c0_1 : Nat) (l0_1 : List Int) (a1_0 : Int) (A1_1 : Option Addr) (c1_1 : Nat) (l1_1 : List Int) (r : Bool) (w : World) (hr0_1 : Kd.C (Kd.int .u8) w A0_1 l0_1.length l0_1) (hc0_1 : l0_1.length ≤ c0_1) (hr1_1 : Kd.C (Kd.int .u8) w A1_1 l1_1.length l1_1) (hc1_1 : l1_1.length ≤ c1_1) (h : laws_eqPend.f k a0_0 l0_1 a1_0 l1_1 = some r) :
    Calls Try.prog 110 #[.agg #[.int .i64 a0_0, .slice A0_1 l0_1.length c0_1], .agg #[.int .i64 a1_0, .slice A1_1 l1_1.length c1_1]] w fun e w' => e = .returned (.bool r) ∧ Below w.heap.size w w' := by
  have hu79 := Try.underlying79
  have HR0_1 := Aside0.mk hr0_1
  have HC0_1 := Aside0.mk hc0_1
  clear hr0_1 hc0_1
  have HR1_1 := Aside0.mk hr1_1
  have HC1_1 := Aside0.mk hc1_1
  clear hr1_1 hc1_1
  have HB := Aside0.mk (Below.refl w.heap.size w)
  have H : (if a0_0 = a1_0 then ((laws_eqByteS.f k l0_1 l1_1).bind fun t308 => (if t308 = true then (some true) else (some false))) else (some false)) = some r := h
  clear h
  by_cases c3 : a0_0 = a1_0
  rw [if_pos c3] at H
  have c3b0 : (a0_0 == a1_0) = true := beq_iff_eq.mpr c3
  have c3b1 : (a0_0 != a1_0) = false := bne_eq_false_iff_eq.mpr c3
  clear c3
  replace H := Option.bind_eq_some_iff.mp H
  obtain ⟨t308, A40, H⟩ := H
  replace H : (if t308 = true then (some true) else (some false)) = some r := H
  have A4 := Aside0.mk A40
  clear A40
  by_cases c5 : t308 = true
  subst c5
  have H1 : (some true) = some r := by rw [if_pos rfl] at H; exact H
  clear H
  have H := H1
  clear H1
  obtain rfl := Option.some.inj H
  rotate_left
  replace c5 := Bool.eq_false_iff.mpr c5
  subst c5
  have H1 : (some false) = some r := by rw [if_neg (show ¬ (false = true) by decide)] at H; exact H
  clear H
  have H := H1
  clear H1
  obtain rfl := Option.some.inj H
  rotate_left
  rw [if_neg c3] at H
  have c3b0 : (a0_0 == a1_0) = false := beq_eq_false_iff_ne.mpr c3
  have c3b1 : (a0_0 != a1_0) = true := bne_iff_ne.mpr c3
  obtain rfl := Option.some.inj H
  rotate_left
  all_goals
    go_enter Try.func110, Try.ntmps110
    first
      | (go_wp2_with (first | ((with_reducible refine gate_dst (N := 2) rfl ?_); refine box_event ?hg (N := 2) ?hd (cs := #[.int .i64 a0_0, .slice A0_1 l0_1.length c0_1]) (t := 79) ?hr ?_; (case hd => rfl); (case hg => rfl); (case hr => first | (go_simp; done) | (go_simp; rfl)); intro gb306 hg w7_ hbox hb; have n0_ := Aside0.mk (below_step (by repeat (first | (with_reducible first | exact HB.out | apply below_alloc | apply pw_below_drewN | apply below_drew1) | exact HB.out)) hb); have n1_ := Aside0.mk (hbox); have n2_ := Aside0.mk ((by rw [hg]; exact (below_size (by repeat (first | (with_reducible first | exact HB.out | apply below_alloc | apply pw_below_drewN | apply below_drew1) | exact HB.out))) : w.heap.size ≤ gb306)); have n3_ := Aside0.mk ((by rw [hg]; exact (below_size (by repeat (first | (with_reducible first | exact HB.out | apply below_alloc | apply pw_below_drewN | apply below_drew1) | exact HB.out))) : w.heap.size ≤ gb306)); clear HB; have HB := n0_; have BK306 := n1_; have GW306 := n2_; have GE306 := n3_; clear n0_ n1_ n2_ n3_; clear hb hbox hg) | ((with_reducible refine gate_dst (N := 3) rfl ?_); refine box_event ?hg (N := 3) ?hd (cs := #[.int .i64 a1_0, .slice A1_1 l1_1.length c1_1]) (t := 79) ?hr ?_; (case hd => rfl); (case hg => rfl); (case hr => first | (go_simp; done) | (go_simp; rfl)); intro gb307 hg w8_ hbox hb; have n0_ := Aside0.mk (blk_below (g := gb306) (o := .cells #[.int .i64 a0_0, .slice A0_1 l0_1.length c0_1] 79 (0, 0)) (by (with_reducible repeat (first | refine blk_drewN ?_ _ | refine blk_drew ?_ | refine blk_alloc ?_ _)); exact BK306.out) hb); have n1_ := Aside0.mk (below_step (by repeat (first | (with_reducible first | exact HB.out | apply below_alloc | apply pw_below_drewN | apply below_drew1 | refine below_set ?_ GE306.out) | exact HB.out)) hb); have n2_ := Aside0.mk (hbox); have n3_ := Aside0.mk ((by rw [hg]; exact (below_size (by repeat (first | (with_reducible first | exact HB.out | apply below_alloc | apply pw_below_drewN | apply below_drew1 | refine below_set ?_ GE306.out) | exact HB.out))) : w.heap.size ≤ gb307)); have n4_ := Aside0.mk ((by rw [hg]; exact (below_size (by repeat (first | (with_reducible first | exact HB.out | apply below_alloc | apply pw_below_drewN | apply below_drew1 | refine below_set ?_ GE306.out) | exact HB.out))) : w.heap.size ≤ gb307)); have n5_ := Aside0.mk ((by rw [hg]; exact Nat.ne_of_lt (blk_lt (g := gb306) (o := .cells #[.int .i64 a0_0, .slice A0_1 l0_1.length c0_1] 79 (0, 0)) (by (with_reducible repeat (first | refine blk_drewN ?_ _ | refine blk_drew ?_ | refine blk_alloc ?_ _)); exact BK306.out)) : gb306 ≠ gb307)); have n6_ := Aside0.mk ((by rw [hg]; exact Nat.ne_of_gt (blk_lt (g := gb306) (o := .cells #[.int .i64 a0_0, .slice A0_1 l0_1.length c0_1] 79 (0, 0)) (by (with_reducible repeat (first | refine blk_drewN ?_ _ | refine blk_drew ?_ | refine blk_alloc ?_ _)); exact BK306.out)) : gb307 ≠ gb306)); clear BK306; clear HB; have BK306 := n0_; have HB := n1_; have BK307 := n2_; have GW307 := n3_; have GE307 := n4_; have NB306_307 := n5_; have NB307_306 := n6_; clear n0_ n1_ n2_ n3_ n4_ n5_ n6_; clear hb hbox hg; have hnbq1 := NB306_307.out; have hncq2 := NB307_306.out; have hczq3_0 : w8_.cell? ⟨gb306, 0, none⟩ = some (.int .i64 a0_0) := (blk_cell BK306.out 0).trans rfl; have hczq3_1 : w8_.cell? ⟨gb306, 1, none⟩ = some (.slice A0_1 l0_1.length c0_1) := (blk_cell BK306.out 1).trans rfl; have hfzq4_0 := blk_frozen BK306.out 0; have hfzq4_1 := blk_frozen BK306.out 1; have hczq5_0 : w8_.cell? ⟨gb307, 0, none⟩ = some (.int .i64 a1_0) := (blk_cell BK307.out 0).trans rfl; have hczq5_1 : w8_.cell? ⟨gb307, 1, none⟩ = some (.slice A1_1 l1_1.length c1_1) := (blk_cell BK307.out 1).trans rfl; have hfzq6_0 := blk_frozen BK307.out 0; have hfzq6_1 := blk_frozen BK307.out 1) | ((with_reducible refine gate_callee (f := 38) rfl ?_); refine goesL_ (some 14) rfl rfl Try.func38 (by kernel_rfl) rfl #[.slice A0_1 l0_1.length c0_1, .slice A1_1 l1_1.length c1_1] rfl (by (try simp only [List.map_toArray, List.map_cons, List.map_nil]); first | done | rfl | (simp only [List.length_drop, List.length_take]; rfl)) ?_; (with_reducible refine (laws_eqByteS.calls k _ _ l0_1 _ _ l1_1 true _ ?side1 ?side2 ?side3 ?side4 A4.out).mono ?_); (case side1 => repeat (first | exact (Kd.C_below HR0_1.out HB.out) | (with_reducible refine Kd.C_alloc ?_ _) | (with_reducible refine Kd.C_drewN ?_ _) | (with_reducible refine Kd.C_drew ?_))); (case side2 => exact HC0_1.out); (case side3 => repeat (first | exact (Kd.C_below HR1_1.out HB.out) | (with_reducible refine Kd.C_alloc ?_ _) | (with_reducible refine Kd.C_drewN ?_ _) | (with_reducible refine Kd.C_drew ?_))); (case side4 => exact HC1_1.out); rintro e w' ⟨rfl, ⟨nd, rfl⟩⟩; refine ⟨_, rfl, ?_⟩))
         go_ret
         exact ⟨by first | rfl | (simp [errW_none, errW_some] <;> rfl) | (simp [*, errW_none, errW_some] <;> rfl), by repeat (first | (with_reducible first | exact HB.out | apply below_alloc | apply pw_below_drewN | apply below_drew1 | refine below_set ?_ GE306.out | refine below_set ?_ GE307.out) | exact HB.out)⟩)
      | (go_wp2_with (first | ((with_reducible refine gate_dst (N := 2) rfl ?_); refine box_event ?hg (N := 2) ?hd (cs := #[.int .i64 a0_0, .slice A0_1 l0_1.length c0_1]) (t := 79) ?hr ?_; (case hd => rfl); (case hg => rfl); (case hr => first | (go_simp; done) | (go_simp; rfl)); intro gb306 hg w7_ hbox hb; have n0_ := Aside0.mk (below_step (by repeat (first | (with_reducible first | exact HB.out | apply below_alloc | apply pw_below_drewN | apply below_drew1) | exact HB.out)) hb); have n1_ := Aside0.mk (hbox); have n2_ := Aside0.mk ((by rw [hg]; exact (below_size (by repeat (first | (with_reducible first | exact HB.out | apply below_alloc | apply pw_below_drewN | apply below_drew1) | exact HB.out))) : w.heap.size ≤ gb306)); have n3_ := Aside0.mk ((by rw [hg]; exact (below_size (by repeat (first | (with_reducible first | exact HB.out | apply below_alloc | apply pw_below_drewN | apply below_drew1) | exact HB.out))) : w.heap.size ≤ gb306)); clear HB; have HB := n0_; have BK306 := n1_; have GW306 := n2_; have GE306 := n3_; clear n0_ n1_ n2_ n3_; clear hb hbox hg) | ((with_reducible refine gate_dst (N := 3) rfl ?_); refine box_event ?hg (N := 3) ?hd (cs := #[.int .i64 a1_0, .slice A1_1 l1_1.length c1_1]) (t := 79) ?hr ?_; (case hd => rfl); (case hg => rfl); (case hr => first | (go_simp; done) | (go_simp; rfl)); intro gb307 hg w8_ hbox hb; have n0_ := Aside0.mk (blk_below (g := gb306) (o := .cells #[.int .i64 a0_0, .slice A0_1 l0_1.length c0_1] 79 (0, 0)) (by (with_reducible repeat (first | refine blk_drewN ?_ _ | refine blk_drew ?_ | refine blk_alloc ?_ _)); exact BK306.out) hb); have n1_ := Aside0.mk (below_step (by repeat (first | (with_reducible first | exact HB.out | apply below_alloc | apply pw_below_drewN | apply below_drew1 | refine below_set ?_ GE306.out) | exact HB.out)) hb); have n2_ := Aside0.mk (hbox); have n3_ := Aside0.mk ((by rw [hg]; exact (below_size (by repeat (first | (with_reducible first | exact HB.out | apply below_alloc | apply pw_below_drewN | apply below_drew1 | refine below_set ?_ GE306.out) | exact HB.out))) : w.heap.size ≤ gb307)); have n4_ := Aside0.mk ((by rw [hg]; exact (below_size (by repeat (first | (with_reducible first | exact HB.out | apply below_alloc | apply pw_below_drewN | apply below_drew1 | refine below_set ?_ GE306.out) | exact HB.out))) : w.heap.size ≤ gb307)); have n5_ := Aside0.mk ((by rw [hg]; exact Nat.ne_of_lt (blk_lt (g := gb306) (o := .cells #[.int .i64 a0_0, .slice A0_1 l0_1.length c0_1] 79 (0, 0)) (by (with_reducible repeat (first | refine blk_drewN ?_ _ | refine blk_drew ?_ | refine blk_alloc ?_ _)); exact BK306.out)) : gb306 ≠ gb307)); have n6_ := Aside0.mk ((by rw [hg]; exact Nat.ne_of_gt (blk_lt (g := gb306) (o := .cells #[.int .i64 a0_0, .slice A0_1 l0_1.length c0_1] 79 (0, 0)) (by (with_reducible repeat (first | refine blk_drewN ?_ _ | refine blk_drew ?_ | refine blk_alloc ?_ _)); exact BK306.out)) : gb307 ≠ gb306)); clear BK306; clear HB; have BK306 := n0_; have HB := n1_; have BK307 := n2_; have GW307 := n3_; have GE307 := n4_; have NB306_307 := n5_; have NB307_306 := n6_; clear n0_ n1_ n2_ n3_ n4_ n5_ n6_; clear hb hbox hg; have hnbq1 := NB306_307.out; have hncq2 := NB307_306.out; have hczq3_0 : w8_.cell? ⟨gb306, 0, none⟩ = some (.int .i64 a0_0) := (blk_cell BK306.out 0).trans rfl; have hczq3_1 : w8_.cell? ⟨gb306, 1, none⟩ = some (.slice A0_1 l0_1.length c0_1) := (blk_cell BK306.out 1).trans rfl; have hfzq4_0 := blk_frozen BK306.out 0; have hfzq4_1 := blk_frozen BK306.out 1; have hczq5_0 : w8_.cell? ⟨gb307, 0, none⟩ = some (.int .i64 a1_0) := (blk_cell BK307.out 0).trans rfl; have hczq5_1 : w8_.cell? ⟨gb307, 1, none⟩ = some (.slice A1_1 l1_1.length c1_1) := (blk_cell BK307.out 1).trans rfl; have hfzq6_0 := blk_frozen BK307.out 0; have hfzq6_1 := blk_frozen BK307.out 1) | ((with_reducible refine gate_callee (f := 38) rfl ?_); refine goesL_ (some 14) rfl rfl Try.func38 (by kernel_rfl) rfl #[.slice A0_1 l0_1.length c0_1, .slice A1_1 l1_1.length c1_1] rfl (by (try simp only [List.map_toArray, List.map_cons, List.map_nil]); first | done | rfl | (simp only [List.length_drop, List.length_take]; rfl)) ?_; (with_reducible refine (laws_eqByteS.calls k _ _ l0_1 _ _ l1_1 false _ ?side1 ?side2 ?side3 ?side4 A4.out).mono ?_); (case side1 => repeat (first | exact (Kd.C_below HR0_1.out HB.out) | (with_reducible refine Kd.C_alloc ?_ _) | (with_reducible refine Kd.C_drewN ?_ _) | (with_reducible refine Kd.C_drew ?_))); (case side2 => exact HC0_1.out); (case side3 => repeat (first | exact (Kd.C_below HR1_1.out HB.out) | (with_reducible refine Kd.C_alloc ?_ _) | (with_reducible refine Kd.C_drewN ?_ _) | (with_reducible refine Kd.C_drew ?_))); (case side4 => exact HC1_1.out); rintro e w' ⟨rfl, ⟨nd, rfl⟩⟩; refine ⟨_, rfl, ?_⟩))
         go_ret
         exact ⟨by first | rfl | (simp [errW_none, errW_some] <;> rfl) | (simp [*, errW_none, errW_some] <;> rfl), by repeat (first | (with_reducible first | exact HB.out | apply below_alloc | apply pw_below_drewN | apply below_drew1 | refine below_set ?_ GE306.out | refine below_set ?_ GE307.out) | exact HB.out)⟩)
      | (go_wp2_with (first | ((with_reducible refine gate_dst (N := 2) rfl ?_); refine box_event ?hg (N := 2) ?hd (cs := #[.int .i64 a0_0, .slice A0_1 l0_1.length c0_1]) (t := 79) ?hr ?_; (case hd => rfl); (case hg => rfl); (case hr => first | (go_simp; done) | (go_simp; rfl)); intro gb306 hg w7_ hbox hb; have n0_ := Aside0.mk (below_step (by repeat (first | (with_reducible first | exact HB.out | apply below_alloc | apply pw_below_drewN | apply below_drew1) | exact HB.out)) hb); have n1_ := Aside0.mk (hbox); have n2_ := Aside0.mk ((by rw [hg]; exact (below_size (by repeat (first | (with_reducible first | exact HB.out | apply below_alloc | apply pw_below_drewN | apply below_drew1) | exact HB.out))) : w.heap.size ≤ gb306)); have n3_ := Aside0.mk ((by rw [hg]; exact (below_size (by repeat (first | (with_reducible first | exact HB.out | apply below_alloc | apply pw_below_drewN | apply below_drew1) | exact HB.out))) : w.heap.size ≤ gb306)); clear HB; have HB := n0_; have BK306 := n1_; have GW306 := n2_; have GE306 := n3_; clear n0_ n1_ n2_ n3_; clear hb hbox hg) | ((with_reducible refine gate_dst (N := 3) rfl ?_); refine box_event ?hg (N := 3) ?hd (cs := #[.int .i64 a1_0, .slice A1_1 l1_1.length c1_1]) (t := 79) ?hr ?_; (case hd => rfl); (case hg => rfl); (case hr => first | (go_simp; done) | (go_simp; rfl)); intro gb307 hg w8_ hbox hb; have n0_ := Aside0.mk (blk_below (g := gb306) (o := .cells #[.int .i64 a0_0, .slice A0_1 l0_1.length c0_1] 79 (0, 0)) (by (with_reducible repeat (first | refine blk_drewN ?_ _ | refine blk_drew ?_ | refine blk_alloc ?_ _)); exact BK306.out) hb); have n1_ := Aside0.mk (below_step (by repeat (first | (with_reducible first | exact HB.out | apply below_alloc | apply pw_below_drewN | apply below_drew1 | refine below_set ?_ GE306.out) | exact HB.out)) hb); have n2_ := Aside0.mk (hbox); have n3_ := Aside0.mk ((by rw [hg]; exact (below_size (by repeat (first | (with_reducible first | exact HB.out | apply below_alloc | apply pw_below_drewN | apply below_drew1 | refine below_set ?_ GE306.out) | exact HB.out))) : w.heap.size ≤ gb307)); have n4_ := Aside0.mk ((by rw [hg]; exact (below_size (by repeat (first | (with_reducible first | exact HB.out | apply below_alloc | apply pw_below_drewN | apply below_drew1 | refine below_set ?_ GE306.out) | exact HB.out))) : w.heap.size ≤ gb307)); have n5_ := Aside0.mk ((by rw [hg]; exact Nat.ne_of_lt (blk_lt (g := gb306) (o := .cells #[.int .i64 a0_0, .slice A0_1 l0_1.length c0_1] 79 (0, 0)) (by (with_reducible repeat (first | refine blk_drewN ?_ _ | refine blk_drew ?_ | refine blk_alloc ?_ _)); exact BK306.out)) : gb306 ≠ gb307)); have n6_ := Aside0.mk ((by rw [hg]; exact Nat.ne_of_gt (blk_lt (g := gb306) (o := .cells #[.int .i64 a0_0, .slice A0_1 l0_1.length c0_1] 79 (0, 0)) (by (with_reducible repeat (first | refine blk_drewN ?_ _ | refine blk_drew ?_ | refine blk_alloc ?_ _)); exact BK306.out)) : gb307 ≠ gb306)); clear BK306; clear HB; have BK306 := n0_; have HB := n1_; have BK307 := n2_; have GW307 := n3_; have GE307 := n4_; have NB306_307 := n5_; have NB307_306 := n6_; clear n0_ n1_ n2_ n3_ n4_ n5_ n6_; clear hb hbox hg; have hnbq1 := NB306_307.out; have hncq2 := NB307_306.out; have hczq3_0 : w8_.cell? ⟨gb306, 0, none⟩ = some (.int .i64 a0_0) := (blk_cell BK306.out 0).trans rfl; have hczq3_1 : w8_.cell? ⟨gb306, 1, none⟩ = some (.slice A0_1 l0_1.length c0_1) := (blk_cell BK306.out 1).trans rfl; have hfzq4_0 := blk_frozen BK306.out 0; have hfzq4_1 := blk_frozen BK306.out 1; have hczq5_0 : w8_.cell? ⟨gb307, 0, none⟩ = some (.int .i64 a1_0) := (blk_cell BK307.out 0).trans rfl; have hczq5_1 : w8_.cell? ⟨gb307, 1, none⟩ = some (.slice A1_1 l1_1.length c1_1) := (blk_cell BK307.out 1).trans rfl; have hfzq6_0 := blk_frozen BK307.out 0; have hfzq6_1 := blk_frozen BK307.out 1))
         go_ret
         exact ⟨by first | rfl | (simp [errW_none, errW_some] <;> rfl) | (simp [*, errW_none, errW_some] <;> rfl), by repeat (first | (with_reducible first | exact HB.out | apply below_alloc | apply pw_below_drewN | apply below_drew1 | refine below_set ?_ GE306.out | refine below_set ?_ GE307.out) | exact HB.out)⟩)

/-! ### laws_eqPendS: function 65 -/
def laws_eqPendS.l0 : Nat → List (S79) → List (S79) → Int → Option (Bool)
  | 0, _, _, _ => none
  | k + 1, x0, x1, x5 => if x5 < (x0.length : Int) then (if 0 ≤ x5 then (if x5 < (x1.length : Int) then ((laws_eqPend.f k ((rd_T79 x0 x5).f0) ((rd_T79 x0 x5).f1) ((rd_T79 x1 x5).f0) ((rd_T79 x1 x5).f1)).bind fun t311 => (if t311 = true then (laws_eqPendS.l0 k x0 x1 (wrap64 (x5 + 1))) else (some false))) else (none)) else (none)) else (some true)
def laws_eqPendS.f (k : Nat) (l0 : List (S79)) (l1 : List (S79)) : Option (Bool) := if (l0.length : Int) = (l1.length : Int) then (laws_eqPendS.l0 k l0 l1 0) else (some false)
theorem laws_eqPendS.mono_l : ∀ k, (∀ y0 y1 y2, LeO (laws_eqPendS.l0 k y0 y1 y2) (laws_eqPendS.l0 (k + 1) y0 y1 y2))
  | 0 => fun _ _ _ r h => by simp [laws_eqPendS.l0] at h
  | k + 1 => by
    have ih0 := laws_eqPendS.mono_l k
    · intro y0 y1 y2
      unfold laws_eqPendS.l0
      repeat' first
      | (with_reducible exact ih0 _ _ _)
      | (with_reducible exact laws_eqPend.mono _ _ _ _ _)
      | (with_reducible exact LeO.refl _)
      | (with_reducible exact LeO.none _)
      | (with_reducible refine LeO.ite ?_ ?_)
      | (with_reducible refine LeO.bind ?_ (fun _ => ?_))
      | exact ih0 _ _ _
      | exact laws_eqPend.mono _ _ _ _ _
      | exact LeO.none _
      | refine LeO.ite ?_ ?_
      | refine LeO.bind ?_ (fun _ => ?_)
theorem laws_eqPendS.mono : ∀ a0 a1 k, LeO (laws_eqPendS.f k a0 a1) (laws_eqPendS.f (k + 1) a0 a1) := by
  intro a0 a1 k
  have ih0 := laws_eqPendS.mono_l k
  unfold laws_eqPendS.f
  repeat' first
      | (with_reducible exact ih0 _ _ _)
      | (with_reducible exact laws_eqPend.mono _ _ _ _ _)
      | (with_reducible exact LeO.refl _)
      | (with_reducible exact LeO.none _)
      | (with_reducible refine LeO.ite ?_ ?_)
      | (with_reducible refine LeO.bind ?_ (fun _ => ?_))
      | exact ih0 _ _ _
      | exact laws_eqPend.mono _ _ _ _ _
      | exact LeO.none _
      | refine LeO.ite ?_ ?_
      | refine LeO.bind ?_ (fun _ => ?_)
def laws_eqPendS.T6 : Bool × List (List Nat × List Nat) := (true, [([], []), ([], []), ([0, 1], [0, 1]), ([2], [2]), ([], []), ([], []), ([4, 5], [4, 5]), ([6], [6]), ([3, 7], [3, 7]), ([8], [8])])
def laws_eqPendS.B6 : List Nat := [0, 0, 3, 7, 0, 0, 48, 112, 255, 511]
theorem laws_eqPendS.tab6 : rtab .any (opsOf Try.f65 6) = laws_eqPendS.T6 := by kernel_rfl
theorem laws_eqPendS.bits6 : waitsOk laws_eqPendS.T6.2 laws_eqPendS.B6 = true := by kernel_rfl
set_option maxHeartbeats 8000000 in
set_option maxRecDepth 100000 in
theorem laws_eqPendS.calls (k : Nat) (A0 : Option Addr) (c0 : Nat) (l0 : List (S79)) (A1 : Option Addr) (c1 : Nat) (l1 : List (S79)) (r : Bool) (w : World) (hr0 : Kd.C k79 w A0 l0.length l0) (hc0 : l0.length ≤ c0) (hr1 : Kd.C k79 w A1 l1.length l1) (hc1 : l1.length ≤ c1) (h : laws_eqPendS.f k l0 l1 = some r) :
    Calls Try.prog 65 #[.slice A0 l0.length c0, .slice A1 l1.length c1] w fun e w' => e = .returned (.bool r) ∧ Below w.heap.size w w' := by
  have hu79 := Try.underlying79
  have HR0 := Aside0.mk hr0
  have HC0 := Aside0.mk hc0
  clear hr0 hc0
  have HR1 := Aside0.mk hr1
  have HC1 := Aside0.mk hc1
  clear hr1 hc1
  have HB := Aside0.mk (Below.refl w.heap.size w)
  have H : (if (l0.length : Int) = (l1.length : Int) then (laws_eqPendS.l0 k l0 l1 0) else (some false)) = some r := h
  clear h
  by_cases c3 : (l0.length : Int) = (l1.length : Int)
  · rw [if_pos c3] at H
    have c3b0 : ((l0.length : Int) == (l1.length : Int)) = true := beq_iff_eq.mpr c3
    have c3b1 : ((l0.length : Int) != (l1.length : Int)) = false := bne_eq_false_iff_eq.mpr c3
    have c3b2 : (l0.length == l1.length) = true := by first | simpa using c3 | (simp at c3 ⊢; omega)
    clear c3
    have H' := Aside0.mk H
    clear H
    go_enter Try.func65, Try.ntmps65
    go_wp2
    go_loopg [5] k (fun kq v5 w' => ∃ (x5_1 : Int), v5 = .int .i64 x5_1 ∧ Aside0 (laws_eqPendS.l0 kq l0 l1 x5_1 = some r) ∧ Aside0 (kq ≤ k) ∧ Aside0 (Below w.heap.size w w'))
    case atStart => exact ⟨(0), (by first | rfl | (simp; done) | (simp [*]; done)), H', ⟨Nat.le_refl _⟩, ⟨by repeat (first | (with_reducible first | exact HB.out | apply below_alloc | apply pw_below_drewN | apply below_drew1) | exact HB.out)⟩⟩
    case round =>
      clear H'
      try clear c1
      try clear p2
      try clear c3
      try clear c3b0
      try clear c3b1
      try clear c3b2
      obtain ⟨x5_1, rfl, HA, HK1, HB⟩ := hrel
      cases gk with
      | zero => exact absurd HA.out (by simp [laws_eqPendS.l0])
      | succ k1 =>
        have H := HA.out
        clear HA
        simp only [laws_eqPendS.l0] at H
        by_cases c4 : x5_1 < (l0.length : Int)
        · rw [if_pos c4] at H
          have c4b0 : decide (x5_1 < (l0.length : Int)) = true := decide_eq_true c4
          clear c4
          by_cases c5 : 0 ≤ x5_1
          · rw [if_pos c5] at H
            have c5b0 : decide (0 ≤ x5_1) = true := decide_eq_true c5
            clear c5
            by_cases c6 : x5_1 < (l1.length : Int)
            · rw [if_pos c6] at H
              have c6b0 : decide (x5_1 < (l1.length : Int)) = true := decide_eq_true c6
              clear c6
              replace H := Option.bind_eq_some_iff.mp H
              obtain ⟨t311, A70, H⟩ := H
              replace H : (if t311 = true then (laws_eqPendS.l0 k1 l0 l1 (wrap64 (x5_1 + 1))) else (some false)) = some r := H
              have A7 := Aside0.mk A70
              clear A70
              by_cases c8 : t311 = true
              · subst c8
                have H1 : (laws_eqPendS.l0 k1 l0 l1 (wrap64 (x5_1 + 1))) = some r := by rw [if_pos rfl] at H; exact H
                clear H
                have H := H1
                clear H1
                have H' := Aside0.mk H
                clear H
                try go_wp2
                have n0_ := Aside0.mk (below_drew1 HB.out)
                clear HB
                have HB := n0_
                clear n0_
                have p309 : 0 ≤ (x5_1 : Int) := of_decide_eq_true (by first | (with_reducible assumption) | assumption)
                have q309 : x5_1 < (l0.length : Int) := of_decide_eq_true (by first | (with_reducible assumption) | assumption)
                obtain ⟨ad309, A309_1, c309_1, e309, hx309_0, hx309_1, hl309_1, hi309_1⟩ := at_T79 HR0.out x5_1 p309 q309
                have hw309_1 := hx309_1
                have hw309_0 := hx309_0
                cases e309
                replace hx309_0 := (HB.out.cell (World.block_lt_of_cell? w _ hx309_0)).trans hx309_0
                replace hx309_1 := (HB.out.cell (World.block_lt_of_cell? w _ hx309_1)).trans hx309_1
                have HR309_1 := Aside0.mk hi309_1
                have HC309_1 := Aside0.mk hl309_1
                clear hi309_1 hl309_1
                replace p309 := eq_true p309
                replace q309 := eq_true q309
                have p310 : 0 ≤ (x5_1 : Int) := of_decide_eq_true (by first | (with_reducible assumption) | assumption)
                have q310 : x5_1 < (l1.length : Int) := of_decide_eq_true (by first | (with_reducible assumption) | assumption)
                obtain ⟨ad310, A310_1, c310_1, e310, hx310_0, hx310_1, hl310_1, hi310_1⟩ := at_T79 HR1.out x5_1 p310 q310
                have hw310_1 := hx310_1
                have hw310_0 := hx310_0
                cases e310
                replace hx310_0 := (HB.out.cell (World.block_lt_of_cell? w _ hx310_0)).trans hx310_0
                replace hx310_1 := (HB.out.cell (World.block_lt_of_cell? w _ hx310_1)).trans hx310_1
                have HR310_1 := Aside0.mk hi310_1
                have HC310_1 := Aside0.mk hl310_1
                clear hi310_1 hl310_1
                replace p310 := eq_true p310
                replace q310 := eq_true q310
                refine start_ (n := 10) (S := fun w' => w'.cell? (ad309.add ((x5_1).toNat * 2)) = some (.int .i64 ((rd_T79 l0 x5_1).f0)) ∧ w'.cell? ⟨(ad309.add ((x5_1).toNat * 2)).block, (ad309.add ((x5_1).toNat * 2)).off + 1, none⟩ = some (.slice A309_1 ((rd_T79 l0 x5_1).f1).length c309_1) ∧ w'.cell? (ad310.add ((x5_1).toNat * 2)) = some (.int .i64 ((rd_T79 l1 x5_1).f0)) ∧ w'.cell? ⟨(ad310.add ((x5_1).toNat * 2)).block, (ad310.add ((x5_1).toNat * 2)).off + 1, none⟩ = some (.slice A310_1 ((rd_T79 l1 x5_1).f1).length c310_1)) (ds := []) #[false, false, false, false, false, false, false, false, false, false] (by kernel_rfl) rfl rfl ⟨((HB.out.cell (World.block_lt_of_cell? w _ hw309_0)).trans hw309_0), ((HB.out.cell (World.block_lt_of_cell? w _ hw309_1)).trans hw309_1), ((HB.out.cell (World.block_lt_of_cell? w _ hw310_0)).trans hw310_0), ((HB.out.cell (World.block_lt_of_cell? w _ hw310_1)).trans hw310_1)⟩ (fun hHeld => ?_); refine with_tabW laws_eqPendS.tab6 laws_eqPendS.bits6 (fun HT_ HW_ => ?_)
                generalize wr.drew = w9 at HB HR309_1 HR310_1 hx309_0 hx309_1 hx310_0 hx310_1 hHeld ⊢
                refine pure_ (i := 0) (N := some 17) (v := ?_) (a' := ?_) #[true, false, false, false, false, false, false, false, false, false] rfl rfl (any_of HT_.out (by kernel_rfl)) (fun _ _ _ h => h) (Or.inl ⟨by rfl, ?_⟩) ?_ ?_
                rotate_left
                · intro w'
                  go_simp
                  with_reducible rfl
                rotate_left
                · simp only [Act.put, List.setIfInBounds_toArray, List.set_cons_zero, List.set_cons_succ, i64_w, i32_w]
                  rfl
                refine pure_ (i := 1) (N := some 18) (v := ?_) (a' := ?_) #[true, true, false, false, false, false, false, false, false, false] rfl rfl (any_of HT_.out (by kernel_rfl)) (fun _ _ _ h => h) (Or.inl ⟨by rfl, ?_⟩) ?_ ?_
                rotate_left
                · intro w'
                  go_simp
                  with_reducible rfl
                rotate_left
                · simp only [Act.put, List.setIfInBounds_toArray, List.set_cons_zero, List.set_cons_succ, i64_w, i32_w]
                  rfl
                refine pure_ (i := 2) (N := some 19) (v := ?_) (a' := ?_) #[true, true, true, false, false, false, false, false, false, false] rfl rfl (any_of HT_.out (by kernel_rfl)) (fun _ _ _ h => h) (Or.inl ⟨by rfl, ?_⟩) ?_ ?_
                rotate_left
                · intro w'
                  go_simp
                  with_reducible rfl
                rotate_left
                · simp only [Act.put, List.setIfInBounds_toArray, List.set_cons_zero, List.set_cons_succ, i64_w, i32_w]
                  rfl
                refine pure_ (i := 4) (N := some 21) (v := ?_) (a' := ?_) #[true, true, true, false, true, false, false, false, false, false] rfl rfl (any_of HT_.out (by kernel_rfl)) (fun _ _ _ h => h) (Or.inl ⟨by rfl, ?_⟩) ?_ ?_
                rotate_left
                · intro w'
                  go_simp
                  with_reducible rfl
                rotate_left
                · simp only [Act.put, List.setIfInBounds_toArray, List.set_cons_zero, List.set_cons_succ, i64_w, i32_w]
                  rfl
                refine pure_ (i := 5) (N := some 22) (v := ?_) (a' := ?_) #[true, true, true, false, true, true, false, false, false, false] rfl rfl (any_of HT_.out (by kernel_rfl)) (fun _ _ _ h => h) (Or.inl ⟨by rfl, ?_⟩) ?_ ?_
                rotate_left
                · intro w'
                  go_simp
                  with_reducible rfl
                rotate_left
                · simp only [Act.put, List.setIfInBounds_toArray, List.set_cons_zero, List.set_cons_succ, i64_w, i32_w]
                  rfl
                refine pure_ (i := 6) (N := some 23) (v := ?_) (a' := ?_) #[true, true, true, false, true, true, true, false, false, false] rfl rfl (any_of HT_.out (by kernel_rfl)) (fun _ _ _ h => h) (Or.inl ⟨by rfl, ?_⟩) ?_ ?_
                rotate_left
                · intro w'
                  go_simp
                  with_reducible rfl
                rotate_left
                · simp only [Act.put, List.setIfInBounds_toArray, List.set_cons_zero, List.set_cons_succ, i64_w, i32_w]
                  rfl
                refine take_ (i := 3) (N := some 20) (v := ?_) (a' := ?_) #[true, true, true, true, true, true, true, false, false, false] rfl rfl (take_ofW HT_.out HW_.out (by kernel_rfl)) (fun _ _ _ h => h) (Or.inl ⟨by rfl, ?_⟩) hHeld ?_ ?_
                rotate_left
                · rintro w' ⟨s0, s1, s2, s3⟩
                  go_simp
                  with_reducible rfl
                rotate_left
                · simp only [Act.put, List.setIfInBounds_toArray, List.set_cons_zero, List.set_cons_succ, i64_w, i32_w]
                  rfl
                refine take_ (i := 7) (N := some 24) (v := ?_) (a' := ?_) #[true, true, true, true, true, true, true, true, false, false] rfl rfl (take_ofW HT_.out HW_.out (by kernel_rfl)) (fun _ _ _ h => h) (Or.inl ⟨by rfl, ?_⟩) hHeld ?_ ?_
                rotate_left
                · rintro w' ⟨s0, s1, s2, s3⟩
                  go_simp
                  with_reducible rfl
                rotate_left
                · simp only [Act.put, List.setIfInBounds_toArray, List.set_cons_zero, List.set_cons_succ, i64_w, i32_w]
                  rfl
                refine one_ (i := 8) (N := some 25) #[true, true, true, true, true, true, true, true, true, false] rfl rfl (one_of HT_.out (by kernel_rfl)) (by decide) (fun K hK => ?_)
                refine goes_ Try.func110 (by kernel_rfl) rfl #[.agg #[.int .i64 ((rd_T79 l0 x5_1).f0), .slice A309_1 ((rd_T79 l0 x5_1).f1).length c309_1], .agg #[.int .i64 ((rd_T79 l1 x5_1).f0), .slice A310_1 ((rd_T79 l1 x5_1).f1).length c310_1]] (by rfl) rfl rfl (by (try simp only [List.map_toArray, List.map_cons, List.map_nil]); first | done | rfl | (simp only [List.length_drop, List.length_take]; rfl)) ?_
                with_reducible refine (laws_eqPend.calls k1 ((rd_T79 l0 x5_1).f0) _ _ ((rd_T79 l0 x5_1).f1) ((rd_T79 l1 x5_1).f0) _ _ ((rd_T79 l1 x5_1).f1) true _ ?side1 ?side2 ?side3 ?side4 A7.out).mono ?_
                (case side1 => repeat (first | exact (Kd.C_below HR309_1.out HB.out) | (with_reducible refine Kd.C_alloc ?_ _) | (with_reducible refine Kd.C_drewN ?_ _) | (with_reducible refine Kd.C_drew ?_)))
                (case side2 => exact HC309_1.out)
                (case side3 => repeat (first | exact (Kd.C_below HR310_1.out HB.out) | (with_reducible refine Kd.C_alloc ?_ _) | (with_reducible refine Kd.C_drewN ?_ _) | (with_reducible refine Kd.C_drew ?_)))
                (case side4 => exact HC310_1.out)
                rintro e w10 ⟨rfl, hb⟩
                refine ⟨_, rfl, ?_⟩
                have n0_ := Aside0.mk (below_step (by repeat (first | (with_reducible first | exact HB.out | apply below_alloc | apply pw_below_drewN | apply below_drew1) | exact HB.out)) hb)
                clear HB
                have HB := n0_
                clear n0_
                (try clear hb)
                (try clear hb2)
                (try clear hk)
                (try clear hi)
                refine hK.out _ _ ⟨((HB.out.cell (World.block_lt_of_cell? w _ hw309_0)).trans hw309_0), ((HB.out.cell (World.block_lt_of_cell? w _ hw309_1)).trans hw309_1), ((HB.out.cell (World.block_lt_of_cell? w _ hw310_0)).trans hw310_0), ((HB.out.cell (World.block_lt_of_cell? w _ hw310_1)).trans hw310_1)⟩ (fun hHeld => ?_)
                clear hK K
                refine norm_ (a' := ?_) ?_ ?_
                rotate_left
                · show Act.put _ (some 25) _ = _
                  simp only [Act.put, List.setIfInBounds_toArray, List.set_cons_zero, List.set_cons_succ, i64_w, i32_w]
                  rfl
                refine pure_ (i := 9) (N := some 26) (v := ?_) (a' := ?_) #[true, true, true, true, true, true, true, true, true, true] rfl rfl (any_of HT_.out (by kernel_rfl)) (fun _ _ _ h => h) (Or.inl ⟨by rfl, ?_⟩) ?_ ?_
                rotate_left
                · intro w'
                  go_simp
                  with_reducible rfl
                rotate_left
                · simp only [Act.put, List.setIfInBounds_toArray, List.set_cons_zero, List.set_cons_succ, i64_w, i32_w]
                  rfl
                refine done_ (done_of HT_.out (by kernel_rfl)) ?_
                try go_wp2
                go_roundg k1
                case measure => have := HK1.out; omega
                case rel => exact ⟨(wrap64 (x5_1 + 1)), (by first | rfl | (simp; done) | (simp [*]; done)), H', ⟨by have := HK1.out; omega⟩, ⟨by repeat (first | (with_reducible first | exact HB.out | apply below_alloc | apply pw_below_drewN | apply below_drew1) | exact HB.out)⟩⟩
              · replace c8 := Bool.eq_false_iff.mpr c8
                subst c8
                have H1 : (some false) = some r := by rw [if_neg (show ¬ (false = true) by decide)] at H; exact H
                clear H
                have H := H1
                clear H1
                obtain rfl := Option.some.inj H
                try go_wp2
                have n0_ := Aside0.mk (below_drew1 HB.out)
                clear HB
                have HB := n0_
                clear n0_
                have p309 : 0 ≤ (x5_1 : Int) := of_decide_eq_true (by first | (with_reducible assumption) | assumption)
                have q309 : x5_1 < (l0.length : Int) := of_decide_eq_true (by first | (with_reducible assumption) | assumption)
                obtain ⟨ad309, A309_1, c309_1, e309, hx309_0, hx309_1, hl309_1, hi309_1⟩ := at_T79 HR0.out x5_1 p309 q309
                have hw309_1 := hx309_1
                have hw309_0 := hx309_0
                cases e309
                replace hx309_0 := (HB.out.cell (World.block_lt_of_cell? w _ hx309_0)).trans hx309_0
                replace hx309_1 := (HB.out.cell (World.block_lt_of_cell? w _ hx309_1)).trans hx309_1
                have HR309_1 := Aside0.mk hi309_1
                have HC309_1 := Aside0.mk hl309_1
                clear hi309_1 hl309_1
                replace p309 := eq_true p309
                replace q309 := eq_true q309
                have p310 : 0 ≤ (x5_1 : Int) := of_decide_eq_true (by first | (with_reducible assumption) | assumption)
                have q310 : x5_1 < (l1.length : Int) := of_decide_eq_true (by first | (with_reducible assumption) | assumption)
                obtain ⟨ad310, A310_1, c310_1, e310, hx310_0, hx310_1, hl310_1, hi310_1⟩ := at_T79 HR1.out x5_1 p310 q310
                have hw310_1 := hx310_1
                have hw310_0 := hx310_0
                cases e310
                replace hx310_0 := (HB.out.cell (World.block_lt_of_cell? w _ hx310_0)).trans hx310_0
                replace hx310_1 := (HB.out.cell (World.block_lt_of_cell? w _ hx310_1)).trans hx310_1
                have HR310_1 := Aside0.mk hi310_1
                have HC310_1 := Aside0.mk hl310_1
                clear hi310_1 hl310_1
                replace p310 := eq_true p310
                replace q310 := eq_true q310
                refine start_ (n := 10) (S := fun w' => w'.cell? (ad309.add ((x5_1).toNat * 2)) = some (.int .i64 ((rd_T79 l0 x5_1).f0)) ∧ w'.cell? ⟨(ad309.add ((x5_1).toNat * 2)).block, (ad309.add ((x5_1).toNat * 2)).off + 1, none⟩ = some (.slice A309_1 ((rd_T79 l0 x5_1).f1).length c309_1) ∧ w'.cell? (ad310.add ((x5_1).toNat * 2)) = some (.int .i64 ((rd_T79 l1 x5_1).f0)) ∧ w'.cell? ⟨(ad310.add ((x5_1).toNat * 2)).block, (ad310.add ((x5_1).toNat * 2)).off + 1, none⟩ = some (.slice A310_1 ((rd_T79 l1 x5_1).f1).length c310_1)) (ds := []) #[false, false, false, false, false, false, false, false, false, false] (by kernel_rfl) rfl rfl ⟨((HB.out.cell (World.block_lt_of_cell? w _ hw309_0)).trans hw309_0), ((HB.out.cell (World.block_lt_of_cell? w _ hw309_1)).trans hw309_1), ((HB.out.cell (World.block_lt_of_cell? w _ hw310_0)).trans hw310_0), ((HB.out.cell (World.block_lt_of_cell? w _ hw310_1)).trans hw310_1)⟩ (fun hHeld => ?_); refine with_tabW laws_eqPendS.tab6 laws_eqPendS.bits6 (fun HT_ HW_ => ?_)
                generalize wr.drew = w11 at HB HR309_1 HR310_1 hx309_0 hx309_1 hx310_0 hx310_1 hHeld ⊢
                refine pure_ (i := 0) (N := some 17) (v := ?_) (a' := ?_) #[true, false, false, false, false, false, false, false, false, false] rfl rfl (any_of HT_.out (by kernel_rfl)) (fun _ _ _ h => h) (Or.inl ⟨by rfl, ?_⟩) ?_ ?_
                rotate_left
                · intro w'
                  go_simp
                  with_reducible rfl
                rotate_left
                · simp only [Act.put, List.setIfInBounds_toArray, List.set_cons_zero, List.set_cons_succ, i64_w, i32_w]
                  rfl
                refine pure_ (i := 1) (N := some 18) (v := ?_) (a' := ?_) #[true, true, false, false, false, false, false, false, false, false] rfl rfl (any_of HT_.out (by kernel_rfl)) (fun _ _ _ h => h) (Or.inl ⟨by rfl, ?_⟩) ?_ ?_
                rotate_left
                · intro w'
                  go_simp
                  with_reducible rfl
                rotate_left
                · simp only [Act.put, List.setIfInBounds_toArray, List.set_cons_zero, List.set_cons_succ, i64_w, i32_w]
                  rfl
                refine pure_ (i := 2) (N := some 19) (v := ?_) (a' := ?_) #[true, true, true, false, false, false, false, false, false, false] rfl rfl (any_of HT_.out (by kernel_rfl)) (fun _ _ _ h => h) (Or.inl ⟨by rfl, ?_⟩) ?_ ?_
                rotate_left
                · intro w'
                  go_simp
                  with_reducible rfl
                rotate_left
                · simp only [Act.put, List.setIfInBounds_toArray, List.set_cons_zero, List.set_cons_succ, i64_w, i32_w]
                  rfl
                refine pure_ (i := 4) (N := some 21) (v := ?_) (a' := ?_) #[true, true, true, false, true, false, false, false, false, false] rfl rfl (any_of HT_.out (by kernel_rfl)) (fun _ _ _ h => h) (Or.inl ⟨by rfl, ?_⟩) ?_ ?_
                rotate_left
                · intro w'
                  go_simp
                  with_reducible rfl
                rotate_left
                · simp only [Act.put, List.setIfInBounds_toArray, List.set_cons_zero, List.set_cons_succ, i64_w, i32_w]
                  rfl
                refine pure_ (i := 5) (N := some 22) (v := ?_) (a' := ?_) #[true, true, true, false, true, true, false, false, false, false] rfl rfl (any_of HT_.out (by kernel_rfl)) (fun _ _ _ h => h) (Or.inl ⟨by rfl, ?_⟩) ?_ ?_
                rotate_left
                · intro w'
                  go_simp
                  with_reducible rfl
                rotate_left
                · simp only [Act.put, List.setIfInBounds_toArray, List.set_cons_zero, List.set_cons_succ, i64_w, i32_w]
                  rfl
                refine pure_ (i := 6) (N := some 23) (v := ?_) (a' := ?_) #[true, true, true, false, true, true, true, false, false, false] rfl rfl (any_of HT_.out (by kernel_rfl)) (fun _ _ _ h => h) (Or.inl ⟨by rfl, ?_⟩) ?_ ?_
                rotate_left
                · intro w'
                  go_simp
                  with_reducible rfl
                rotate_left
                · simp only [Act.put, List.setIfInBounds_toArray, List.set_cons_zero, List.set_cons_succ, i64_w, i32_w]
                  rfl
                refine take_ (i := 3) (N := some 20) (v := ?_) (a' := ?_) #[true, true, true, true, true, true, true, false, false, false] rfl rfl (take_ofW HT_.out HW_.out (by kernel_rfl)) (fun _ _ _ h => h) (Or.inl ⟨by rfl, ?_⟩) hHeld ?_ ?_
                rotate_left
                · rintro w' ⟨s0, s1, s2, s3⟩
                  go_simp
                  with_reducible rfl
                rotate_left
                · simp only [Act.put, List.setIfInBounds_toArray, List.set_cons_zero, List.set_cons_succ, i64_w, i32_w]
                  rfl
                refine take_ (i := 7) (N := some 24) (v := ?_) (a' := ?_) #[true, true, true, true, true, true, true, true, false, false] rfl rfl (take_ofW HT_.out HW_.out (by kernel_rfl)) (fun _ _ _ h => h) (Or.inl ⟨by rfl, ?_⟩) hHeld ?_ ?_
                rotate_left
                · rintro w' ⟨s0, s1, s2, s3⟩
                  go_simp
                  with_reducible rfl
                rotate_left
                · simp only [Act.put, List.setIfInBounds_toArray, List.set_cons_zero, List.set_cons_succ, i64_w, i32_w]
                  rfl
                refine one_ (i := 8) (N := some 25) #[true, true, true, true, true, true, true, true, true, false] rfl rfl (one_of HT_.out (by kernel_rfl)) (by decide) (fun K hK => ?_)
                refine goes_ Try.func110 (by kernel_rfl) rfl #[.agg #[.int .i64 ((rd_T79 l0 x5_1).f0), .slice A309_1 ((rd_T79 l0 x5_1).f1).length c309_1], .agg #[.int .i64 ((rd_T79 l1 x5_1).f0), .slice A310_1 ((rd_T79 l1 x5_1).f1).length c310_1]] (by rfl) rfl rfl (by (try simp only [List.map_toArray, List.map_cons, List.map_nil]); first | done | rfl | (simp only [List.length_drop, List.length_take]; rfl)) ?_
                with_reducible refine (laws_eqPend.calls k1 ((rd_T79 l0 x5_1).f0) _ _ ((rd_T79 l0 x5_1).f1) ((rd_T79 l1 x5_1).f0) _ _ ((rd_T79 l1 x5_1).f1) false _ ?side1 ?side2 ?side3 ?side4 A7.out).mono ?_
                (case side1 => repeat (first | exact (Kd.C_below HR309_1.out HB.out) | (with_reducible refine Kd.C_alloc ?_ _) | (with_reducible refine Kd.C_drewN ?_ _) | (with_reducible refine Kd.C_drew ?_)))
                (case side2 => exact HC309_1.out)
                (case side3 => repeat (first | exact (Kd.C_below HR310_1.out HB.out) | (with_reducible refine Kd.C_alloc ?_ _) | (with_reducible refine Kd.C_drewN ?_ _) | (with_reducible refine Kd.C_drew ?_)))
                (case side4 => exact HC310_1.out)
                rintro e w12 ⟨rfl, hb⟩
                refine ⟨_, rfl, ?_⟩
                have n0_ := Aside0.mk (below_step (by repeat (first | (with_reducible first | exact HB.out | apply below_alloc | apply pw_below_drewN | apply below_drew1) | exact HB.out)) hb)
                clear HB
                have HB := n0_
                clear n0_
                (try clear hb)
                (try clear hb2)
                (try clear hk)
                (try clear hi)
                refine hK.out _ _ ⟨((HB.out.cell (World.block_lt_of_cell? w _ hw309_0)).trans hw309_0), ((HB.out.cell (World.block_lt_of_cell? w _ hw309_1)).trans hw309_1), ((HB.out.cell (World.block_lt_of_cell? w _ hw310_0)).trans hw310_0), ((HB.out.cell (World.block_lt_of_cell? w _ hw310_1)).trans hw310_1)⟩ (fun hHeld => ?_)
                clear hK K
                refine norm_ (a' := ?_) ?_ ?_
                rotate_left
                · show Act.put _ (some 25) _ = _
                  simp only [Act.put, List.setIfInBounds_toArray, List.set_cons_zero, List.set_cons_succ, i64_w, i32_w]
                  rfl
                refine pure_ (i := 9) (N := some 26) (v := ?_) (a' := ?_) #[true, true, true, true, true, true, true, true, true, true] rfl rfl (any_of HT_.out (by kernel_rfl)) (fun _ _ _ h => h) (Or.inl ⟨by rfl, ?_⟩) ?_ ?_
                rotate_left
                · intro w'
                  go_simp
                  with_reducible rfl
                rotate_left
                · simp only [Act.put, List.setIfInBounds_toArray, List.set_cons_zero, List.set_cons_succ, i64_w, i32_w]
                  rfl
                refine done_ (done_of HT_.out (by kernel_rfl)) ?_
                try go_wp2
                go_ret
                exact ⟨by first | rfl | (simp [errW_none, errW_some] <;> rfl) | (simp [*, errW_none, errW_some] <;> rfl), by repeat (first | (with_reducible first | exact HB.out | apply below_alloc | apply pw_below_drewN | apply below_drew1) | exact HB.out)⟩
            · rw [if_neg c6] at H
              exact absurd H (by simp)
          · rw [if_neg c5] at H
            exact absurd H (by simp)
        · rw [if_neg c4] at H
          have c4b0 : decide (x5_1 < (l0.length : Int)) = false := decide_eq_false c4
          clear c4
          obtain rfl := Option.some.inj H
          go_wp2
          go_ret
          exact ⟨by first | rfl | (simp [errW_none, errW_some] <;> rfl) | (simp [*, errW_none, errW_some] <;> rfl), by repeat (first | (with_reducible first | exact HB.out | apply below_alloc | apply pw_below_drewN | apply below_drew1) | exact HB.out)⟩
  · rw [if_neg c3] at H
    have c3b0 : ((l0.length : Int) == (l1.length : Int)) = false := beq_eq_false_iff_ne.mpr c3
    have c3b1 : ((l0.length : Int) != (l1.length : Int)) = true := bne_iff_ne.mpr c3
    have c3b2 : (l0.length == l1.length) = false := by first | simpa using c3 | (simp at c3 ⊢; omega)
    obtain rfl := Option.some.inj H
    go_enter Try.func65, Try.ntmps65
    go_wp2
    go_ret
    exact ⟨by first | rfl | (simp [errW_none, errW_some] <;> rfl) | (simp [*, errW_none, errW_some] <;> rfl), by repeat (first | (with_reducible first | exact HB.out | apply below_alloc | apply pw_below_drewN | apply below_drew1) | exact HB.out)⟩

/-! ### laws_eqDisk: function 24 -/
def laws_eqDisk.f (k : Nat) (l0_0 : List Int) (l0_1 : List (S79)) (a0_2 : Int) (a0_3 : Bool) (l1_0 : List Int) (l1_1 : List (S79)) (a1_2 : Int) (a1_3 : Bool) : Option (Bool) := (laws_eqByteS.f k l0_0 l1_0).bind fun t314 => (if t314 = true then ((laws_eqPendS.f k l0_1 l1_1).bind fun t315 => (if t315 = true then (if a0_2 = a1_2 then (if (a0_3 != a1_3) = true then (some false) else (some true)) else (some false)) else (some false))) else (some false))
theorem laws_eqDisk.mono : ∀ a0 a1 a2 a3 a4 a5 a6 a7 k, LeO (laws_eqDisk.f k a0 a1 a2 a3 a4 a5 a6 a7) (laws_eqDisk.f (k + 1) a0 a1 a2 a3 a4 a5 a6 a7) := by
  intro a0 a1 a2 a3 a4 a5 a6 a7 k
  unfold laws_eqDisk.f
  repeat' first
      | (with_reducible exact laws_eqByteS.mono _ _ _)
      | (with_reducible exact laws_eqPendS.mono _ _ _)
      | (with_reducible exact LeO.refl _)
      | (with_reducible exact LeO.none _)
      | (with_reducible refine LeO.ite ?_ ?_)
      | (with_reducible refine LeO.bind ?_ (fun _ => ?_))
      | exact laws_eqByteS.mono _ _ _
      | exact laws_eqPendS.mono _ _ _
      | exact LeO.none _
      | refine LeO.ite ?_ ?_
      | refine LeO.bind ?_ (fun _ => ?_)
set_option maxHeartbeats 8000000 in
set_option maxRecDepth 100000 in
theorem laws_eqDisk.calls (k : Nat) (A0_0 : Option Addr) (c0_0 : Nat) (l0_0 : List Int) (A0_1 : Option Addr) (c0_1 : Nat) (l0_1 : List (S79)) (a0_2 : Int) (a0_3 : Bool) (A1_0 : Option Addr) (c1_0 : Nat) (l1_0 : List Int) (A1_1 : Option Addr) (c1_1 : Nat) (l1_1 : List (S79)) (a1_2 : Int) (a1_3 : Bool) (r : Bool) (w : World) (hr0_0 : Kd.C (Kd.int .u8) w A0_0 l0_0.length l0_0) (hc0_0 : l0_0.length ≤ c0_0) (hr0_1 : Kd.C k79 w A0_1 l0_1.length l0_1) (hc0_1 : l0_1.length ≤ c0_1) (hr1_0 : Kd.C (Kd.int .u8) w A1_0 l1_0.length l1_0) (hc1_0 : l1_0.length ≤ c1_0) (hr1_1 : Kd.C k79 w A1_1 l1_1.length l1_1) (hc1_1 : l1_1.length ≤ c1_1) (h : laws_eqDisk.f k l0_0 l0_1 a0_2 a0_3 l1_0 l1_1 a1_2 a1_3 = some r) :
    Calls Try.prog 24 #[.agg #[.slice A0_0 l0_0.length c0_0, .slice A0_1 l0_1.length c0_1, .int .i64 a0_2, .bool a0_3], .agg #[.slice A1_0 l1_0.length c1_0, .slice A1_1 l1_1.length c1_1, .int .i64 a1_2, .bool a1_3]] w fun e w' => e = .returned (.bool r) ∧ Below w.heap.size w w' := by
  have hu25 := Try.underlying25
  have HR0_0 := Aside0.mk hr0_0
  have HC0_0 := Aside0.mk hc0_0
  clear hr0_0 hc0_0
  have HR0_1 := Aside0.mk hr0_1
  have HC0_1 := Aside0.mk hc0_1
  clear hr0_1 hc0_1
  have HR1_0 := Aside0.mk hr1_0
  have HC1_0 := Aside0.mk hc1_0
  clear hr1_0 hc1_0
  have HR1_1 := Aside0.mk hr1_1
  have HC1_1 := Aside0.mk hc1_1
  clear hr1_1 hc1_1
  have HB := Aside0.mk (Below.refl w.heap.size w)
  have H : ((laws_eqByteS.f k l0_0 l1_0).bind fun t314 => (if t314 = true then ((laws_eqPendS.f k l0_1 l1_1).bind fun t315 => (if t315 = true then (if a0_2 = a1_2 then (if (a0_3 != a1_3) = true then (some false) else (some true)) else (some false)) else (some false))) else (some false))) = some r := h
  clear h
  replace H := Option.bind_eq_some_iff.mp H
  obtain ⟨t314, A30, H⟩ := H
  replace H : (if t314 = true then ((laws_eqPendS.f k l0_1 l1_1).bind fun t315 => (if t315 = true then (if a0_2 = a1_2 then (if (a0_3 != a1_3) = true then (some false) else (some true)) else (some false)) else (some false))) else (some false)) = some r := H
  have A3 := Aside0.mk A30
  clear A30
  by_cases c4 : t314 = true
  subst c4
  have H1 : ((laws_eqPendS.f k l0_1 l1_1).bind fun t315 => (if t315 = true then (if a0_2 = a1_2 then (if (a0_3 != a1_3) = true then (some false) else (some true)) else (some false)) else (some false))) = some r := by rw [if_pos rfl] at H; exact H
  clear H
  have H := H1
  clear H1
  replace H := Option.bind_eq_some_iff.mp H
  obtain ⟨t315, A50, H⟩ := H
  replace H : (if t315 = true then (if a0_2 = a1_2 then (if (a0_3 != a1_3) = true then (some false) else (some true)) else (some false)) else (some false)) = some r := H
  have A5 := Aside0.mk A50
  clear A50
  by_cases c6 : t315 = true
  subst c6
  have H1 : (if a0_2 = a1_2 then (if (a0_3 != a1_3) = true then (some false) else (some true)) else (some false)) = some r := by rw [if_pos rfl] at H; exact H
  clear H
  have H := H1
  clear H1
  by_cases c7 : a0_2 = a1_2
  rw [if_pos c7] at H
  have c7b0 : (a0_2 == a1_2) = true := beq_iff_eq.mpr c7
  have c7b1 : (a0_2 != a1_2) = false := bne_eq_false_iff_eq.mpr c7
  clear c7
  by_cases c8 : (a0_3 != a1_3) = true
  rw [if_pos c8] at H
  have c8b0 : (a0_3 != a1_3) = true := c8
  (try (have c8b1 : decide (a0_3 = a1_3) = false := by simpa using c8))
  (try (have c8b2 : (a0_3 == a1_3) = false := by simpa using c8))
  (try (have c8b3 : ¬ (a0_3 = a1_3) := by simpa using c8))
  clear c8
  obtain rfl := Option.some.inj H
  rotate_left
  rw [if_neg c8] at H
  have c8b0 : (a0_3 != a1_3) = false := by simpa using c8
  (try (have c8b1 : decide (a0_3 = a1_3) = true := by simpa using c8))
  (try (have c8b2 : (a0_3 == a1_3) = true := by simpa using c8))
  clear c8
  obtain rfl := Option.some.inj H
  rotate_left
  rw [if_neg c7] at H
  have c7b0 : (a0_2 == a1_2) = false := beq_eq_false_iff_ne.mpr c7
  have c7b1 : (a0_2 != a1_2) = true := bne_iff_ne.mpr c7
  obtain rfl := Option.some.inj H
  rotate_left
  replace c6 := Bool.eq_false_iff.mpr c6
  subst c6
  have H1 : (some false) = some r := by rw [if_neg (show ¬ (false = true) by decide)] at H; exact H
  clear H
  have H := H1
  clear H1
  obtain rfl := Option.some.inj H
  rotate_left
  replace c4 := Bool.eq_false_iff.mpr c4
  subst c4
  have H1 : (some false) = some r := by rw [if_neg (show ¬ (false = true) by decide)] at H; exact H
  clear H
  have H := H1
  clear H1
  obtain rfl := Option.some.inj H
  rotate_left
  all_goals
    go_enter Try.func24, Try.ntmps24
    first
      | (go_wp2_with (first | ((with_reducible refine gate_dst (N := 2) rfl ?_); refine box_event ?hg (N := 2) ?hd (cs := #[.slice A0_0 l0_0.length c0_0, .slice A0_1 l0_1.length c0_1, .int .i64 a0_2, .bool a0_3]) (t := 25) ?hr ?_; (case hd => rfl); (case hg => rfl); (case hr => first | (go_simp; done) | (go_simp; rfl)); intro gb312 hg w11_ hbox hb; have n0_ := Aside0.mk (below_step (by repeat (first | (with_reducible first | exact HB.out | apply below_alloc | apply pw_below_drewN | apply below_drew1) | exact HB.out)) hb); have n1_ := Aside0.mk (hbox); have n2_ := Aside0.mk ((by rw [hg]; exact (below_size (by repeat (first | (with_reducible first | exact HB.out | apply below_alloc | apply pw_below_drewN | apply below_drew1) | exact HB.out))) : w.heap.size ≤ gb312)); have n3_ := Aside0.mk ((by rw [hg]; exact (below_size (by repeat (first | (with_reducible first | exact HB.out | apply below_alloc | apply pw_below_drewN | apply below_drew1) | exact HB.out))) : w.heap.size ≤ gb312)); clear HB; have HB := n0_; have BK312 := n1_; have GW312 := n2_; have GE312 := n3_; clear n0_ n1_ n2_ n3_; clear hb hbox hg) | ((with_reducible refine gate_dst (N := 3) rfl ?_); refine box_event ?hg (N := 3) ?hd (cs := #[.slice A1_0 l1_0.length c1_0, .slice A1_1 l1_1.length c1_1, .int .i64 a1_2, .bool a1_3]) (t := 25) ?hr ?_; (case hd => rfl); (case hg => rfl); (case hr => first | (go_simp; done) | (go_simp; rfl)); intro gb313 hg w12_ hbox hb; have n0_ := Aside0.mk (blk_below (g := gb312) (o := .cells #[.slice A0_0 l0_0.length c0_0, .slice A0_1 l0_1.length c0_1, .int .i64 a0_2, .bool a0_3] 25 (0, 0)) (by (with_reducible repeat (first | refine blk_drewN ?_ _ | refine blk_drew ?_ | refine blk_alloc ?_ _)); exact BK312.out) hb); have n1_ := Aside0.mk (below_step (by repeat (first | (with_reducible first | exact HB.out | apply below_alloc | apply pw_below_drewN | apply below_drew1 | refine below_set ?_ GE312.out) | exact HB.out)) hb); have n2_ := Aside0.mk (hbox); have n3_ := Aside0.mk ((by rw [hg]; exact (below_size (by repeat (first | (with_reducible first | exact HB.out | apply below_alloc | apply pw_below_drewN | apply below_drew1 | refine below_set ?_ GE312.out) | exact HB.out))) : w.heap.size ≤ gb313)); have n4_ := Aside0.mk ((by rw [hg]; exact (below_size (by repeat (first | (with_reducible first | exact HB.out | apply below_alloc | apply pw_below_drewN | apply below_drew1 | refine below_set ?_ GE312.out) | exact HB.out))) : w.heap.size ≤ gb313)); have n5_ := Aside0.mk ((by rw [hg]; exact Nat.ne_of_lt (blk_lt (g := gb312) (o := .cells #[.slice A0_0 l0_0.length c0_0, .slice A0_1 l0_1.length c0_1, .int .i64 a0_2, .bool a0_3] 25 (0, 0)) (by (with_reducible repeat (first | refine blk_drewN ?_ _ | refine blk_drew ?_ | refine blk_alloc ?_ _)); exact BK312.out)) : gb312 ≠ gb313)); have n6_ := Aside0.mk ((by rw [hg]; exact Nat.ne_of_gt (blk_lt (g := gb312) (o := .cells #[.slice A0_0 l0_0.length c0_0, .slice A0_1 l0_1.length c0_1, .int .i64 a0_2, .bool a0_3] 25 (0, 0)) (by (with_reducible repeat (first | refine blk_drewN ?_ _ | refine blk_drew ?_ | refine blk_alloc ?_ _)); exact BK312.out)) : gb313 ≠ gb312)); clear BK312; clear HB; have BK312 := n0_; have HB := n1_; have BK313 := n2_; have GW313 := n3_; have GE313 := n4_; have NB312_313 := n5_; have NB313_312 := n6_; clear n0_ n1_ n2_ n3_ n4_ n5_ n6_; clear hb hbox hg; have hnbq1 := NB312_313.out; have hncq2 := NB313_312.out; have hczq3_0 : w12_.cell? ⟨gb312, 0, none⟩ = some (.slice A0_0 l0_0.length c0_0) := (blk_cell BK312.out 0).trans rfl; have hczq3_1 : w12_.cell? ⟨gb312, 1, none⟩ = some (.slice A0_1 l0_1.length c0_1) := (blk_cell BK312.out 1).trans rfl; have hczq3_2 : w12_.cell? ⟨gb312, 2, none⟩ = some (.int .i64 a0_2) := (blk_cell BK312.out 2).trans rfl; have hczq3_3 : w12_.cell? ⟨gb312, 3, none⟩ = some (.bool a0_3) := (blk_cell BK312.out 3).trans rfl; have hfzq4_0 := blk_frozen BK312.out 0; have hfzq4_1 := blk_frozen BK312.out 1; have hfzq4_2 := blk_frozen BK312.out 2; have hfzq4_3 := blk_frozen BK312.out 3; have hczq5_0 : w12_.cell? ⟨gb313, 0, none⟩ = some (.slice A1_0 l1_0.length c1_0) := (blk_cell BK313.out 0).trans rfl; have hczq5_1 : w12_.cell? ⟨gb313, 1, none⟩ = some (.slice A1_1 l1_1.length c1_1) := (blk_cell BK313.out 1).trans rfl; have hczq5_2 : w12_.cell? ⟨gb313, 2, none⟩ = some (.int .i64 a1_2) := (blk_cell BK313.out 2).trans rfl; have hczq5_3 : w12_.cell? ⟨gb313, 3, none⟩ = some (.bool a1_3) := (blk_cell BK313.out 3).trans rfl; have hfzq6_0 := blk_frozen BK313.out 0; have hfzq6_1 := blk_frozen BK313.out 1; have hfzq6_2 := blk_frozen BK313.out 2; have hfzq6_3 := blk_frozen BK313.out 3) | ((with_reducible refine gate_callee (f := 38) rfl ?_); refine goesL_ (some 9) rfl rfl Try.func38 (by kernel_rfl) rfl #[.slice A0_0 l0_0.length c0_0, .slice A1_0 l1_0.length c1_0] rfl (by (try simp only [List.map_toArray, List.map_cons, List.map_nil]); first | done | rfl | (simp only [List.length_drop, List.length_take]; rfl)) ?_; (with_reducible refine (laws_eqByteS.calls k _ _ l0_0 _ _ l1_0 true _ ?side1 ?side2 ?side3 ?side4 A3.out).mono ?_); (case side1 => repeat (first | exact (Kd.C_below HR0_0.out HB.out) | (with_reducible refine Kd.C_alloc ?_ _) | (with_reducible refine Kd.C_drewN ?_ _) | (with_reducible refine Kd.C_drew ?_))); (case side2 => exact HC0_0.out); (case side3 => repeat (first | exact (Kd.C_below HR1_0.out HB.out) | (with_reducible refine Kd.C_alloc ?_ _) | (with_reducible refine Kd.C_drewN ?_ _) | (with_reducible refine Kd.C_drew ?_))); (case side4 => exact HC1_0.out); rintro e w' ⟨rfl, ⟨nd, rfl⟩⟩; refine ⟨_, rfl, ?_⟩) | ((with_reducible refine gate_callee (f := 65) rfl ?_); refine goesL_ (some 15) rfl rfl Try.func65 (by kernel_rfl) rfl #[.slice A0_1 l0_1.length c0_1, .slice A1_1 l1_1.length c1_1] rfl (by (try simp only [List.map_toArray, List.map_cons, List.map_nil]); first | done | rfl | (simp only [List.length_drop, List.length_take]; rfl)) ?_; (with_reducible refine (laws_eqPendS.calls k _ _ l0_1 _ _ l1_1 true _ ?side1 ?side2 ?side3 ?side4 A5.out).mono ?_); (case side1 => repeat (first | exact (Kd.C_below HR0_1.out (by repeat (first | (with_reducible first | exact HB.out | apply below_alloc | apply pw_below_drewN | apply below_drew1 | refine below_set ?_ GE312.out | refine below_set ?_ GE313.out) | exact HB.out))) | (with_reducible refine Kd.C_alloc ?_ _) | (with_reducible refine Kd.C_drewN ?_ _) | (with_reducible refine Kd.C_drew ?_))); (case side2 => exact HC0_1.out); (case side3 => repeat (first | exact (Kd.C_below HR1_1.out (by repeat (first | (with_reducible first | exact HB.out | apply below_alloc | apply pw_below_drewN | apply below_drew1 | refine below_set ?_ GE312.out | refine below_set ?_ GE313.out) | exact HB.out))) | (with_reducible refine Kd.C_alloc ?_ _) | (with_reducible refine Kd.C_drewN ?_ _) | (with_reducible refine Kd.C_drew ?_))); (case side4 => exact HC1_1.out); rintro e w13_ ⟨rfl, hb⟩; refine ⟨_, rfl, ?_⟩; have n0_ := Aside0.mk (blk_below (g := gb312) (o := .cells #[.slice A0_0 l0_0.length c0_0, .slice A0_1 l0_1.length c0_1, .int .i64 a0_2, .bool a0_3] 25 (0, 0)) (by (with_reducible repeat (first | refine blk_drewN ?_ _ | refine blk_drew ?_ | refine blk_alloc ?_ _)); exact BK312.out) hb); have n1_ := Aside0.mk (blk_below (g := gb313) (o := .cells #[.slice A1_0 l1_0.length c1_0, .slice A1_1 l1_1.length c1_1, .int .i64 a1_2, .bool a1_3] 25 (0, 0)) (by (with_reducible repeat (first | refine blk_drewN ?_ _ | refine blk_drew ?_ | refine blk_alloc ?_ _)); exact BK313.out) hb); have n2_ := Aside0.mk (below_step (by repeat (first | (with_reducible first | exact HB.out | apply below_alloc | apply pw_below_drewN | apply below_drew1 | refine below_set ?_ GE312.out | refine below_set ?_ GE313.out) | exact HB.out)) hb); clear BK312; clear BK313; clear HB; have BK312 := n0_; have BK313 := n1_; have HB := n2_; clear n0_ n1_ n2_; (try clear hb); (try clear hb2); (try clear hk); (try clear hi); have hczq7_0 : w13_.cell? ⟨gb312, 0, none⟩ = some (.slice A0_0 l0_0.length c0_0) := (blk_cell BK312.out 0).trans rfl; have hczq7_1 : w13_.cell? ⟨gb312, 1, none⟩ = some (.slice A0_1 l0_1.length c0_1) := (blk_cell BK312.out 1).trans rfl; have hczq7_2 : w13_.cell? ⟨gb312, 2, none⟩ = some (.int .i64 a0_2) := (blk_cell BK312.out 2).trans rfl; have hczq7_3 : w13_.cell? ⟨gb312, 3, none⟩ = some (.bool a0_3) := (blk_cell BK312.out 3).trans rfl; have hfzq8_0 := blk_frozen BK312.out 0; have hfzq8_1 := blk_frozen BK312.out 1; have hfzq8_2 := blk_frozen BK312.out 2; have hfzq8_3 := blk_frozen BK312.out 3; have hczq9_0 : w13_.cell? ⟨gb313, 0, none⟩ = some (.slice A1_0 l1_0.length c1_0) := (blk_cell BK313.out 0).trans rfl; have hczq9_1 : w13_.cell? ⟨gb313, 1, none⟩ = some (.slice A1_1 l1_1.length c1_1) := (blk_cell BK313.out 1).trans rfl; have hczq9_2 : w13_.cell? ⟨gb313, 2, none⟩ = some (.int .i64 a1_2) := (blk_cell BK313.out 2).trans rfl; have hczq9_3 : w13_.cell? ⟨gb313, 3, none⟩ = some (.bool a1_3) := (blk_cell BK313.out 3).trans rfl; have hfzq10_0 := blk_frozen BK313.out 0; have hfzq10_1 := blk_frozen BK313.out 1; have hfzq10_2 := blk_frozen BK313.out 2; have hfzq10_3 := blk_frozen BK313.out 3))
         go_ret
         exact ⟨by first | rfl | (simp [errW_none, errW_some] <;> rfl) | (simp [*, errW_none, errW_some] <;> rfl), by repeat (first | (with_reducible first | exact HB.out | apply below_alloc | apply pw_below_drewN | apply below_drew1 | refine below_set ?_ GE312.out | refine below_set ?_ GE313.out) | exact HB.out)⟩)
      | (go_wp2_with (first | ((with_reducible refine gate_dst (N := 2) rfl ?_); refine box_event ?hg (N := 2) ?hd (cs := #[.slice A0_0 l0_0.length c0_0, .slice A0_1 l0_1.length c0_1, .int .i64 a0_2, .bool a0_3]) (t := 25) ?hr ?_; (case hd => rfl); (case hg => rfl); (case hr => first | (go_simp; done) | (go_simp; rfl)); intro gb312 hg w7_ hbox hb; have n0_ := Aside0.mk (below_step (by repeat (first | (with_reducible first | exact HB.out | apply below_alloc | apply pw_below_drewN | apply below_drew1) | exact HB.out)) hb); have n1_ := Aside0.mk (hbox); have n2_ := Aside0.mk ((by rw [hg]; exact (below_size (by repeat (first | (with_reducible first | exact HB.out | apply below_alloc | apply pw_below_drewN | apply below_drew1) | exact HB.out))) : w.heap.size ≤ gb312)); have n3_ := Aside0.mk ((by rw [hg]; exact (below_size (by repeat (first | (with_reducible first | exact HB.out | apply below_alloc | apply pw_below_drewN | apply below_drew1) | exact HB.out))) : w.heap.size ≤ gb312)); clear HB; have HB := n0_; have BK312 := n1_; have GW312 := n2_; have GE312 := n3_; clear n0_ n1_ n2_ n3_; clear hb hbox hg) | ((with_reducible refine gate_dst (N := 3) rfl ?_); refine box_event ?hg (N := 3) ?hd (cs := #[.slice A1_0 l1_0.length c1_0, .slice A1_1 l1_1.length c1_1, .int .i64 a1_2, .bool a1_3]) (t := 25) ?hr ?_; (case hd => rfl); (case hg => rfl); (case hr => first | (go_simp; done) | (go_simp; rfl)); intro gb313 hg w8_ hbox hb; have n0_ := Aside0.mk (blk_below (g := gb312) (o := .cells #[.slice A0_0 l0_0.length c0_0, .slice A0_1 l0_1.length c0_1, .int .i64 a0_2, .bool a0_3] 25 (0, 0)) (by (with_reducible repeat (first | refine blk_drewN ?_ _ | refine blk_drew ?_ | refine blk_alloc ?_ _)); exact BK312.out) hb); have n1_ := Aside0.mk (below_step (by repeat (first | (with_reducible first | exact HB.out | apply below_alloc | apply pw_below_drewN | apply below_drew1 | refine below_set ?_ GE312.out) | exact HB.out)) hb); have n2_ := Aside0.mk (hbox); have n3_ := Aside0.mk ((by rw [hg]; exact (below_size (by repeat (first | (with_reducible first | exact HB.out | apply below_alloc | apply pw_below_drewN | apply below_drew1 | refine below_set ?_ GE312.out) | exact HB.out))) : w.heap.size ≤ gb313)); have n4_ := Aside0.mk ((by rw [hg]; exact (below_size (by repeat (first | (with_reducible first | exact HB.out | apply below_alloc | apply pw_below_drewN | apply below_drew1 | refine below_set ?_ GE312.out) | exact HB.out))) : w.heap.size ≤ gb313)); have n5_ := Aside0.mk ((by rw [hg]; exact Nat.ne_of_lt (blk_lt (g := gb312) (o := .cells #[.slice A0_0 l0_0.length c0_0, .slice A0_1 l0_1.length c0_1, .int .i64 a0_2, .bool a0_3] 25 (0, 0)) (by (with_reducible repeat (first | refine blk_drewN ?_ _ | refine blk_drew ?_ | refine blk_alloc ?_ _)); exact BK312.out)) : gb312 ≠ gb313)); have n6_ := Aside0.mk ((by rw [hg]; exact Nat.ne_of_gt (blk_lt (g := gb312) (o := .cells #[.slice A0_0 l0_0.length c0_0, .slice A0_1 l0_1.length c0_1, .int .i64 a0_2, .bool a0_3] 25 (0, 0)) (by (with_reducible repeat (first | refine blk_drewN ?_ _ | refine blk_drew ?_ | refine blk_alloc ?_ _)); exact BK312.out)) : gb313 ≠ gb312)); clear BK312; clear HB; have BK312 := n0_; have HB := n1_; have BK313 := n2_; have GW313 := n3_; have GE313 := n4_; have NB312_313 := n5_; have NB313_312 := n6_; clear n0_ n1_ n2_ n3_ n4_ n5_ n6_; clear hb hbox hg; have hnbq1 := NB312_313.out; have hncq2 := NB313_312.out; have hczq3_0 : w8_.cell? ⟨gb312, 0, none⟩ = some (.slice A0_0 l0_0.length c0_0) := (blk_cell BK312.out 0).trans rfl; have hczq3_1 : w8_.cell? ⟨gb312, 1, none⟩ = some (.slice A0_1 l0_1.length c0_1) := (blk_cell BK312.out 1).trans rfl; have hczq3_2 : w8_.cell? ⟨gb312, 2, none⟩ = some (.int .i64 a0_2) := (blk_cell BK312.out 2).trans rfl; have hczq3_3 : w8_.cell? ⟨gb312, 3, none⟩ = some (.bool a0_3) := (blk_cell BK312.out 3).trans rfl; have hfzq4_0 := blk_frozen BK312.out 0; have hfzq4_1 := blk_frozen BK312.out 1; have hfzq4_2 := blk_frozen BK312.out 2; have hfzq4_3 := blk_frozen BK312.out 3; have hczq5_0 : w8_.cell? ⟨gb313, 0, none⟩ = some (.slice A1_0 l1_0.length c1_0) := (blk_cell BK313.out 0).trans rfl; have hczq5_1 : w8_.cell? ⟨gb313, 1, none⟩ = some (.slice A1_1 l1_1.length c1_1) := (blk_cell BK313.out 1).trans rfl; have hczq5_2 : w8_.cell? ⟨gb313, 2, none⟩ = some (.int .i64 a1_2) := (blk_cell BK313.out 2).trans rfl; have hczq5_3 : w8_.cell? ⟨gb313, 3, none⟩ = some (.bool a1_3) := (blk_cell BK313.out 3).trans rfl; have hfzq6_0 := blk_frozen BK313.out 0; have hfzq6_1 := blk_frozen BK313.out 1; have hfzq6_2 := blk_frozen BK313.out 2; have hfzq6_3 := blk_frozen BK313.out 3) | ((with_reducible refine gate_callee (f := 38) rfl ?_); refine goesL_ (some 9) rfl rfl Try.func38 (by kernel_rfl) rfl #[.slice A0_0 l0_0.length c0_0, .slice A1_0 l1_0.length c1_0] rfl (by (try simp only [List.map_toArray, List.map_cons, List.map_nil]); first | done | rfl | (simp only [List.length_drop, List.length_take]; rfl)) ?_; (with_reducible refine (laws_eqByteS.calls k _ _ l0_0 _ _ l1_0 true _ ?side1 ?side2 ?side3 ?side4 A3.out).mono ?_); (case side1 => repeat (first | exact (Kd.C_below HR0_0.out HB.out) | (with_reducible refine Kd.C_alloc ?_ _) | (with_reducible refine Kd.C_drewN ?_ _) | (with_reducible refine Kd.C_drew ?_))); (case side2 => exact HC0_0.out); (case side3 => repeat (first | exact (Kd.C_below HR1_0.out HB.out) | (with_reducible refine Kd.C_alloc ?_ _) | (with_reducible refine Kd.C_drewN ?_ _) | (with_reducible refine Kd.C_drew ?_))); (case side4 => exact HC1_0.out); rintro e w' ⟨rfl, ⟨nd, rfl⟩⟩; refine ⟨_, rfl, ?_⟩) | ((with_reducible refine gate_callee (f := 65) rfl ?_); refine goesL_ (some 15) rfl rfl Try.func65 (by kernel_rfl) rfl #[.slice A0_1 l0_1.length c0_1, .slice A1_1 l1_1.length c1_1] rfl (by (try simp only [List.map_toArray, List.map_cons, List.map_nil]); first | done | rfl | (simp only [List.length_drop, List.length_take]; rfl)) ?_; (with_reducible refine (laws_eqPendS.calls k _ _ l0_1 _ _ l1_1 false _ ?side1 ?side2 ?side3 ?side4 A5.out).mono ?_); (case side1 => repeat (first | exact (Kd.C_below HR0_1.out (by repeat (first | (with_reducible first | exact HB.out | apply below_alloc | apply pw_below_drewN | apply below_drew1 | refine below_set ?_ GE312.out | refine below_set ?_ GE313.out) | exact HB.out))) | (with_reducible refine Kd.C_alloc ?_ _) | (with_reducible refine Kd.C_drewN ?_ _) | (with_reducible refine Kd.C_drew ?_))); (case side2 => exact HC0_1.out); (case side3 => repeat (first | exact (Kd.C_below HR1_1.out (by repeat (first | (with_reducible first | exact HB.out | apply below_alloc | apply pw_below_drewN | apply below_drew1 | refine below_set ?_ GE312.out | refine below_set ?_ GE313.out) | exact HB.out))) | (with_reducible refine Kd.C_alloc ?_ _) | (with_reducible refine Kd.C_drewN ?_ _) | (with_reducible refine Kd.C_drew ?_))); (case side4 => exact HC1_1.out); rintro e w9_ ⟨rfl, hb⟩; refine ⟨_, rfl, ?_⟩; have n0_ := Aside0.mk (blk_below (g := gb312) (o := .cells #[.slice A0_0 l0_0.length c0_0, .slice A0_1 l0_1.length c0_1, .int .i64 a0_2, .bool a0_3] 25 (0, 0)) (by (with_reducible repeat (first | refine blk_drewN ?_ _ | refine blk_drew ?_ | refine blk_alloc ?_ _)); exact BK312.out) hb); have n1_ := Aside0.mk (blk_below (g := gb313) (o := .cells #[.slice A1_0 l1_0.length c1_0, .slice A1_1 l1_1.length c1_1, .int .i64 a1_2, .bool a1_3] 25 (0, 0)) (by (with_reducible repeat (first | refine blk_drewN ?_ _ | refine blk_drew ?_ | refine blk_alloc ?_ _)); exact BK313.out) hb); have n2_ := Aside0.mk (below_step (by repeat (first | (with_reducible first | exact HB.out | apply below_alloc | apply pw_below_drewN | apply below_drew1 | refine below_set ?_ GE312.out | refine below_set ?_ GE313.out) | exact HB.out)) hb); clear BK312; clear BK313; clear HB; have BK312 := n0_; have BK313 := n1_; have HB := n2_; clear n0_ n1_ n2_; (try clear hb); (try clear hb2); (try clear hk); (try clear hi)))
         go_ret
         exact ⟨by first | rfl | (simp [errW_none, errW_some] <;> rfl) | (simp [*, errW_none, errW_some] <;> rfl), by repeat (first | (with_reducible first | exact HB.out | apply below_alloc | apply pw_below_drewN | apply below_drew1 | refine below_set ?_ GE312.out | refine below_set ?_ GE313.out) | exact HB.out)⟩)
      | (go_wp2_with (first | ((with_reducible refine gate_dst (N := 2) rfl ?_); refine box_event ?hg (N := 2) ?hd (cs := #[.slice A0_0 l0_0.length c0_0, .slice A0_1 l0_1.length c0_1, .int .i64 a0_2, .bool a0_3]) (t := 25) ?hr ?_; (case hd => rfl); (case hg => rfl); (case hr => first | (go_simp; done) | (go_simp; rfl)); intro gb312 hg w7_ hbox hb; have n0_ := Aside0.mk (below_step (by repeat (first | (with_reducible first | exact HB.out | apply below_alloc | apply pw_below_drewN | apply below_drew1) | exact HB.out)) hb); have n1_ := Aside0.mk (hbox); have n2_ := Aside0.mk ((by rw [hg]; exact (below_size (by repeat (first | (with_reducible first | exact HB.out | apply below_alloc | apply pw_below_drewN | apply below_drew1) | exact HB.out))) : w.heap.size ≤ gb312)); have n3_ := Aside0.mk ((by rw [hg]; exact (below_size (by repeat (first | (with_reducible first | exact HB.out | apply below_alloc | apply pw_below_drewN | apply below_drew1) | exact HB.out))) : w.heap.size ≤ gb312)); clear HB; have HB := n0_; have BK312 := n1_; have GW312 := n2_; have GE312 := n3_; clear n0_ n1_ n2_ n3_; clear hb hbox hg) | ((with_reducible refine gate_dst (N := 3) rfl ?_); refine box_event ?hg (N := 3) ?hd (cs := #[.slice A1_0 l1_0.length c1_0, .slice A1_1 l1_1.length c1_1, .int .i64 a1_2, .bool a1_3]) (t := 25) ?hr ?_; (case hd => rfl); (case hg => rfl); (case hr => first | (go_simp; done) | (go_simp; rfl)); intro gb313 hg w8_ hbox hb; have n0_ := Aside0.mk (blk_below (g := gb312) (o := .cells #[.slice A0_0 l0_0.length c0_0, .slice A0_1 l0_1.length c0_1, .int .i64 a0_2, .bool a0_3] 25 (0, 0)) (by (with_reducible repeat (first | refine blk_drewN ?_ _ | refine blk_drew ?_ | refine blk_alloc ?_ _)); exact BK312.out) hb); have n1_ := Aside0.mk (below_step (by repeat (first | (with_reducible first | exact HB.out | apply below_alloc | apply pw_below_drewN | apply below_drew1 | refine below_set ?_ GE312.out) | exact HB.out)) hb); have n2_ := Aside0.mk (hbox); have n3_ := Aside0.mk ((by rw [hg]; exact (below_size (by repeat (first | (with_reducible first | exact HB.out | apply below_alloc | apply pw_below_drewN | apply below_drew1 | refine below_set ?_ GE312.out) | exact HB.out))) : w.heap.size ≤ gb313)); have n4_ := Aside0.mk ((by rw [hg]; exact (below_size (by repeat (first | (with_reducible first | exact HB.out | apply below_alloc | apply pw_below_drewN | apply below_drew1 | refine below_set ?_ GE312.out) | exact HB.out))) : w.heap.size ≤ gb313)); have n5_ := Aside0.mk ((by rw [hg]; exact Nat.ne_of_lt (blk_lt (g := gb312) (o := .cells #[.slice A0_0 l0_0.length c0_0, .slice A0_1 l0_1.length c0_1, .int .i64 a0_2, .bool a0_3] 25 (0, 0)) (by (with_reducible repeat (first | refine blk_drewN ?_ _ | refine blk_drew ?_ | refine blk_alloc ?_ _)); exact BK312.out)) : gb312 ≠ gb313)); have n6_ := Aside0.mk ((by rw [hg]; exact Nat.ne_of_gt (blk_lt (g := gb312) (o := .cells #[.slice A0_0 l0_0.length c0_0, .slice A0_1 l0_1.length c0_1, .int .i64 a0_2, .bool a0_3] 25 (0, 0)) (by (with_reducible repeat (first | refine blk_drewN ?_ _ | refine blk_drew ?_ | refine blk_alloc ?_ _)); exact BK312.out)) : gb313 ≠ gb312)); clear BK312; clear HB; have BK312 := n0_; have HB := n1_; have BK313 := n2_; have GW313 := n3_; have GE313 := n4_; have NB312_313 := n5_; have NB313_312 := n6_; clear n0_ n1_ n2_ n3_ n4_ n5_ n6_; clear hb hbox hg; have hnbq1 := NB312_313.out; have hncq2 := NB313_312.out; have hczq3_0 : w8_.cell? ⟨gb312, 0, none⟩ = some (.slice A0_0 l0_0.length c0_0) := (blk_cell BK312.out 0).trans rfl; have hczq3_1 : w8_.cell? ⟨gb312, 1, none⟩ = some (.slice A0_1 l0_1.length c0_1) := (blk_cell BK312.out 1).trans rfl; have hczq3_2 : w8_.cell? ⟨gb312, 2, none⟩ = some (.int .i64 a0_2) := (blk_cell BK312.out 2).trans rfl; have hczq3_3 : w8_.cell? ⟨gb312, 3, none⟩ = some (.bool a0_3) := (blk_cell BK312.out 3).trans rfl; have hfzq4_0 := blk_frozen BK312.out 0; have hfzq4_1 := blk_frozen BK312.out 1; have hfzq4_2 := blk_frozen BK312.out 2; have hfzq4_3 := blk_frozen BK312.out 3; have hczq5_0 : w8_.cell? ⟨gb313, 0, none⟩ = some (.slice A1_0 l1_0.length c1_0) := (blk_cell BK313.out 0).trans rfl; have hczq5_1 : w8_.cell? ⟨gb313, 1, none⟩ = some (.slice A1_1 l1_1.length c1_1) := (blk_cell BK313.out 1).trans rfl; have hczq5_2 : w8_.cell? ⟨gb313, 2, none⟩ = some (.int .i64 a1_2) := (blk_cell BK313.out 2).trans rfl; have hczq5_3 : w8_.cell? ⟨gb313, 3, none⟩ = some (.bool a1_3) := (blk_cell BK313.out 3).trans rfl; have hfzq6_0 := blk_frozen BK313.out 0; have hfzq6_1 := blk_frozen BK313.out 1; have hfzq6_2 := blk_frozen BK313.out 2; have hfzq6_3 := blk_frozen BK313.out 3) | ((with_reducible refine gate_callee (f := 38) rfl ?_); refine goesL_ (some 9) rfl rfl Try.func38 (by kernel_rfl) rfl #[.slice A0_0 l0_0.length c0_0, .slice A1_0 l1_0.length c1_0] rfl (by (try simp only [List.map_toArray, List.map_cons, List.map_nil]); first | done | rfl | (simp only [List.length_drop, List.length_take]; rfl)) ?_; (with_reducible refine (laws_eqByteS.calls k _ _ l0_0 _ _ l1_0 false _ ?side1 ?side2 ?side3 ?side4 A3.out).mono ?_); (case side1 => repeat (first | exact (Kd.C_below HR0_0.out HB.out) | (with_reducible refine Kd.C_alloc ?_ _) | (with_reducible refine Kd.C_drewN ?_ _) | (with_reducible refine Kd.C_drew ?_))); (case side2 => exact HC0_0.out); (case side3 => repeat (first | exact (Kd.C_below HR1_0.out HB.out) | (with_reducible refine Kd.C_alloc ?_ _) | (with_reducible refine Kd.C_drewN ?_ _) | (with_reducible refine Kd.C_drew ?_))); (case side4 => exact HC1_0.out); rintro e w' ⟨rfl, ⟨nd, rfl⟩⟩; refine ⟨_, rfl, ?_⟩))
         go_ret
         exact ⟨by first | rfl | (simp [errW_none, errW_some] <;> rfl) | (simp [*, errW_none, errW_some] <;> rfl), by repeat (first | (with_reducible first | exact HB.out | apply below_alloc | apply pw_below_drewN | apply below_drew1 | refine below_set ?_ GE312.out | refine below_set ?_ GE313.out) | exact HB.out)⟩)

/-! ### L_eqByteS: a text by hand -/
theorem eqByteS_loop (l : List Int) (hL : l.length ≤ 281474976710656) : ∀ (d i : Nat), i + d = l.length → Ev (fun k => laws_eqByteS.l0 k l l (i : Int)) true
  | 0, i, hd => Ev.step (fun k => by simp only [laws_eqByteS.l0]; rw [if_neg (by omega)]) (Ev.now _)
  | d + 1, i, hd => 
    Ev.step (fun k => by simp only [laws_eqByteS.l0]; rw [if_pos (by omega), if_pos (by omega), if_pos (by omega), if_true, show wrap64 ((i : Int) + 1) = ((i + 1 : Nat) : Int) by unfold wrap64; omega])
      (eqByteS_loop l hL d (i + 1) (by omega))
theorem eqByteS_ev (l : List Int) (hL : l.length ≤ 281474976710656) : Ev (fun k => laws_eqByteS.f k l l) true :=
  Ev.congr (fun k => by unfold laws_eqByteS.f; rw [if_pos rfl]; rfl) (eqByteS_loop l hL l.length 0 (by omega))

/-! ### L_toByteS: a text by hand -/
theorem toByteS_loop (l : List Int) (hL : l.length ≤ 281474976710656) : ∀ (d i : Nat) (x : List Int), i + d = l.length → x.length = l.length → (∀ j, j < i → x[j]? = l[j]?) →
    Ev (fun k => laws_toByteS.l0 k l x (i : Int)) l
  | 0, i, x, hd, hx, hj => by
    obtain rfl : x = l := List.ext_getElem? fun j => by
      by_cases h : j < i
      · exact hj j h
      · rw [List.getElem?_eq_none (by omega), List.getElem?_eq_none (by omega)]
    exact Ev.step (fun k => by simp only [laws_toByteS.l0]; rw [if_neg (by omega)]) (Ev.now _)
  | d + 1, i, x, hd, hx, hj => by
    refine Ev.step (fun k => by simp only [laws_toByteS.l0]; rw [if_pos (by omega), if_pos (by omega), if_pos (by omega), Int.toNat_natCast, show wrap64 ((i : Int) + 1) = ((i + 1 : Nat) : Int) by unfold wrap64; omega])
      (toByteS_loop l hL d (i + 1) (x.set i (rd l i)) (by omega) (by simpa using hx) fun j hlt => ?_)
    rcases Nat.lt_or_ge j i with h | h
    · rw [List.getElem?_set_ne (by omega)]; exact hj j h
    · obtain rfl : j = i := by omega
      rw [List.getElem?_set_self (by omega)]
      simp [rd, List.getD_eq_getElem?_getD, List.getElem?_eq_getElem (show j < l.length by omega)]
theorem toByteS_ev (l : List Int) (hL : l.length ≤ 281474976710656) : Ev (fun k => laws_toByteS.f k l) l := by
  refine Ev.congr (fun k => ?_) (toByteS_loop l hL l.length 0 (List.replicate l.length 0) (by omega) (by simp) (fun j h => by omega))
  unfold laws_toByteS.f
  rw [if_pos (by omega), Int.toNat_natCast, if_pos hL]
  rfl

/-! ### L_evDisk: a text by hand -/
def cvPend (l : List S127) : List S79 := l.map fun x => ⟨x.f0, x.f1⟩
def okPendS (l : List S79) : Prop := l.length ≤ 1048576 ∧ ∀ x ∈ l, x.f1.length ≤ 1048576
theorem szByteS_at (l : List Int) (a : Int) (h0 : 0 ≤ a) (h1 : a ≤ 1048576) (hL : l.length ≤ maxLen) : ∃ r, laws_szByteS.f l a = some r ∧ r ≤ a ∧ (0 ≤ r → l.length ≤ 1048576) := by
  unfold maxLen at hL
  have e : wrap64 (a - (l.length : Int)) = a - l.length := by unfold wrap64; omega
  unfold laws_szByteS.f
  rw [e]
  by_cases c : a - (l.length : Int) < 0
  · exact ⟨-1, by rw [if_pos c], by omega, by omega⟩
  · exact ⟨_, by rw [if_neg c], by omega, by omega⟩
theorem szPend_at (b : Int) (l : List Int) (a : Int) (h0 : 0 ≤ a) (h1 : a ≤ 1048576) (hL : l.length ≤ maxLen) : ∃ r, laws_szPend.f b l a = some r ∧ r ≤ a ∧ (0 ≤ r → l.length ≤ 1048576) := by
  obtain ⟨r, hr, h2, h3⟩ := szByteS_at l a h0 h1 hL
  unfold laws_szPend.f
  rw [hr]
  by_cases c : r < 0
  · exact ⟨-1, by simp [c], by omega, by omega⟩
  · exact ⟨r, by simp [c], h2, h3⟩
theorem szPendS_loop (l : List S127) (hL : l.length ≤ 1048576) (hF : ∀ x ∈ l, x.f1.length ≤ maxLen) : ∀ (d i : Nat) (a : Int), i + d = l.length → 0 ≤ a → a ≤ 1048576 → (∀ j, j < i → (l.getD j z127).f1.length ≤ 1048576) →
    ∃ r, Ev (fun k => laws_szPendS.l0 k l a (i : Int)) r ∧ r ≤ a ∧ (0 ≤ r → ∀ j, j < l.length → (l.getD j z127).f1.length ≤ 1048576)
  | 0, i, a, hd, h0, h1, hj => ⟨a, Ev.step (fun k => by simp only [laws_szPendS.l0]; rw [if_neg (by omega)]) (Ev.now _), by omega, fun _ j hlt => hj j (by omega)⟩
  | d + 1, i, a, hd, h0, h1, hj => by
    have hm : l.getD i z127 ∈ l := by
      rw [List.getD_eq_getElem?_getD, List.getElem?_eq_getElem (show i < l.length by omega)]
      exact List.getElem_mem _
    obtain ⟨r, hr, h2, h3⟩ := szPend_at (l.getD i z127).f0 (l.getD i z127).f1 a h0 h1 (hF _ hm)
    have hr' : laws_szPend.f (rd_T127 l (i : Int)).f0 (rd_T127 l (i : Int)).f1 a = some r := by unfold rd_T127; rw [Int.toNat_natCast]; exact hr
    by_cases c : r < 0
    · exact ⟨-1, Ev.step (fun k => by simp only [laws_szPendS.l0]; rw [if_pos (by omega), if_pos (by omega), hr']; simp only [Option.bind_some]; rw [if_pos c]) (Ev.now _), by omega, by omega⟩
    · obtain ⟨r2, he, h4, h5⟩ := szPendS_loop l hL hF d (i + 1) r (by omega) (by omega) (by omega) (fun j hlt => by
        rcases Nat.lt_or_ge j i with h | h
        · exact hj j h
        · obtain rfl : j = i := by omega
          exact h3 (by omega))
      exact ⟨r2, Ev.step (fun k => by simp only [laws_szPendS.l0]; rw [if_pos (by omega), if_pos (by omega), hr']; simp only [Option.bind_some]; rw [if_neg c, show wrap64 ((i : Int) + 1) = ((i + 1 : Nat) : Int) by unfold wrap64; omega]) he, by omega, h5⟩
theorem szPendS_ev (l : List S127) (a : Int) (h0 : 0 ≤ a) (h1 : a ≤ 1048576) (hL : l.length ≤ maxLen) (hF : ∀ x ∈ l, x.f1.length ≤ maxLen) :
    ∃ r, Ev (fun k => laws_szPendS.f k l a) r ∧ r ≤ a ∧ (0 ≤ r → l.length ≤ 1048576 ∧ ∀ x ∈ l, x.f1.length ≤ 1048576) := by
  unfold maxLen at hL
  have e : wrap64 (a - (l.length : Int)) = a - l.length := by unfold wrap64; omega
  by_cases c : a - (l.length : Int) < 0
  · exact ⟨-1, Ev.congr (fun k => by unfold laws_szPendS.f; rw [e, if_pos c]) (Ev.now _), by omega, by omega⟩
  · obtain ⟨r, he, h2, h3⟩ := szPendS_loop l (by omega) hF l.length 0 (a - l.length) (by omega) (by omega) (by omega) (fun j h => by omega)
    refine ⟨r, Ev.congr (fun k => by unfold laws_szPendS.f; rw [e, if_neg c]; rfl) he, by omega, fun h => ⟨by omega, fun x hx => ?_⟩⟩
    obtain ⟨j, hj, rfl⟩ := List.getElem_of_mem hx
    have := h3 h j hj
    rwa [List.getD_eq_getElem?_getD, List.getElem?_eq_getElem hj] at this
theorem szDisk_ev (l0 : List Int) (l1 : List S127) (a2 : Int) (a3 : Bool) (hL : l0.length ≤ maxLen) (hL1 : l1.length ≤ maxLen) (hF : ∀ x ∈ l1, x.f1.length ≤ maxLen) :
    ∃ r, Ev (fun k => laws_szDisk.f k l0 l1 a2 a3 1048576) r ∧ (0 ≤ r → l0.length ≤ 1048576 ∧ okPendS (cvPend l1)) := by
  obtain ⟨r, hr, h2, h3⟩ := szByteS_at l0 1048576 (by omega) (by omega) hL
  by_cases c : r < 0
  · exact ⟨-1, Ev.congr (fun k => by unfold laws_szDisk.f; rw [hr]; simp only [Option.bind_some]; rw [if_pos c]) (Ev.now _), by omega⟩
  · obtain ⟨q, hq, h4, h5⟩ := szPendS_ev l1 r (by omega) (by omega) hL1 hF
    by_cases c2 : q < 0
    · exact ⟨-1, Ev.congr (fun k => by unfold laws_szDisk.f; rw [hr]; simp only [Option.bind_some]; rw [if_neg c]) (Ev.bind hq (Ev.congr (fun k => by rw [if_pos c2]) (Ev.now _))), by omega⟩
    · refine ⟨q, Ev.congr (fun k => by unfold laws_szDisk.f; rw [hr]; simp only [Option.bind_some]; rw [if_neg c]) (Ev.bind hq (Ev.congr (fun k => by rw [if_neg c2]) (Ev.now _))), fun h => ⟨h3 (by omega), ?_⟩⟩
      obtain ⟨h6, h7⟩ := h5 (by omega)
      refine ⟨by simpa [cvPend] using h6, fun x hx => ?_⟩
      obtain ⟨y, hy, rfl⟩ := List.mem_map.1 hx
      exact h7 y hy
theorem toPendS_loop (l : List S127) (hL : okPendS (cvPend l)) : ∀ (d i : Nat) (x : List S79), i + d = l.length → x.length = l.length → (∀ j, j < i → x[j]? = (cvPend l)[j]?) →
    Ev (fun k => laws_toPendS.l0 k l x (i : Int)) (cvPend l)
  | 0, i, x, hd, hx, hj => by
    obtain rfl : x = cvPend l := List.ext_getElem? fun j => by
      by_cases h : j < i
      · exact hj j h
      · rw [List.getElem?_eq_none (by omega), List.getElem?_eq_none (by simp [cvPend]; omega)]
    exact Ev.step (fun k => by simp only [laws_toPendS.l0]; rw [if_neg (by omega)]) (Ev.now _)
  | d + 1, i, x, hd, hx, hj => by
    have hl : l.length ≤ 1048576 := by have := hL.1; simpa [cvPend] using this
    have hm : l.getD i z127 ∈ l := by
      rw [List.getD_eq_getElem?_getD, List.getElem?_eq_getElem (show i < l.length by omega)]
      exact List.getElem_mem _
    have he : Ev (fun k => laws_toPend.f k (rd_T127 l (i : Int)).f0 (rd_T127 l (i : Int)).f1) ((rd_T127 l (i : Int)).f0, (rd_T127 l (i : Int)).f1) := by
      have h2 : (l.getD i z127).f1.length ≤ 1048576 := hL.2 _ (List.mem_map.2 ⟨_, hm, rfl⟩)
      unfold laws_toPend.f rd_T127
      rw [Int.toNat_natCast]
      exact Ev.bind (toByteS_ev _ (by omega)) (Ev.now _)
    refine Ev.step (fun k => by simp only [laws_toPendS.l0]; rw [if_pos (by omega), if_pos (by omega)]) (Ev.bind he ?_)
    refine Ev.congr (fun k => by rw [if_pos (by omega), Int.toNat_natCast, show wrap64 ((i : Int) + 1) = ((i + 1 : Nat) : Int) by unfold wrap64; omega])
      (toPendS_loop l hL d (i + 1) (x.set i ⟨(rd_T127 l (i : Int)).f0, (rd_T127 l (i : Int)).f1⟩) (by omega) (by simpa using hx) fun j hlt => ?_)
    rcases Nat.lt_or_ge j i with h | h
    · rw [List.getElem?_set_ne (by omega)]; exact hj j h
    · obtain rfl : j = i := by omega
      rw [List.getElem?_set_self (by omega)]
      simp [rd_T127, cvPend, List.getD_eq_getElem?_getD, List.getElem?_eq_getElem (show j < l.length by omega)]
theorem toPendS_ev (l : List S127) (hL : okPendS (cvPend l)) : Ev (fun k => laws_toPendS.f k l) (cvPend l) := by
  have hl : l.length ≤ 1048576 := by have := hL.1; simpa [cvPend] using this
  refine Ev.congr (fun k => ?_) (toPendS_loop l hL l.length 0 (List.replicate l.length z79) (by omega) (by simp) (fun j h => by omega))
  unfold laws_toPendS.f
  rw [if_pos (by omega), Int.toNat_natCast, if_pos (by omega)]
  rfl
theorem toDisk_ev (l0 : List Int) (l1 : List S127) (a2 : Int) (a3 : Bool) (h0 : l0.length ≤ 1048576) (h1 : okPendS (cvPend l1)) : Ev (fun k => laws_toDisk.f k l0 l1 a2 a3) (l0, cvPend l1, a2, a3) :=
  Ev.bind (toByteS_ev l0 (by omega)) (Ev.bind (toPendS_ev l1 h1) (Ev.now _))
theorem eqPend_ev (a : Int) (l : List Int) (h : l.length ≤ 281474976710656) : Ev (fun k => laws_eqPend.f k a l a l) true :=
  Ev.congr (fun k => by unfold laws_eqPend.f; rw [if_pos rfl]) (Ev.bind (eqByteS_ev l h) (Ev.congr (fun k => by rw [if_pos rfl]) (Ev.now _)))
theorem eqPendS_loop (l : List S79) (hL : okPendS l) : ∀ (d i : Nat), i + d = l.length → Ev (fun k => laws_eqPendS.l0 k l l (i : Int)) true
  | 0, i, hd => Ev.step (fun k => by simp only [laws_eqPendS.l0]; rw [if_neg (by omega)]) (Ev.now _)
  | d + 1, i, hd => by
    have hl := hL.1
    have hm : rd_T79 l (i : Int) ∈ l := by
      unfold rd_T79
      rw [Int.toNat_natCast, List.getD_eq_getElem?_getD, List.getElem?_eq_getElem (show i < l.length by omega)]
      exact List.getElem_mem _
    exact Ev.step (fun k => by simp only [laws_eqPendS.l0]; rw [if_pos (by omega), if_pos (by omega), if_pos (by omega)])
      (Ev.bind (eqPend_ev _ _ (by have := hL.2 _ hm; omega)) (Ev.congr (fun k => by rw [if_pos rfl, show wrap64 ((i : Int) + 1) = ((i + 1 : Nat) : Int) by unfold wrap64; omega]) (eqPendS_loop l hL d (i + 1) (by omega))))
theorem eqPendS_ev (l : List S79) (hL : okPendS l) : Ev (fun k => laws_eqPendS.f k l l) true :=
  Ev.congr (fun k => by unfold laws_eqPendS.f; rw [if_pos rfl]; rfl) (eqPendS_loop l hL l.length 0 (by omega))
theorem eqDisk_ev (l0 : List Int) (l1 : List S79) (a2 : Int) (a3 : Bool) (h0 : l0.length ≤ 1048576) (h1 : okPendS l1) : Ev (fun k => laws_eqDisk.f k l0 l1 a2 a3 l0 l1 a2 a3) true := by
  unfold laws_eqDisk.f
  refine Ev.bind (eqByteS_ev l0 (by omega)) (Ev.congr (fun k => by rw [if_pos rfl]) (Ev.bind (eqPendS_ev l1 h1) (Ev.congr (fun k => by rw [if_pos rfl, if_pos rfl, bne_self_eq_false, if_neg (by decide)]) (Ev.now _))))

/-! ### impl_goodNumber: function 70 -/
def impl_goodNumber.f (a0 : Int) : Option (Bool) := if a0 ≥ 1 then (some (decide (a0 ≤ 2000000000))) else (some false)
set_option maxHeartbeats 8000000 in
set_option maxRecDepth 100000 in
theorem impl_goodNumber.calls (a0 : Int) (r : Bool) (w : World) (h : impl_goodNumber.f a0 = some r) :
    Calls Try.prog 70 #[.int .i64 a0] w fun e w' => e = .returned (.bool r) ∧ Drawn0 w w' := by
  have H : (if a0 ≥ 1 then (some (decide (a0 ≤ 2000000000))) else (some false)) = some r := h
  clear h
  by_cases c2 : a0 ≥ 1
  · rw [if_pos c2] at H
    have c2b0 : decide (1 ≤ a0) = true := decide_eq_true c2
    clear c2
    obtain rfl := Option.some.inj H
    go_enter Try.func70, Try.ntmps70
    go_wp2
    go_ret
    exact ⟨by first | rfl | (simp; done) | (simp [*]; done), by repeat (first | exact Drawn0.refl _ | apply Drawn0.step)⟩
  · rw [if_neg c2] at H
    have c2b0 : decide (1 ≤ a0) = false := decide_eq_false c2
    clear c2
    obtain rfl := Option.some.inj H
    go_enter Try.func70, Try.ntmps70
    go_wp2
    go_ret
    exact ⟨by first | rfl | (simp; done) | (simp [*]; done), by repeat (first | exact Drawn0.refl _ | apply Drawn0.step)⟩

/-- THE ONE PURE STATEMENT of impl_goodNumber: yours. -/
def impl_goodNumber.Pure : Prop := ∀ (a0 : Int), (Lit.int .i64 a0).wf = true → impl_goodNumber.f a0 = some true
theorem impl_goodNumber.walk (P : impl_goodNumber.Pure) (a0 : Int) (w : World) (w0 : (Lit.int .i64 a0).wf = true) :
    Calls Try.prog 70 #[.int .i64 a0] w fun e w' => e = .returned (.bool true) ∧ Below w.heap.size w w' := by
  have h := P a0 w0
  refine (impl_goodNumber.calls a0 true w h).mono ?_
  rintro e w' ⟨rfl, hd⟩
  exact ⟨rfl, hd.below⟩

/-! ### impl_Super_good: function 80 -/
def impl_Super_good.f (a0_0 : Int) (a0_1 : Int) (a0_2 : Int) : Option (Bool) := if a0_0 ≥ 0 then (if a0_0 ≤ 2000000000 then (if a0_1 = 0 then ((impl_goodNumber.f a0_2).bind fun t1080 => (some t1080)) else (if a0_1 = 1 then ((impl_goodNumber.f a0_2).bind fun t1081 => (some t1081)) else (some false))) else (some false)) else (some false)
set_option maxHeartbeats 8000000 in
set_option maxRecDepth 100000 in
theorem impl_Super_good.calls (a0_0 : Int) (a0_1 : Int) (a0_2 : Int) (r : Bool) (w : World) (h : impl_Super_good.f a0_0 a0_1 a0_2 = some r) :
    Calls Try.prog 80 #[.agg #[.int .i64 a0_0, .int .i64 a0_1, .int .i64 a0_2]] w fun e w' => e = .returned (.bool r) ∧ Below w.heap.size w w' := by
  have hu40 := Try.underlying40
  have HB := Aside0.mk (Below.refl w.heap.size w)
  have H : (if a0_0 ≥ 0 then (if a0_0 ≤ 2000000000 then (if a0_1 = 0 then ((impl_goodNumber.f a0_2).bind fun t1080 => (some t1080)) else (if a0_1 = 1 then ((impl_goodNumber.f a0_2).bind fun t1081 => (some t1081)) else (some false))) else (some false)) else (some false)) = some r := h
  clear h
  by_cases c2 : a0_0 ≥ 0
  rw [if_pos c2] at H
  have c2b0 : decide (0 ≤ a0_0) = true := decide_eq_true c2
  clear c2
  by_cases c3 : a0_0 ≤ 2000000000
  rw [if_pos c3] at H
  have c3b0 : decide (a0_0 ≤ 2000000000) = true := decide_eq_true c3
  clear c3
  by_cases c4 : a0_1 = 0
  rw [if_pos c4] at H
  have c4b0 : (a0_1 == 0) = true := beq_iff_eq.mpr c4
  have c4b1 : (a0_1 != 0) = false := bne_eq_false_iff_eq.mpr c4
  clear c4
  replace H := Option.bind_eq_some_iff.mp H
  obtain ⟨t1080, A50, H⟩ := H
  replace H : (some t1080) = some r := H
  have A5 := Aside0.mk A50
  clear A50
  obtain rfl := Option.some.inj H
  rotate_left
  rw [if_neg c4] at H
  have c4b0 : (a0_1 == 0) = false := beq_eq_false_iff_ne.mpr c4
  have c4b1 : (a0_1 != 0) = true := bne_iff_ne.mpr c4
  by_cases c8 : a0_1 = 1
  rw [if_pos c8] at H
  have c8b0 : (a0_1 == 1) = true := beq_iff_eq.mpr c8
  have c8b1 : (a0_1 != 1) = false := bne_eq_false_iff_eq.mpr c8
  clear c8
  replace H := Option.bind_eq_some_iff.mp H
  obtain ⟨t1081, A90, H⟩ := H
  replace H : (some t1081) = some r := H
  have A9 := Aside0.mk A90
  clear A90
  obtain rfl := Option.some.inj H
  rotate_left
  rw [if_neg c8] at H
  have c8b0 : (a0_1 == 1) = false := beq_eq_false_iff_ne.mpr c8
  have c8b1 : (a0_1 != 1) = true := bne_iff_ne.mpr c8
  obtain rfl := Option.some.inj H
  rotate_left
  rw [if_neg c3] at H
  have c3b0 : decide (a0_0 ≤ 2000000000) = false := decide_eq_false c3
  clear c3
  obtain rfl := Option.some.inj H
  rotate_left
  rw [if_neg c2] at H
  have c2b0 : decide (0 ≤ a0_0) = false := decide_eq_false c2
  clear c2
  obtain rfl := Option.some.inj H
  rotate_left
  all_goals
    go_enter Try.func80, Try.ntmps80
    first
      | (go_wp2_with (first | ((with_reducible refine gate_dst (N := 1) rfl ?_); refine box_event ?hg (N := 1) ?hd (cs := #[.int .i64 a0_0, .int .i64 a0_1, .int .i64 a0_2]) (t := 40) ?hr ?_; (case hd => rfl); (case hg => rfl); (case hr => first | (go_simp; done) | (go_simp; rfl)); intro gb1079 hg w3_ hbox hb; have n0_ := Aside0.mk (below_step (by repeat (first | (with_reducible first | exact HB.out | apply below_alloc | apply pw_below_drewN | apply below_drew1) | exact HB.out)) hb); have n1_ := Aside0.mk (hbox); have n2_ := Aside0.mk ((by rw [hg]; exact (below_size (by repeat (first | (with_reducible first | exact HB.out | apply below_alloc | apply pw_below_drewN | apply below_drew1) | exact HB.out))) : w.heap.size ≤ gb1079)); have n3_ := Aside0.mk ((by rw [hg]; exact (below_size (by repeat (first | (with_reducible first | exact HB.out | apply below_alloc | apply pw_below_drewN | apply below_drew1) | exact HB.out))) : w.heap.size ≤ gb1079)); clear HB; have HB := n0_; have BK1079 := n1_; have GW1079 := n2_; have GE1079 := n3_; clear n0_ n1_ n2_ n3_; clear hb hbox hg; have hczq1_0 : w3_.cell? ⟨gb1079, 0, none⟩ = some (.int .i64 a0_0) := (blk_cell BK1079.out 0).trans rfl; have hczq1_1 : w3_.cell? ⟨gb1079, 1, none⟩ = some (.int .i64 a0_1) := (blk_cell BK1079.out 1).trans rfl; have hczq1_2 : w3_.cell? ⟨gb1079, 2, none⟩ = some (.int .i64 a0_2) := (blk_cell BK1079.out 2).trans rfl; have hfzq2_0 := blk_frozen BK1079.out 0; have hfzq2_1 := blk_frozen BK1079.out 1; have hfzq2_2 := blk_frozen BK1079.out 2) | (go_at_call 70; (with_reducible refine (impl_goodNumber.calls a0_2 t1080 _ A5.out).mono ?_); rintro e w' ⟨rfl, ⟨nd, rfl⟩⟩))
         go_ret
         exact ⟨by first | rfl | (simp [errW_none, errW_some] <;> rfl) | (simp [*, errW_none, errW_some] <;> rfl), by repeat (first | (with_reducible first | exact HB.out | apply below_alloc | apply pw_below_drewN | apply below_drew1 | refine below_set ?_ GE1079.out) | exact HB.out)⟩)
      | (go_wp2_with (first | ((with_reducible refine gate_dst (N := 1) rfl ?_); refine box_event ?hg (N := 1) ?hd (cs := #[.int .i64 a0_0, .int .i64 a0_1, .int .i64 a0_2]) (t := 40) ?hr ?_; (case hd => rfl); (case hg => rfl); (case hr => first | (go_simp; done) | (go_simp; rfl)); intro gb1079 hg w3_ hbox hb; have n0_ := Aside0.mk (below_step (by repeat (first | (with_reducible first | exact HB.out | apply below_alloc | apply pw_below_drewN | apply below_drew1) | exact HB.out)) hb); have n1_ := Aside0.mk (hbox); have n2_ := Aside0.mk ((by rw [hg]; exact (below_size (by repeat (first | (with_reducible first | exact HB.out | apply below_alloc | apply pw_below_drewN | apply below_drew1) | exact HB.out))) : w.heap.size ≤ gb1079)); have n3_ := Aside0.mk ((by rw [hg]; exact (below_size (by repeat (first | (with_reducible first | exact HB.out | apply below_alloc | apply pw_below_drewN | apply below_drew1) | exact HB.out))) : w.heap.size ≤ gb1079)); clear HB; have HB := n0_; have BK1079 := n1_; have GW1079 := n2_; have GE1079 := n3_; clear n0_ n1_ n2_ n3_; clear hb hbox hg; have hczq1_0 : w3_.cell? ⟨gb1079, 0, none⟩ = some (.int .i64 a0_0) := (blk_cell BK1079.out 0).trans rfl; have hczq1_1 : w3_.cell? ⟨gb1079, 1, none⟩ = some (.int .i64 a0_1) := (blk_cell BK1079.out 1).trans rfl; have hczq1_2 : w3_.cell? ⟨gb1079, 2, none⟩ = some (.int .i64 a0_2) := (blk_cell BK1079.out 2).trans rfl; have hfzq2_0 := blk_frozen BK1079.out 0; have hfzq2_1 := blk_frozen BK1079.out 1; have hfzq2_2 := blk_frozen BK1079.out 2) | (go_at_call 70; (with_reducible refine (impl_goodNumber.calls a0_2 t1081 _ A9.out).mono ?_); rintro e w' ⟨rfl, ⟨nd, rfl⟩⟩))
         go_ret
         exact ⟨by first | rfl | (simp [errW_none, errW_some] <;> rfl) | (simp [*, errW_none, errW_some] <;> rfl), by repeat (first | (with_reducible first | exact HB.out | apply below_alloc | apply pw_below_drewN | apply below_drew1 | refine below_set ?_ GE1079.out) | exact HB.out)⟩)
      | (go_wp2_with (first | ((with_reducible refine gate_dst (N := 1) rfl ?_); refine box_event ?hg (N := 1) ?hd (cs := #[.int .i64 a0_0, .int .i64 a0_1, .int .i64 a0_2]) (t := 40) ?hr ?_; (case hd => rfl); (case hg => rfl); (case hr => first | (go_simp; done) | (go_simp; rfl)); intro gb1079 hg w3_ hbox hb; have n0_ := Aside0.mk (below_step (by repeat (first | (with_reducible first | exact HB.out | apply below_alloc | apply pw_below_drewN | apply below_drew1) | exact HB.out)) hb); have n1_ := Aside0.mk (hbox); have n2_ := Aside0.mk ((by rw [hg]; exact (below_size (by repeat (first | (with_reducible first | exact HB.out | apply below_alloc | apply pw_below_drewN | apply below_drew1) | exact HB.out))) : w.heap.size ≤ gb1079)); have n3_ := Aside0.mk ((by rw [hg]; exact (below_size (by repeat (first | (with_reducible first | exact HB.out | apply below_alloc | apply pw_below_drewN | apply below_drew1) | exact HB.out))) : w.heap.size ≤ gb1079)); clear HB; have HB := n0_; have BK1079 := n1_; have GW1079 := n2_; have GE1079 := n3_; clear n0_ n1_ n2_ n3_; clear hb hbox hg; have hczq1_0 : w3_.cell? ⟨gb1079, 0, none⟩ = some (.int .i64 a0_0) := (blk_cell BK1079.out 0).trans rfl; have hczq1_1 : w3_.cell? ⟨gb1079, 1, none⟩ = some (.int .i64 a0_1) := (blk_cell BK1079.out 1).trans rfl; have hczq1_2 : w3_.cell? ⟨gb1079, 2, none⟩ = some (.int .i64 a0_2) := (blk_cell BK1079.out 2).trans rfl; have hfzq2_0 := blk_frozen BK1079.out 0; have hfzq2_1 := blk_frozen BK1079.out 1; have hfzq2_2 := blk_frozen BK1079.out 2))
         go_ret
         exact ⟨by first | rfl | (simp [errW_none, errW_some] <;> rfl) | (simp [*, errW_none, errW_some] <;> rfl), by repeat (first | (with_reducible first | exact HB.out | apply below_alloc | apply pw_below_drewN | apply below_drew1 | refine below_set ?_ GE1079.out) | exact HB.out)⟩)

/-! ### L_gS: a text by hand -/
def gS (b0 b1 b2 : Int) : Bool := decide (0 ≤ b0) && decide (b0 ≤ 2000000000) && (decide (b1 = 0) || decide (b1 = 1)) && decide (1 ≤ b2) && decide (b2 ≤ 2000000000)
theorem gS_facts {b0 b1 b2 : Int} (h : gS b0 b1 b2 = true) : 0 ≤ b0 ∧ b0 ≤ 2000000000 ∧ (b1 = 0 ∨ b1 = 1) ∧ 1 ≤ b2 ∧ b2 ≤ 2000000000 := by
  simp only [gS, Bool.and_eq_true, Bool.or_eq_true, decide_eq_true_eq] at h
  omega
theorem good_eq (b0 b1 b2 : Int) : impl_Super_good.f b0 b1 b2 = some (gS b0 b1 b2) := by
  unfold impl_Super_good.f impl_goodNumber.f gS
  by_cases h1 : 0 ≤ b0 <;> by_cases h2 : b0 ≤ 2000000000 <;> by_cases h3 : b1 = 0 <;> by_cases h4 : b1 = 1 <;> by_cases h5 : 1 ≤ b2 <;> by_cases h6 : b2 ≤ 2000000000 <;> simp [h1, h2, h3, h4, h5, h6]

/-! ### L_validDisk: a text by hand -/
def pendOk (n : Nat) (p : S79) : Bool := decide (0 ≤ p.f0) && decide (p.f0 < (n / 64 : Nat)) && decide (p.f1.length = 64)
def vD (l0 : List Int) (l1 : List S79) (a2 : Int) : Bool :=
  decide (l0.length % 64 = 0) && decide (1024 ≤ l0.length) && decide (l0.length ≤ 65599) && decide (l1.length ≤ 2000) && decide (-1 ≤ a2) && decide (a2 ≤ 1000000) && l1.all (pendOk l0.length)
theorem drop_all {α : Type} (p : α → Bool) (l : List α) (i : Nat) (h : i < l.length) : (l.drop i).all p = (p l[i] && (l.drop (i + 1)).all p) := by
  rw [List.drop_eq_getElem_cons h, List.all_cons]
theorem sectors_at (l0 : List Int) (hL : l0.length ≤ 1048576) : wrap64 ((l0.length : Int) / 64) = ((l0.length / 64 : Nat) : Int) := by unfold wrap64; omega
theorem specValid_loop (l0 : List Int) (l1 : List S79) (a2 : Int) (a3 : Bool) (hL : l1.length ≤ 1048576) : ∀ (d i : Nat), i + d = l1.length →
    Ev (fun k => spec_ValidDisk.l0 k ((l0.length / 64 : Nat) : Int) (i : Int) l0 l1 a2 a3) ((l1.drop i).all (pendOk l0.length))
  | 0, i, hd => by
    rw [List.drop_of_length_le (by omega), List.all_nil]
    exact Ev.step (fun k => by simp only [spec_ValidDisk.l0]; rw [if_neg (by omega)]) (Ev.now _)
  | d + 1, i, hd => by
    have hi : i < l1.length := by omega
    have er : rd_T79 l1 (i : Int) = l1[i] := by unfold rd_T79; rw [Int.toNat_natCast, List.getD_eq_getElem?_getD, List.getElem?_eq_getElem hi]; rfl
    rw [drop_all _ _ _ hi]
    have ih := specValid_loop l0 l1 a2 a3 hL d (i + 1) (by omega)
    have ew : wrap64 ((i : Int) + 1) = ((i + 1 : Nat) : Int) := by unfold wrap64; omega
    by_cases c1 : l1[i].f0 < 0
    · rw [show pendOk l0.length l1[i] = false by unfold pendOk; simp <;> omega, Bool.false_and]
      exact Ev.step (fun k => by simp only [spec_ValidDisk.l0]; rw [if_pos (by omega), if_pos (by omega), er, if_pos c1]) (Ev.now _)
    by_cases c2 : l1[i].f0 ≥ ((l0.length / 64 : Nat) : Int)
    · rw [show pendOk l0.length l1[i] = false by unfold pendOk; simp <;> omega, Bool.false_and]
      exact Ev.step (fun k => by simp only [spec_ValidDisk.l0]; rw [if_pos (by omega), if_pos (by omega), er, if_neg c1, if_pos c2]) (Ev.now _)
    by_cases c3 : (l1[i].f1.length : Int) = 64
    · rw [show pendOk l0.length l1[i] = true by unfold pendOk; simp <;> omega, Bool.true_and]
      exact Ev.step (fun k => by simp only [spec_ValidDisk.l0]; rw [if_pos (by omega), if_pos (by omega), er, if_neg c1, if_neg c2, if_pos c3, ew]) ih
    · rw [show pendOk l0.length l1[i] = false by unfold pendOk; simp <;> omega, Bool.false_and]
      exact Ev.step (fun k => by simp only [spec_ValidDisk.l0]; rw [if_pos (by omega), if_pos (by omega), er, if_neg c1, if_neg c2, if_neg c3]) (Ev.now _)
theorem specValid_ev (l0 : List Int) (l1 : List S79) (a2 : Int) (a3 : Bool) (h0 : l0.length ≤ 1048576) (hL : l1.length ≤ 1048576) : Ev (fun k => spec_ValidDisk.f k l0 l1 a2 a3) (vD l0 l1 a2) := by
  have hl := specValid_loop l0 l1 a2 a3 hL l1.length 0 (by omega)
  rw [List.drop_zero] at hl
  have ht : Ev (fun k => spec_ValidDisk.j0 k ((l0.length / 64 : Nat) : Int) true l0 l1 a2 a3) false := Ev.step (fun k => by simp only [spec_ValidDisk.j0]; rw [if_true]) (Ev.now _)
  refine Ev.congr (fun k => by unfold spec_ValidDisk.f spec_l1Sectors.f; rw [sectors_at l0 h0, Option.bind_some]) ?_
  by_cases c1 : ((l0.length : Int) % 64) = 0
  · by_cases c2 : ((l0.length / 64 : Nat) : Int) < 16
    · rw [show vD l0 l1 a2 = false by unfold vD; simp <;> omega]
      exact Ev.congr (fun k => by rw [if_pos c1, if_pos c2]) ht
    by_cases c3 : ((l0.length / 64 : Nat) : Int) > 1024
    · rw [show vD l0 l1 a2 = false by unfold vD; simp <;> omega]
      exact Ev.congr (fun k => by rw [if_pos c1, if_neg c2, if_pos c3]) ht
    by_cases c4 : (l1.length : Int) > 2000
    · rw [show vD l0 l1 a2 = false by unfold vD; simp <;> omega]
      exact Ev.congr (fun k => by rw [if_pos c1, if_neg c2, if_neg c3, if_pos c4]) ht
    by_cases c5 : a2 < -1
    · rw [show vD l0 l1 a2 = false by unfold vD; simp <;> omega]
      exact Ev.congr (fun k => by rw [if_pos c1, if_neg c2, if_neg c3, if_neg c4, if_pos c5]) ht
    by_cases c6 : a2 > 1000000
    · rw [show vD l0 l1 a2 = false by unfold vD; simp <;> omega]
      exact Ev.congr (fun k => by rw [if_pos c1, if_neg c2, if_neg c3, if_neg c4, if_neg c5, decide_eq_true c6]) ht
    · rw [show vD l0 l1 a2 = l1.all (pendOk l0.length) by unfold vD; rw [decide_eq_true (by omega), decide_eq_true (by omega), decide_eq_true (by omega), decide_eq_true (by omega), decide_eq_true (by omega), decide_eq_true (by omega)]; simp]
      refine Ev.congr (fun k => by rw [if_pos c1, if_neg c2, if_neg c3, if_neg c4, if_neg c5, decide_eq_false c6]) ?_
      exact Ev.step (fun k => by simp only [spec_ValidDisk.j0]; rw [if_neg (by decide)]; rfl) hl
  · rw [show vD l0 l1 a2 = false by unfold vD; simp <;> omega]
    exact Ev.congr (fun k => by rw [if_neg c1]) ht
theorem implValid_loop (l0 : List Int) (l1 : List S79) (a2 : Int) (a3 : Bool) (h0 : l0.length ≤ 1048576) (hL : l1.length ≤ 1048576) : ∀ (d i : Nat), i + d = l1.length →
    Ev (fun k => impl_ValidDisk.l0 k l1 (l1.length : Int) (i : Int) l0 l1 a2 a3) ((l1.drop i).all (pendOk l0.length))
  | 0, i, hd => by
    rw [List.drop_of_length_le (by omega), List.all_nil]
    exact Ev.step (fun k => by simp only [impl_ValidDisk.l0]; rw [if_neg (by omega)]) (Ev.now _)
  | d + 1, i, hd => by
    have hi : i < l1.length := by omega
    have er : rd_T79 l1 (i : Int) = l1[i] := by unfold rd_T79; rw [Int.toNat_natCast, List.getD_eq_getElem?_getD, List.getElem?_eq_getElem hi]; rfl
    rw [drop_all _ _ _ hi]
    have ih := implValid_loop l0 l1 a2 a3 h0 hL d (i + 1) (by omega)
    have ew : wrap64 ((i : Int) + 1) = ((i + 1 : Nat) : Int) := by unfold wrap64; omega
    have hh : impl_Disk_has.f l0 l1 a2 a3 l1[i].f0 = some (decide (0 ≤ l1[i].f0) && decide (l1[i].f0 < ((l0.length / 64 : Nat) : Int))) := by
      unfold impl_Disk_has.f impl_Disk_sectors.f
      rw [sectors_at l0 h0]
      by_cases c : l1[i].f0 ≥ 0
      · rw [if_pos c, decide_eq_true (show 0 ≤ l1[i].f0 from c)]; simp
      · rw [if_neg c, decide_eq_false (show ¬ 0 ≤ l1[i].f0 from c)]; simp
    by_cases c1 : (decide (0 ≤ l1[i].f0) && decide (l1[i].f0 < ((l0.length / 64 : Nat) : Int))) = true
    · by_cases c3 : (l1[i].f1.length : Int) = 64
      · rw [show pendOk l0.length l1[i] = true by unfold pendOk; rw [c1, decide_eq_true (by omega)]; rfl, Bool.true_and]
        exact Ev.step (fun k => by simp only [impl_ValidDisk.l0]; rw [if_pos (by omega), if_pos (by omega), if_pos (by omega), er, hh, c1]; simp only [Option.bind_some, if_true]; rw [if_pos c3, ew]) ih
      · rw [show pendOk l0.length l1[i] = false by unfold pendOk; rw [decide_eq_false (show ¬ l1[i].f1.length = 64 by omega)]; simp, Bool.false_and]
        exact Ev.step (fun k => by simp only [impl_ValidDisk.l0]; rw [if_pos (by omega), if_pos (by omega), if_pos (by omega), er, hh, c1]; simp only [Option.bind_some, if_true]; rw [if_neg c3]) (Ev.now _)
    · have c1' := Bool.eq_false_iff.2 c1
      rw [show pendOk l0.length l1[i] = false by unfold pendOk; rw [c1']; rfl, Bool.false_and]
      exact Ev.step (fun k => by simp only [impl_ValidDisk.l0]; rw [if_pos (by omega), if_pos (by omega), if_pos (by omega), er, hh, c1']; simp) (Ev.now _)
theorem implValid_ev (l0 : List Int) (l1 : List S79) (a2 : Int) (a3 : Bool) (h0 : l0.length ≤ 1048576) (hL : l1.length ≤ 1048576) : Ev (fun k => impl_ValidDisk.f k l0 l1 a2 a3) (vD l0 l1 a2) := by
  have hl := implValid_loop l0 l1 a2 a3 h0 hL l1.length 0 (by omega)
  rw [List.drop_zero] at hl
  have ht0 : Ev (fun k => impl_ValidDisk.j0 k true l0 l1 a2 a3) false := Ev.step (fun k => by simp only [impl_ValidDisk.j0]; rw [if_true]) (Ev.now _)
  have ht1 : Ev (fun k => impl_ValidDisk.j1 k true l0 l1 a2 a3) false := Ev.step (fun k => by simp only [impl_ValidDisk.j1]; rw [if_true]) (Ev.now _)
  refine Ev.congr (fun k => by unfold impl_ValidDisk.f impl_Disk_sectors.f; rw [sectors_at l0 h0, Option.bind_some, Option.bind_some]) ?_
  by_cases c1 : ((l0.length : Int) % 64) = 0
  · by_cases c2 : ((l0.length / 64 : Nat) : Int) < 16
    · rw [show vD l0 l1 a2 = false by unfold vD; simp <;> omega]
      exact Ev.congr (fun k => by rw [if_pos c1, if_pos c2]) ht0
    by_cases c3 : ((l0.length / 64 : Nat) : Int) > 1024
    · rw [show vD l0 l1 a2 = false by unfold vD; simp <;> omega]
      exact Ev.congr (fun k => by rw [if_pos c1, if_neg c2, decide_eq_true c3]) ht0
    refine Ev.congr (fun k => by rw [if_pos c1, if_neg c2, decide_eq_false c3]) ?_
    by_cases c4 : (l1.length : Int) > 2000
    · rw [show vD l0 l1 a2 = false by unfold vD; simp <;> omega]
      exact Ev.step (fun k => by simp only [impl_ValidDisk.j0]; rw [if_neg (by decide), if_pos c4]) ht1
    by_cases c5 : a2 < -1
    · rw [show vD l0 l1 a2 = false by unfold vD; simp <;> omega]
      exact Ev.step (fun k => by simp only [impl_ValidDisk.j0]; rw [if_neg (by decide), if_neg c4, if_pos c5]) ht1
    by_cases c6 : a2 > 1000000
    · rw [show vD l0 l1 a2 = false by unfold vD; simp <;> omega]
      exact Ev.step (fun k => by simp only [impl_ValidDisk.j0]; rw [if_neg (by decide), if_neg c4, if_neg c5, decide_eq_true c6]) ht1
    · rw [show vD l0 l1 a2 = l1.all (pendOk l0.length) by unfold vD; rw [decide_eq_true (by omega), decide_eq_true (by omega), decide_eq_true (by omega), decide_eq_true (by omega), decide_eq_true (by omega), decide_eq_true (by omega)]; simp]
      refine Ev.step (fun k => by simp only [impl_ValidDisk.j0]; rw [if_neg (by decide), if_neg c4, if_neg c5, decide_eq_false c6]) ?_
      exact Ev.step (fun k => by simp only [impl_ValidDisk.j1]; rw [if_neg (by decide)]; rfl) hl
  · rw [show vD l0 l1 a2 = false by unfold vD; simp <;> omega]
    exact Ev.congr (fun k => by rw [if_neg c1]) ht0

/-! ### L_vD2: a text by hand -/
def inD (l0 : List Int) (s : Int) : Bool := decide (0 ≤ s) && decide (s < ((l0.length / 64 : Nat) : Int))
theorem has_eq (l0 : List Int) (l1 : List S79) (a2 : Int) (a3 : Bool) (s : Int) (h0 : l0.length ≤ 1048576) : impl_Disk_has.f l0 l1 a2 a3 s = some (inD l0 s) := by
  unfold impl_Disk_has.f impl_Disk_sectors.f inD
  rw [sectors_at l0 h0]
  by_cases c : s ≥ 0
  · rw [if_pos c, Option.bind_some, decide_eq_true (show 0 ≤ s from c), Bool.true_and]
  · rw [if_neg c, decide_eq_false (show ¬ 0 ≤ s from c), Bool.false_and]
theorem vD_facts {l0 : List Int} {l1 : List S79} {a2 : Int} (h : vD l0 l1 a2 = true) : l0.length % 64 = 0 ∧ 1024 ≤ l0.length ∧ l0.length ≤ 65599 ∧ l1.length ≤ 2000 ∧ -1 ≤ a2 ∧ a2 ≤ 1000000 ∧ ∀ x ∈ l1, 0 ≤ x.f0 ∧ x.f0 < ((l0.length / 64 : Nat) : Int) ∧ x.f1.length = 64 := by
  unfold vD at h
  simp only [Bool.and_eq_true, decide_eq_true_eq, List.all_eq_true] at h
  obtain ⟨⟨⟨⟨⟨⟨h1, h2⟩, h3⟩, h4⟩, h5⟩, h6⟩, h7⟩ := h
  refine ⟨h1, h2, h3, h4, h5, h6, fun x hx => ?_⟩
  have := h7 x hx
  unfold pendOk at this
  simp only [Bool.and_eq_true, decide_eq_true_eq] at this
  exact ⟨this.1.1, this.1.2, this.2⟩

/-! ### L_specRead: a text by hand -/
theorem specRead_loop (l0 : List Int) (l1 : List S79) (a2 : Int) (a3 : Bool) (s : Int) (h0 : 0 ≤ s) (h1 : s * 64 + 64 ≤ l0.length) (h2 : l0.length ≤ 65599) (h3 : l1.length ≤ 2000) (h4 : ∀ x ∈ l1, x.f1.length = 64) :
    ∀ d : Nat, d ≤ l1.length → Ev (fun k => spec_DiskRead.l0 k s ((d : Int) - 1) l0 l1 a2 a3) (rdAll s (sec l0 s) (l1.take d)) := by
  intro d
  induction d with
  | zero =>
    intro _
    have hs := sec_len l0 s h0 h1 h2
    have e1 : wrap64 (s * 64) = s * 64 := by unfold wrap64; omega
    have e2 : wrap64 (wrap64 (s + 1) * 64) = (s + 1) * 64 := by unfold wrap64; omega
    refine Ev.step (fun K => by
      simp only [spec_DiskRead.l0]
      rw [if_neg (by omega), Option.bind_some, if_pos (by omega), if_pos (by omega), if_pos (by omega)]
      refine (if_pos ?_).trans rfl
      unfold sec at hs
      rw [hs]
      decide) (Ev.now _)
  | succ d ih =>
    intro hd
    have ih' := ih (by omega)
    rw [rdAll_take _ _ _ _ (by omega)]
    have hx : (rd_T79 l1 (d : Int)).f1.length = 64 := h4 _ (by unfold rd_T79; rw [Int.toNat_natCast, List.getD_eq_getElem?_getD, List.getElem?_eq_getElem (by omega)]; exact List.getElem_mem _)
    have e3 : (((d + 1 : Nat) : Int) - 1) = (d : Int) := by omega
    rw [e3]
    by_cases c : (rd_T79 l1 (d : Int)).f0 = s
    · rw [if_pos c]
      exact Ev.step (fun K => by
        simp only [spec_DiskRead.l0]
        rw [if_pos (by omega), if_pos (by omega), if_pos (by omega), if_pos c, Option.bind_some, if_pos (by rw [hx]; decide)]; rfl) (Ev.now _)
    · rw [if_neg c]
      exact Ev.step (fun K => by
        simp only [spec_DiskRead.l0]
        rw [if_pos (by omega), if_pos (by omega), if_pos (by omega), if_neg c, show wrap64 ((d : Int) - 1) = (d : Int) - 1 by unfold wrap64; omega]) ih'
theorem specRead_ev (l0 : List Int) (l1 : List S79) (a2 : Int) (a3 : Bool) (s : Int) (h0 : l0.length ≤ 1048576) (hL : l1.length ≤ 1048576) : Ev (fun k => spec_DiskRead.f k l0 l1 a2 a3 s) (if (vD l0 l1 a2 && inD l0 s) = true then dRd l0 l1 s else []) := by
  have hj : Ev (fun k => spec_DiskRead.j0 k s true l0 l1 a2 a3) ([] : List Int) := Ev.step (fun K => by simp only [spec_DiskRead.j0]; rw [if_true]) (Ev.now _)
  unfold spec_DiskRead.f
  refine Ev.bind (specValid_ev l0 l1 a2 a3 h0 hL) ?_
  by_cases cv : vD l0 l1 a2 = true
  case neg =>
    have cv' : vD l0 l1 a2 = false := by simpa using cv
    rw [cv', Bool.false_and, if_neg (by decide)]
    exact Ev.congr (fun K => by rw [if_neg (by decide)]) hj
  rw [cv, Bool.true_and]
  refine Ev.congr (fun K => by rw [if_pos rfl]) ?_
  obtain ⟨f1, f2, f3, f4, f5, f6, f7⟩ := vD_facts cv
  by_cases c : s < 0
  · rw [show inD l0 s = false by unfold inD; simp <;> omega, if_neg (by decide)]
    exact Ev.congr (fun K => by rw [if_pos c]) hj
  have hsec : spec_l1Sectors.f l0 l1 a2 a3 = some ((l0.length / 64 : Nat) : Int) := by unfold spec_l1Sectors.f; rw [sectors_at l0 h0]
  refine Ev.congr (fun K => by rw [if_neg c, hsec, Option.bind_some]) ?_
  by_cases c2 : s ≥ ((l0.length / 64 : Nat) : Int)
  · rw [show inD l0 s = false by unfold inD; simp <;> omega, if_neg (by decide)]
    exact Ev.congr (fun K => by rw [decide_eq_true c2]) hj
  · rw [show inD l0 s = true by unfold inD; simp <;> omega, if_pos rfl]
    have h := specRead_loop l0 l1 a2 a3 s (by omega) (by omega) f3 f4 (fun x hx => (f7 x hx).2.2) l1.length (Nat.le_refl _)
    rw [List.take_length] at h
    refine Ev.congr (fun K => by rw [decide_eq_false c2]) (Ev.step (fun K => by simp only [spec_DiskRead.j0]; rw [if_neg (by decide), show wrap64 ((l1.length : Int) - 1) = (l1.length : Int) - 1 by unfold wrap64; omega]) h)

/-! ### L_superEq: a text by hand -/
def put4 (x : Int) : List Int := [x % 256, x / 256 % 256, x / 256 / 256 % 256, x / 256 / 256 / 256 % 256]
theorem put_step (k : Nat) (x : Int) (l : List Int) (i : Int) (h0 : 0 ≤ i) (hi : i < 4) (hl : l.length < 100) (hx : 0 ≤ x) (hx2 : x < 4294967296) :
    spec_l2Put.l0 (k + 1) x 4 l i = spec_l2Put.l0 k (x / 256) 4 (l ++ [x % 256]) (i + 1) := by
  rw [spec_l2Put.l0, if_pos hi, if_pos (by omega), Int.tdiv_eq_ediv_of_nonneg hx, Int.tmod_eq_emod_of_nonneg hx]
  rw [show wrap64 (x / 256) = x / 256 from by unfold wrap64; omega, show wrap64 (i + 1) = i + 1 from by unfold wrap64; omega, show x % 256 % 256 = x % 256 from by omega]
theorem spec_put4 (x : Int) (hx : 0 ≤ x) (hx2 : x < 4294967296) : ∀ (k : Nat) (r : List Int), spec_l2Put.f k x 4 = some r → r = put4 x := by
  intro k r h
  unfold spec_l2Put.f at h
  have hx' : 0 ≤ x / 256 ∧ x / 256 < 4294967296 := by omega
  have hx'' : 0 ≤ x / 256 / 256 ∧ x / 256 / 256 < 4294967296 := by omega
  have hx3 : 0 ≤ x / 256 / 256 / 256 ∧ x / 256 / 256 / 256 < 4294967296 := by omega
  match k, h with
  | 0, h => cases h
  | 1, h => rw [put_step _ _ _ _ (by decide) (by decide) (by simp) hx hx2] at h; cases h
  | 2, h => rw [put_step _ _ _ _ (by decide) (by decide) (by simp) hx hx2, put_step _ _ _ _ (by decide) (by decide) (by simp) hx'.1 hx'.2] at h; cases h
  | 3, h => rw [put_step _ _ _ _ (by decide) (by decide) (by simp) hx hx2, put_step _ _ _ _ (by decide) (by decide) (by simp) hx'.1 hx'.2, put_step _ _ _ _ (by decide) (by decide) (by simp) hx''.1 hx''.2] at h; cases h
  | 4, h => rw [put_step _ _ _ _ (by decide) (by decide) (by simp) hx hx2, put_step _ _ _ _ (by decide) (by decide) (by simp) hx'.1 hx'.2, put_step _ _ _ _ (by decide) (by decide) (by simp) hx''.1 hx''.2, put_step _ _ _ _ (by decide) (by decide) (by simp) hx3.1 hx3.2] at h; cases h
  | k + 5, h =>
    rw [put_step _ _ _ _ (by decide) (by decide) (by simp) hx hx2, put_step _ _ _ _ (by decide) (by decide) (by simp) hx'.1 hx'.2, put_step _ _ _ _ (by decide) (by decide) (by simp) hx''.1 hx''.2, put_step _ _ _ _ (by decide) (by decide) (by simp) hx3.1 hx3.2, spec_l2Put.l0, if_neg (by decide)] at h
    exact (Option.some.inj h).symm
theorem iput_step (k : Nat) (xs : List Int) (p x : Int) (i n : Nat) (hi : i < 4) (hp : 0 ≤ p) (hpl : p + i < xs.length) (hxl : xs.length < 1000) (hn : (p + i).toNat = n) :
    impl_put.l0 (k + 1) xs p x 4 i = impl_put.l0 k (xs.set n (x / 2 ^ (8 * i) % 256)) p x 4 ((i + 1 : Nat) : Int) := by
  have e1 : wrap64 (8 * (i : Int)) = ((8 * i : Nat) : Int) := by unfold wrap64; omega
  have e2 : wrap64 (p + (i : Int)) = p + i := by unfold wrap64; omega
  have e3 : wrap64 ((i : Int) + 1) = ((i + 1 : Nat) : Int) := by unfold wrap64; omega
  have e4 : shr IntKind.i64 x ((8 * i : Nat) : Int) = x / 2 ^ (8 * i) := by
    show x / 2 ^ min (((8 * i : Nat) : Int)).toNat 64 = _
    rw [Int.toNat_natCast, Nat.min_eq_left (by omega)]
  rw [impl_put.l0, if_pos (by omega), e1, if_pos (by omega), e2, if_pos (by omega), if_pos (by omega), e3, e4, hn]
theorem impl_put4 (xs : List Int) (p x : Int) (n : Nat) (hp : 0 ≤ p) (hn : p.toNat = n) (hpl : p + 4 ≤ xs.length) (hxl : xs.length < 1000) (hx : 0 ≤ x) (hx2 : x < 4294967296) :
    impl_put.f 5 xs p 4 x = some ((((xs.set n (x % 256)).set (n + 1) (x / 256 % 256)).set (n + 2) (x / 256 / 256 % 256)).set (n + 3) (x / 256 / 256 / 256 % 256)) := by
  unfold impl_put.f
  rw [show (0 : Int) = ((0 : Nat) : Int) from rfl, iput_step 4 xs p x 0 n (by decide) hp (by omega) hxl (by omega), iput_step 3 _ p x 1 (n + 1) (by decide) hp (by simp; omega) (by simpa using hxl) (by omega), iput_step 2 _ p x 2 (n + 2) (by decide) hp (by simp; omega) (by simpa using hxl) (by omega), iput_step 1 _ p x 3 (n + 3) (by decide) hp (by simp; omega) (by simpa using hxl) (by omega), impl_put.l0, if_neg (by decide)]
  rw [show x / 2 ^ (8 * 0) = x from by simp, show x / 2 ^ (8 * 1) = x / 256 from by rw [show (2 : Int) ^ (8 * 1) = 256 from rfl], show x / 2 ^ (8 * 2) = x / 256 / 256 from by rw [show (2 : Int) ^ (8 * 2) = 65536 from rfl]; omega, show x / 2 ^ (8 * 3) = x / 256 / 256 / 256 from by rw [show (2 : Int) ^ (8 * 3) = 16777216 from rfl]; omega]
theorem cat_from (ls : List (List Int)) (r : List Int) : ∀ (k : Nat) (acc : List Int) (i : Nat), spec_l2Cat.l0 k ls acc i = some r → i ≤ ls.length → ls.length < 1000 → r = acc ++ (ls.drop i).flatten
  | 0, _, _, h, _, _ => by cases h
  | k + 1, acc, i, h, hi, hl => by
    rw [spec_l2Cat.l0] at h
    by_cases c : (i : Int) < (ls.length : Int)
    · rw [if_pos c, if_pos (by omega)] at h
      by_cases c2 : acc.length + (rd_L2 ls i).length < 140737488355328
      · rw [if_pos c2, show wrap64 ((i : Int) + 1) = ((i + 1 : Nat) : Int) from by unfold wrap64; omega] at h
        rw [cat_from ls r k _ _ h (by omega) hl, List.drop_eq_getElem_cons (show i < ls.length by omega), List.flatten_cons, List.append_assoc]
        congr 2
        simp [rd_L2, show i < ls.length by omega]
      · rw [if_neg c2] at h; cases h
    · rw [if_neg c] at h
      rw [← Option.some.inj h, List.drop_of_length_le (by omega)]
      simp
theorem cat_eq (ls : List (List Int)) (r : List Int) (k : Nat) (h : spec_l2Cat.f k ls = some r) (hl : ls.length < 1000) : r = ls.flatten := by
  have := cat_from ls r k [] 0 h (by omega) hl
  simpa using this
theorem zeros_from (r : List Int) : ∀ (k : Nat) (acc : List Int) (i : Nat), spec_l1Zeros.l0 k 48 acc i = some r → i ≤ 48 → acc = List.replicate i 0 → r = List.replicate 48 0
  | 0, _, _, h, _, _ => by cases h
  | k + 1, acc, i, h, hi, ha => by
    rw [spec_l1Zeros.l0] at h
    by_cases c : (i : Int) < 48
    · rw [if_pos c, if_pos (by rw [ha, List.length_replicate]; omega), show wrap64 ((i : Int) + 1) = ((i + 1 : Nat) : Int) from by unfold wrap64; omega] at h
      exact zeros_from r k _ _ h (by omega) (by rw [ha]; exact List.replicate_succ'.symm)
    · rw [if_neg c] at h
      rw [← Option.some.inj h, ha, show i = 48 by omega]
theorem zeros_eq (r : List Int) (k : Nat) (h : spec_l1Zeros.f k 48 = some r) : r = List.replicate 48 0 := zeros_from r k [] 0 h (by decide) rfl
theorem crc_bd (k : Nat) (l : List Int) (c : Int) (hl : l.length ≤ 9223372036854775807) (h : spec_Crc32.f k l = some c) : 0 ≤ c ∧ c < 4294967296 := by
  rw [(crcSpec l c hl k).1 _ 0 h (by omega) rfl]
  have h0 := bits_lo_u32 .xor (crcT l l.length) 4294967295
  have h1 := bits_hi_u32 .xor (crcT l l.length) 4294967295
  exact ⟨h0, by omega⟩
theorem super_eq (k : Nat) (a0 a1 a2 : Int) (t : List Int) (h0 : 0 ≤ a0) (h0' : a0 < 4294967296) (h2 : 0 ≤ a2) (h2' : a2 < 4294967296) (h : spec_l2SuperBytes.f k a0 a1 a2 = some t) : cSuper k a0 a1 a2 = some t := by
  unfold spec_l2SuperBytes.f at h
  obtain ⟨x0, e0, h⟩ := Option.bind_eq_some_iff.1 h
  obtain ⟨x1, e1, h⟩ := Option.bind_eq_some_iff.1 h
  obtain ⟨x2, e2, h⟩ := Option.bind_eq_some_iff.1 h
  obtain ⟨x3, e3, h⟩ := Option.bind_eq_some_iff.1 h
  obtain ⟨x4, e4, h⟩ := Option.bind_eq_some_iff.1 h
  obtain rfl := Option.some.inj h
  obtain rfl := spec_put4 a0 h0 h0' k x0 e0
  obtain rfl := spec_put4 a2 h2 h2' k x1 e1
  obtain rfl := zeros_eq x2 k e2
  have e3 := cat_eq _ _ k e3 (by simp)
  unfold spec_l2Seal.f at e4
  obtain ⟨cr, f0, e4⟩ := Option.bind_eq_some_iff.1 e4
  obtain ⟨x5, f1, e4⟩ := Option.bind_eq_some_iff.1 e4
  obtain ⟨x6, f2, e4⟩ := Option.bind_eq_some_iff.1 e4
  obtain rfl := Option.some.inj e4
  have hb := crc_bd k x3 cr (by rw [e3]; simp [put4]) f0
  rw [show wrap64 cr = cr from by unfold wrap64; omega] at f1
  obtain rfl := spec_put4 cr hb.1 hb.2 k x5 f1
  have f2 := cat_eq _ _ k f2 (by simp)
  unfold cSuper cHead
  rw [impl_put4 (List.replicate 64 0) 0 a0 0 (by decide) rfl (by simp) (by simp) h0 h0', Option.bind_some, impl_put4 _ 8 a2 8 (by decide) rfl (by simp) (by simp) h2 h2', Option.bind_some]
  have hx3 : x3 = put4 a0 ++ [81, 49, a1 % 256, 0] ++ put4 a2 ++ List.replicate 48 0 := by rw [e3]; simp
  have hy : ∀ (b0 b1 b2 b3 d c0 c1 c2 c3 : Int), ((((((((((((List.replicate 64 (0 : Int)).set 0 b0).set (0 + 1) b1).set (0 + 2) b2).set (0 + 3) b3).set 4 81).set 5 49).set 6 d).set 8 c0).set (8 + 1) c1).set (8 + 2) c2).set (8 + 3) c3) = [b0, b1, b2, b3, 81, 49, d, 0, c0, c1, c2, c3] ++ List.replicate 52 0 := fun _ _ _ _ _ _ _ _ _ => rfl
  rw [hy]
  have ht : List.take 60 ([a0 % 256, a0 / 256 % 256, a0 / 256 / 256 % 256, a0 / 256 / 256 / 256 % 256, 81, 49, a1 % 256, 0, a2 % 256, a2 / 256 % 256, a2 / 256 / 256 % 256, a2 / 256 / 256 / 256 % 256] ++ List.replicate 52 0) = x3 := by rw [hx3]; rfl
  rw [ht, f0, Option.bind_some, impl_put4 _ 60 cr 60 (by decide) rfl (by simp) (by simp) hb.1 hb.2, f2, hx3]
  rfl

/-! ### L_super0: a text by hand -/
theorem put_ev (x : Int) (hx : 0 ≤ x) (hx2 : x < 4294967296) : Ev (fun k => spec_l2Put.f k x 4) (put4 x) := by
  refine Ev.of (fun k => spec_l2Put.mono _ _ k) (k := 5) ?_
  unfold spec_l2Put.f
  have hx' : 0 ≤ x / 256 ∧ x / 256 < 4294967296 := by omega
  have hx'' : 0 ≤ x / 256 / 256 ∧ x / 256 / 256 < 4294967296 := by omega
  have hx3 : 0 ≤ x / 256 / 256 / 256 ∧ x / 256 / 256 / 256 < 4294967296 := by omega
  rw [put_step _ _ _ _ (by decide) (by decide) (by simp) hx hx2, put_step _ _ _ _ (by decide) (by decide) (by simp) hx'.1 hx'.2, put_step _ _ _ _ (by decide) (by decide) (by simp) hx''.1 hx''.2, put_step _ _ _ _ (by decide) (by decide) (by simp) hx3.1 hx3.2, spec_l2Put.l0, if_neg (by decide)]
  rfl
set_option maxRecDepth 100000 in
theorem zeros_ev : Ev (fun k => spec_l1Zeros.f k 48) (List.replicate 48 0) := Ev.of (fun k => spec_l1Zeros.mono _ k) (k := 50) (by decide +kernel)
theorem cat_ev (ls : List (List Int)) (hl : ls.length < 1000) (hb : ∀ x ∈ ls, x.length ≤ 100) : ∀ (m i : Nat) (acc : List Int), i + m = ls.length → acc.length ≤ 100 * i → Ev (fun k => spec_l2Cat.l0 k ls acc i) (acc ++ (ls.drop i).flatten)
  | 0, i, acc, hi, ha => by
    have e : ls.drop i = [] := List.drop_of_length_le (by omega)
    rw [e]
    refine Ev.step (f := fun _ => some (acc ++ [].flatten)) (fun K => ?_) (Ev.now _)
    rw [spec_l2Cat.l0, if_neg (by omega)]
    simp
  | m + 1, i, acc, hi, ha => by
    have hlt : i < ls.length := by omega
    have e : rd_L2 ls i = ls[i] := by simp [rd_L2, hlt]
    have hx := hb ls[i] (List.getElem_mem hlt)
    have ih := cat_ev ls hl hb m (i + 1) (acc ++ ls[i]) (by omega) (by rw [List.length_append]; omega)
    rw [List.drop_eq_getElem_cons hlt, List.flatten_cons, ← List.append_assoc]
    refine Ev.step (fun K => ?_) ih
    rw [spec_l2Cat.l0, if_pos (by omega), if_pos (by omega), e, if_pos (by omega), show wrap64 ((i : Int) + 1) = ((i + 1 : Nat) : Int) from by unfold wrap64; omega]
theorem cat_evf (ls : List (List Int)) (hl : ls.length < 1000) (hb : ∀ x ∈ ls, x.length ≤ 100) : Ev (fun k => spec_l2Cat.f k ls) ls.flatten := by
  have : Ev (fun k => spec_l2Cat.l0 k ls [] 0) ls.flatten := by simpa using cat_ev ls hl hb ls.length 0 [] (by omega) (by simp)
  exact this
theorem crc_l1_ev (l : List Int) (i : Nat) (hi : i < 4611686018427387904) (next : ∀ x, ∃ r, Ev (fun k => spec_Crc32.l0 k l x ((i + 1 : Nat) : Int)) r) : ∀ (m j : Nat), j + m = 8 → ∀ x, ∃ r, Ev (fun k => spec_Crc32.l1 k l x i j) r
  | 0, j, hj, x => by
    obtain ⟨r, hr⟩ := next x
    exact ⟨r, Ev.step (fun K => by rw [spec_Crc32.l1, if_neg (by omega), show wrap64 ((i : Int) + 1) = ((i + 1 : Nat) : Int) from by unfold wrap64; omega]) hr⟩
  | m + 1, j, hj, x => by
    have ew : wrap64 ((j : Int) + 1) = ((j + 1 : Nat) : Int) := by unfold wrap64; omega
    by_cases c : Int.tmod x 2 = 1
    · obtain ⟨r, hr⟩ := crc_l1_ev l i hi next m (j + 1) (by omega) (Go.bits .xor .u32 ((Int.tdiv x 2) % 4294967296) 3988292384)
      exact ⟨r, Ev.step (fun K => by rw [spec_Crc32.l1, if_pos (by omega), if_pos c, ew]) hr⟩
    · obtain ⟨r, hr⟩ := crc_l1_ev l i hi next m (j + 1) (by omega) ((Int.tdiv x 2) % 4294967296)
      exact ⟨r, Ev.step (fun K => by rw [spec_Crc32.l1, if_pos (by omega), if_neg c, ew]) hr⟩
theorem crc_l0_ev (l : List Int) (hl : l.length < 4611686018427387904) : ∀ (m i : Nat), i + m = l.length → ∀ x, ∃ r, Ev (fun k => spec_Crc32.l0 k l x i) r
  | 0, i, hi, x => ⟨_, Ev.step (f := fun _ => some (Go.bits .xor .u32 x 4294967295)) (fun K => by rw [spec_Crc32.l0, if_neg (by omega)]) (Ev.now _)⟩
  | m + 1, i, hi, x => by
    obtain ⟨r, hr⟩ := crc_l1_ev l i (by omega) (fun y => crc_l0_ev l hl m (i + 1) (by omega) y) 8 0 rfl (Go.bits .xor .u32 x ((rd l i) % 4294967296))
    exact ⟨r, Ev.step (fun K => by rw [spec_Crc32.l0, if_pos (by omega), if_pos (by omega)]; rfl) hr⟩
theorem crc_ev (l : List Int) (hl : l.length < 4611686018427387904) : ∃ r, Ev (fun k => spec_Crc32.f k l) r := crc_l0_ev l hl l.length 0 (by omega) 4294967295
theorem super_ev (b0 b1 b2 : Int) (h0 : 0 ≤ b0) (h0' : b0 < 4294967296) (h2 : 0 ≤ b2) (h2' : b2 < 4294967296) : ∃ t : List Int, t.length = 64 ∧ Ev (fun k => spec_l2SuperBytes.f k b0 b1 b2) t := by
  have hc := cat_evf [put4 b0, [81, 49], [b1 % 256, 0], put4 b2, List.replicate 48 0] (by simp) (by simp [put4])
  have hl : [put4 b0, [81, 49], [b1 % 256, 0], put4 b2, List.replicate 48 0].flatten.length = 60 := by simp [put4]
  generalize [put4 b0, [81, 49], [b1 % 256, 0], put4 b2, List.replicate 48 0].flatten = x3 at hc hl
  obtain ⟨cr, hcr⟩ := crc_ev x3 (by omega)
  obtain ⟨kc, hkc⟩ := hcr.rounds
  have hb := crc_bd kc x3 cr (by omega) hkc
  have hw : wrap64 cr = cr := by unfold wrap64; omega
  have hc2 := cat_evf [x3, put4 cr] (by simp) (by simp [put4, hl])
  refine ⟨[x3, put4 cr].flatten, by simp [put4, hl], ?_⟩
  unfold spec_l2SuperBytes.f
  refine Ev.bind (put_ev b0 h0 h0') (Ev.bind (put_ev b2 h2 h2') (Ev.bind zeros_ev (Ev.bind hc (Ev.bind ?_ (Ev.now _)))))
  unfold spec_l2Seal.f
  refine Ev.bind hcr (Ev.bind ?_ (Ev.bind hc2 (Ev.now _)))
  rw [hw]
  exact put_ev cr hb.1 hb.2
theorem specGood_eq (b0 b1 b2 : Int) : spec_l2GoodSuper.f b0 b1 b2 = some (gS b0 b1 b2) := by
  unfold spec_l2GoodSuper.f spec_l2Number.f gS
  by_cases h1 : 0 ≤ b0 <;> by_cases h2 : b0 ≤ 2000000000 <;> by_cases h3 : b1 = 0 <;> by_cases h4 : b1 = 1 <;> by_cases h5 : 1 ≤ b2 <;> by_cases h6 : b2 ≤ 2000000000 <;> by_cases h7 : 0 ≤ b1 <;> by_cases h8 : b1 ≤ 1 <;> first | omega | simp [h1, h2, h3, h4, h5, h6, h7, h8]

/-! ### impl_get: function 71 -/
def impl_get.l0 : Nat → List Int → Int → Int → Int → Option (Int)
  | 0, _, _, _, _ => none
  | k + 1, x0, x1, x7, x8 => if x8 ≥ 0 then (if 0 ≤ (wrap64 (x1 + x8)) then (if (wrap64 (x1 + x8)) < (x0.length : Int) then (impl_get.l0 k x0 x1 (Go.bits .or .i64 (wrap64 (x7 * 256)) (wrap64 (rd x0 (wrap64 (x1 + x8))))) (wrap64 (x8 - 1))) else (none)) else (none)) else (some x7)
def impl_get.f (k : Nat) (l0 : List Int) (a1 : Int) (a2 : Int) : Option (Int) := impl_get.l0 k l0 a1 0 (wrap64 (a2 - 1))
theorem impl_get.mono_l : ∀ k, (∀ y0 y1 y2 y3, LeO (impl_get.l0 k y0 y1 y2 y3) (impl_get.l0 (k + 1) y0 y1 y2 y3))
  | 0 => fun _ _ _ _ r h => by simp [impl_get.l0] at h
  | k + 1 => by
    have ih0 := impl_get.mono_l k
    · intro y0 y1 y2 y3
      unfold impl_get.l0
      repeat' first
      | (with_reducible exact ih0 _ _ _ _)
      | (with_reducible exact LeO.refl _)
      | (with_reducible exact LeO.none _)
      | (with_reducible refine LeO.ite ?_ ?_)
      | (with_reducible refine LeO.bind ?_ (fun _ => ?_))
      | exact ih0 _ _ _ _
      | exact LeO.none _
      | refine LeO.ite ?_ ?_
      | refine LeO.bind ?_ (fun _ => ?_)
theorem impl_get.mono : ∀ a0 a1 a2 k, LeO (impl_get.f k a0 a1 a2) (impl_get.f (k + 1) a0 a1 a2) := by
  intro a0 a1 a2 k
  have ih0 := impl_get.mono_l k
  unfold impl_get.f
  repeat' first
      | (with_reducible exact ih0 _ _ _ _)
      | (with_reducible exact LeO.refl _)
      | (with_reducible exact LeO.none _)
      | (with_reducible refine LeO.ite ?_ ?_)
      | (with_reducible refine LeO.bind ?_ (fun _ => ?_))
      | exact ih0 _ _ _ _
      | exact LeO.none _
      | refine LeO.ite ?_ ?_
      | refine LeO.bind ?_ (fun _ => ?_)
set_option maxHeartbeats 8000000 in
set_option maxRecDepth 100000 in
theorem impl_get.calls (k : Nat) (A0 : Option Addr) (c0 : Nat) (l0 : List Int) (a1 : Int) (a2 : Int) (r : Int) (w : World) (hr0 : Kd.C (Kd.int .u8) w A0 l0.length l0) (hc0 : l0.length ≤ c0) (h : impl_get.f k l0 a1 a2 = some r) :
    Calls Try.prog 71 #[.slice A0 l0.length c0, .int .i64 a1, .int .i64 a2] w fun e w' => e = .returned (.int .i64 r) ∧ Drawn0 w w' := by
  have HR0 := Aside0.mk hr0
  have HC0 := Aside0.mk hc0
  clear hr0 hc0
  have H : (impl_get.l0 k l0 a1 0 (wrap64 (a2 - 1))) = some r := h
  clear h
  have H' := Aside0.mk H
  clear H
  go_enter Try.func71, Try.ntmps71
  go_wp2
  go_loopg [7, 8] k (fun kq v7 v8 w' => ∃ (x7_1 : Int) (x8_1 : Int), v7 = .int .i64 x7_1 ∧ v8 = .int .i64 x8_1 ∧ Aside0 (impl_get.l0 kq l0 a1 x7_1 x8_1 = some r) ∧ Aside0 (kq ≤ k) ∧ Drawn0 w w')
  case atStart => exact ⟨(0), (wrap64 (a2 - 1)), (by first | rfl | (simp; done) | (simp [*]; done)), (by first | rfl | (simp; done) | (simp [*]; done)), H', ⟨Nat.le_refl _⟩, by repeat (first | exact Drawn0.refl _ | apply Drawn0.step)⟩
  case round =>
    clear H'
    try clear p2
    obtain ⟨x7_1, x8_1, rfl, rfl, HA, HK1, ⟨m1, rfl⟩⟩ := hrel
    cases gk with
    | zero => exact absurd HA.out (by simp [impl_get.l0])
    | succ k1 =>
      have H := HA.out
      clear HA
      simp only [impl_get.l0] at H
      by_cases c4 : x8_1 ≥ 0
      · rw [if_pos c4] at H
        have c4b0 : decide (0 ≤ x8_1) = true := decide_eq_true c4
        clear c4
        obtain ⟨ji5, hji5⟩ : ∃ j_ : Int, (wrap64 (a1 + x8_1)) = j_ := ⟨_, rfl⟩
        replace H : (if 0 ≤ (ji5) then (if (ji5) < (l0.length : Int) then (impl_get.l0 k1 l0 a1 (Go.bits .or .i64 (wrap64 (x7_1 * 256)) (wrap64 (rd l0 (ji5)))) (wrap64 (x8_1 - 1))) else (none)) else (none)) = some r := by first | (rw [hji5] at H; exact H) | (simp only [hji5] at H ⊢; exact H)
        have hji5w : (IntKind.i64.wrap (a1 + x8_1)) = ji5 := (i64_w _).trans hji5
        by_cases c6 : 0 ≤ (ji5)
        · rw [if_pos c6] at H
          have c6b0 : decide (0 ≤ (ji5)) = true := decide_eq_true c6
          clear c6
          by_cases c7 : (ji5) < (l0.length : Int)
          · rw [if_pos c7] at H
            have c7b0 : decide ((ji5) < (l0.length : Int)) = true := decide_eq_true c7
            clear c7
            have H' := Aside0.mk H
            clear H
            have p1078 : 0 ≤ ((ji5) : Int) := of_decide_eq_true (by first | (with_reducible assumption) | assumption)
            have q1078 : (ji5) < (l0.length : Int) := of_decide_eq_true (by first | (with_reducible assumption) | assumption)
            obtain ⟨ad1078, e1078, hx1078_0⟩ := Kd.at_int HR0.out (ji5) p1078 q1078
            cases e1078
            replace p1078 := eq_true p1078
            replace q1078 := eq_true q1078
            go_wp2
            go_roundg k1
            case measure => have := HK1.out; omega
            case rel => exact ⟨(Go.bits .or .i64 (wrap64 (x7_1 * 256)) (wrap64 (rd l0 (ji5)))), (wrap64 (x8_1 - 1)), (by first | rfl | (simp; done) | (simp only [← hji5] <;> (first | rfl | simp)) | (simp [*]; done)), (by first | rfl | (simp; done) | (simp [*]; done)), H', ⟨by have := HK1.out; omega⟩, by repeat (first | exact Drawn0.refl _ | apply Drawn0.step)⟩
          · rw [if_neg c7] at H
            exact absurd H (by simp)
        · rw [if_neg c6] at H
          exact absurd H (by simp)
      · rw [if_neg c4] at H
        have c4b0 : decide (0 ≤ x8_1) = false := decide_eq_false c4
        clear c4
        obtain rfl := Option.some.inj H
        go_wp2
        go_ret
        exact ⟨by first | rfl | (simp; done) | (simp [*]; done), by repeat (first | exact Drawn0.refl _ | apply Drawn0.step)⟩

/-! ### L_eqArr: a text by hand -/
-- import Derived.Laws.StructEq
theorem part_byte {w : World} (xs : List Int) (i : Nat) (x : Int) (hx : xs[i]? = some x) : (part 5 (xs.map (Value.int .u8)).toArray i).run Try.prog w = .ok (.int .u8 x) w := by
  have hag : (isAgg 5).run Try.prog w = .ok false w := by kernel_rfl
  unfold part
  simp [hag, hx]
theorem run_equal_arr (len : Nat) (d : Nat) (t : TypeId) (ht : Try.prog.underlying t = some (.array len 5)) (xs ys : List Int) (hx : xs.length = len) (hy : ys.length = len) (w : World) :
    (Op.equalIn (d + 2) t (.agg (xs.map (Value.int .u8)).toArray) (.agg (ys.map (Value.int .u8)).toArray)).run Try.prog w = .ok (xs == ys) w := by
  have hsz : (sizeOf 5).run Try.prog w = .ok 1 w := by kernel_rfl
  rw [Op.equalIn]
  simp only [Sem.run_bind, run_underlying ht, Result.andThen_ok, hsz]
  simp only [Std.Legacy.Range.forIn_eq_forIn_range', Std.Legacy.Range.size, Nat.sub_zero, Nat.add_one_sub_one, Nat.div_one]
  have key : ∀ (n s : Nat), s + n = len → Sem.run Try.prog (forIn (List.range' s n) ((none : Option Bool), ()) fun i __s => do
            let __do_lift ← part 5 (List.map (Value.int IntKind.u8) xs).toArray (i * 1)
            let __do_lift_1 ← part 5 (List.map (Value.int IntKind.u8) ys).toArray (i * 1)
            let __do_lift ← Op.equalIn (d + 1) 5 __do_lift __do_lift_1
            if (!__do_lift) = true then pure (ForInStep.done (some false, ())) else pure (ForInStep.yield (none, ()))) w = .ok ((if xs.drop s = ys.drop s then none else some false), ()) w := by
    intro n
    induction n with
    | zero =>
      intro s hs
      have e1 : xs.drop s = [] := List.drop_eq_nil_of_le (by omega)
      have e2 : ys.drop s = [] := List.drop_eq_nil_of_le (by omega)
      rw [e1, e2, if_pos rfl]
      simp
    | succ n ih =>
      intro s hs
      have hsx : s < xs.length := by omega
      have hsy : s < ys.length := by omega
      have px := part_byte (w := w) xs s _ (List.getElem?_eq_getElem hsx)
      have py := part_byte (w := w) ys s _ (List.getElem?_eq_getElem hsy)
      rw [List.drop_eq_getElem_cons hsx, List.drop_eq_getElem_cons hsy, List.range'_succ, List.forIn_cons]
      simp only [Sem.run_bind, Nat.mul_one, px, py, Result.andThen_ok, run_equalIn_int w d 5 .u8 .u8 _ _ Try.underlying5]
      by_cases he : xs[s] = ys[s]
      · have := ih (s + 1) (by omega)
        simp only [Nat.mul_one] at this
        rw [beq_iff_eq.2 he]
        simp only [Bool.not_true, Bool.false_eq_true, if_false, Sem.run_pure, Result.andThen_ok]
        rw [this]
        simp only [he, List.cons.injEq, true_and]
      · rw [beq_eq_false_iff_ne.2 he, if_neg (fun h => he (List.cons.inj h).1)]
        simp
  rw [key len 0 (by omega)]
  simp only [List.drop_zero, Result.andThen_ok]
  by_cases he : xs = ys
  · rw [if_pos he, beq_iff_eq.2 he]
    simp
  · rw [if_neg he, beq_eq_false_iff_ne.2 he]
    simp
theorem run_neq_sector (xs ys : List Int) (hx : xs.length = 64) (hy : ys.length = 64) (w : World) :
    (binOp .neq 84 (.agg (xs.map (Value.int .u8)).toArray) (.agg (ys.map (Value.int .u8)).toArray)).run Try.prog w = .ok (.bool (xs != ys)) w := by
  rw [run_neq_struct, run_equal_arr 64 9998 84 (by kernel_rfl) xs ys hx hy w]
  rfl

/-! ### impl_Disk_read2: a text by hand -/
set_option maxHeartbeats 4000000 in
set_option maxRecDepth 100000 in
theorem impl_Disk_read.calls (A0 : Option Addr) (c0 : Nat) (l0 : List Int) (A1 : Option Addr) (c1 : Nat) (l1 : List S79) (a2 : Int) (a3 : Bool) (s : Int) (w : World) (hr0 : Kd.C (Kd.int .u8) w A0 l0.length l0) (hc0 : l0.length ≤ c0) (hr1 : Kd.C k79 w A1 l1.length l1) (hc1 : l1.length ≤ c1)
    (h0 : 0 ≤ s) (h1 : s * 64 + 64 ≤ l0.length) (h2 : l0.length ≤ 65599) (h3 : l1.length ≤ 2000) (h4 : ∀ x ∈ l1, x.f1.length = 64) :
    Calls Try.prog 55 #[.agg #[.slice A0 l0.length c0, .slice A1 l1.length c1, .int .i64 a2, .bool a3], .int .i64 s] w fun e w' => e = .returned (.agg ((dRd l0 l1 s).map (Value.int .u8)).toArray) ∧ Below w.heap.size w w' := by
  have HR0 := Aside0.mk hr0
  have HC0 := Aside0.mk hc0
  have HR1 := Aside0.mk hr1
  have HC1 := Aside0.mk hc1
  have HP := Aside0.mk h4
  clear hr0 hc0 hr1 hc1 h4
  have hu25 := Try.underlying25
  have hu79 := Try.underlying79
  have e1 : wrap64 (s * 64) = s * 64 := by unfold wrap64; omega
  have e2 : wrap64 (s + 1) = s + 1 := by unfold wrap64; omega
  have e3 : wrap64 ((s + 1) * 64) = (s + 1) * 64 := by unfold wrap64; omega
  have HB := Aside0.mk (Below.refl w.heap.size w)
  have e4 : ¬ c0 = (s * 64).toNat := by have := HC0.out; omega
  have e5 : (s + 1) * 64 ≤ (c0 : Int) := by have := HC0.out; omega
  have e6 : 0 ≤ (s + 1) * 64 := by omega
  have e7 : 0 ≤ s * 64 := by omega
  have e8 : s * 64 ≤ (s + 1) * 64 := by omega
  have e9 : ((s + 1) * 64).toNat - (s * 64).toNat = 64 := by omega
  have e10 : (s * 64 ≤ (((s + 1) * 64).toNat : Int)) := by omega
  go_enter Try.func55, Try.ntmps55
  go_wp2_with fail
  clear e1 e2 e3 e5 e6 e7 e8 e10
  go_loopg [5, 19] l1.length (fun kq v5 v19 w' => ∃ (i cb : Nat) (B : Option Addr), v19 = .int .i64 i ∧ v5 = .slice B 64 cb ∧ Aside0 (64 ≤ cb ∧ i ≤ l1.length ∧ kq = l1.length - i) ∧ Aside0 (Kd.C (Kd.int .u8) w' B 64 (rdAll s (sec l0 s) (l1.take i))) ∧ Aside0 (∃ Z : Array Value, Z.size = 64 ∧ w'.heap[w.heap.size + 1]? = some (.cells Z 84 (0, 0))) ∧ Aside0 (Below w.heap.size w w'))
  case atStart =>
    have hm := Kd.C_mid (lo := (s * 64).toNat) (hi := ((s + 1) * 64).toNat) HR0.out (by omega) (by omega) HC0.out
    rw [if_neg e4] at hm
    refine ⟨0, _, _, rfl, rfl, ⟨by have := HC0.out; omega, by omega, rfl⟩, ⟨?_⟩, ⟨⟨_, by rfl, blk_new2 w _ _⟩⟩, ⟨below_alloc (below_alloc HB.out _) _⟩⟩
    refine Kd.C_alloc (Kd.C_alloc ?_ _) _
    have hl : ((l0.take ((s + 1) * 64).toNat).drop (s * 64).toNat).length = 64 := by simp; omega
    rw [hl] at hm
    show Kd.C _ _ _ _ (sec l0 s)
    unfold sec
    rw [show wrap64 (s * 64) = s * 64 by unfold wrap64; omega, show wrap64 (s + 1) = s + 1 by unfold wrap64; omega, show wrap64 ((s + 1) * 64) = (s + 1) * 64 by unfold wrap64; omega]
    rw [show (s * 64).toNat * (Kd.int .u8).sz = (s * 64).toNat from Nat.mul_one _] at hm
    exact hm
  case round =>
    obtain ⟨i, cb, B, rfl, rfl, HI, HC, HZ, HB⟩ := hrel
    by_cases ci : (i : Int) < (l1.length : Int)
    · obtain ⟨ad, A1', c1', e_, hx0, hx1, hl, hC⟩ := at_T79 (Kd.C_below HR1.out HB.out) (i : Int) (by omega) (by omega)
      cases e_
      rw [Int.toNat_natCast] at hx0 hx1
      have hC := Aside0.mk hC
      have hl := Aside0.mk hl
      have hT := rdAll_take s (sec l0 s) l1 i (by omega)
      have hT := Aside0.mk hT
      have hF : (rd_T79 l1 (i : Int)).f1.length = 64 := HP.out _ (by unfold rd_T79; rw [Int.toNat_natCast, List.getD_eq_getElem?_getD, List.getElem?_eq_getElem (by omega)]; exact List.getElem_mem _)
      rw [hF] at hx1
      have hF := Aside0.mk hF
      generalize hp : rd_T79 l1 (i : Int) = p at *
      clear hp
      by_cases cf : p.f0 = s
      · have cb : (p.f0 == s) = true := beq_iff_eq.2 cf
        have cf := Aside0.mk cf
        go_wp2_with fail
        go_roundg (l1.length - (i + 1))
        case measure => have := HI.out; omega
        case rel => exact ⟨i + 1, c1', A1', by first | rfl | simp, rfl, ⟨by have := hl.out; have := hF.out; omega, by omega, rfl⟩, ⟨by rw [hT.out, if_pos cf.out]; have h := hC.out; rw [hF.out] at h; exact Kd.C_alloc h _⟩, ⟨by obtain ⟨Z, h1, h2⟩ := HZ.out; exact ⟨Z, h1, blk_alloc h2 _⟩⟩, ⟨below_alloc HB.out _⟩⟩
      · have cb : (p.f0 == s) = false := beq_eq_false_iff_ne.2 cf
        have cf := Aside0.mk cf
        go_wp2_with fail
        go_roundg (l1.length - (i + 1))
        case measure => have := HI.out; omega
        case rel => exact ⟨i + 1, _, B, by first | rfl | simp, rfl, ⟨by have := HI.out; omega, by omega, rfl⟩, ⟨by rw [hT.out, if_neg cf.out]; exact Kd.C_alloc HC.out _⟩, ⟨by obtain ⟨Z, h1, h2⟩ := HZ.out; exact ⟨Z, h1, blk_alloc h2 _⟩⟩, ⟨below_alloc HB.out _⟩⟩
    · obtain ⟨ad, rfl, hcs⟩ := C_cells HC.out (by omega)
      have hcs := Aside0.mk hcs
      have har : ∀ W, (Instr.arrayAt 84 (.slice (some ad) 64 cb)).run Try.prog W = .ok (.pointer (some ad)) W := fun W => arr_at _ 5 64 _ _ _ (by kernel_rfl) (by omega) W
      have hN : (rdAll s (sec l0 s) (l1.take i)).length = 64 := HC.out.1
      have hld : (Instr.loadAt 84 (.pointer (some ad))).run Try.prog wr = .ok (.agg ((rdAll s (sec l0 s) (l1.take i)).map (Value.int .u8)).toArray) wr := load_arr wr ad _ _ 64 5 hcs.out (by kernel_rfl) (by rw [List.length_map, hN]; kernel_rfl)
      obtain ⟨Z, hz, hZ⟩ := HZ.out
      have hst := store_arr (P := Try.prog) wr (w.heap.size + 1) 84 84 Z ((rdAll s (sec l0 s) (l1.take i)).map (Value.int .u8)).toArray hZ (by rw [List.size_toArray, List.length_map, hN]; kernel_rfl) (by rw [hz, List.size_toArray, List.length_map, hN]) (by simp [Value.oneCell'])
      have hZ := Aside0.mk hZ
      have hz := Aside0.mk hz
      have hN := Aside0.mk hN
      have hld := Aside0.mk hld
      have hst := Aside0.mk hst
      clear HZ
      go_wp2_with (first | ((with_reducible refine gate_dst (N := 32) rfl ?_); refine Kd.event_run rfl (exec_load _ _ rfl rfl hld.out) ?_) | ((with_reducible refine gate_store (t := 84) (p := 4) rfl ?_); refine store_event rfl rfl rfl (exec_store _ _ _ rfl rfl rfl hst.out) ?_; intro w2 hw2; have hw2 := Aside0.mk hw2))
      have hi : l1.take i = l1 := List.take_of_length_le (by omega)
      refine bodyPost_ret (results_cell_row rfl _ _ (w.heap.size + 1) 84 ((rdAll s (sec l0 s) (l1.take i)).map (Value.int .u8)).toArray (0, 0) _ rfl (setRow_heap _ _ _ _ _ _ hZ.out) Try.underlying84 rfl (by rw [List.size_toArray, List.length_map, hN.out]; kernel_rfl)) rfl ⟨by rw [hi]; rfl, below_row HB.out (by omega) _⟩

/-! ### impl_super: a text by hand -/
-- import Derived.StillTailTactics
-- import Derived.Deep.RegionLaw
def impl_super.gT3 : Bool × List (List Nat × List Nat) := (true, [([], []), ([0], [0]), ([1], [1]), ([2, 1], [2]), ([3], [3]), ([4, 3], [3, 4]), ([5, 3], [3, 5]), ([3], [3]), ([6, 7, 3], [3, 6, 7]), ([3, 8], [3, 8]), ([9, 3], [9]), ([10], [10]), ([11, 10, 10], [10, 11]), ([10], [10]), ([12, 13, 10], [10, 12, 13]), ([10, 14], [10, 14])])
def impl_super.gB3 : List Nat := [0, 1, 3, 7, 15, 31, 63, 15, 255, 511, 1023, 2047, 4095, 2047, 16383, 32767]
theorem impl_super.gtab3 : rtab .any (opsOf Try.f63 3) = impl_super.gT3 := by kernel_rfl
theorem impl_super.gbits3 : waitsOk impl_super.gT3.2 impl_super.gB3 = true := by kernel_rfl
def supR (t cs : List Int) (g a f j : Int) : Bool × Int × Int × Int := if gS g a f = true ∧ Int.tmod g 2 = j ∧ cs = t then (true, g, a, f) else (false, 0, 0, 0)
def SupCut (w : World) (t : List Int) (g5 g4 : Nat) (g a f : Int) (v6 : Value) (wc : World) : Prop := ∃ g6, v6 = .pointer (some ⟨g6, 0, none⟩) ∧ wc.heap[g6]? = some (.cells #[.int .i64 g, .int .i64 a, .int .i64 f] 40 (0, 0)) ∧ wc.heap[g5]? = some (.cells (t.map (Value.int .u8)).toArray 84 (0, 0)) ∧ wc.heap[g4]? = some (.cells #[.bool false, .int .i64 0, .int .i64 0, .int .i64 0] 42 (0, 0)) ∧ Below w.heap.size w wc
theorem supA {w w2 : World} {t : List Int} {g5 g4 : Nat} {g a f : Int} (h5 : w2.heap[g5]? = some (.cells (t.map (Value.int .u8)).toArray 84 (0, 0))) (h4 : w2.heap[g4]? = some (.cells #[.bool false, .int .i64 0, .int .i64 0, .int .i64 0] 42 (0, 0))) (hB : Below w.heap.size w w2) :
    SupCut w t g5 g4 g a f (.pointer (some ⟨w2.heap.size, 0, none⟩)) (w2.alloc (.cells #[.int .i64 g, .int .i64 a, .int .i64 f] 40)) :=
  ⟨_, rfl, blk_new _ _, blk_alloc h5 _, blk_alloc h4 _, below_alloc hB _⟩
theorem blk_other {w : World} {g1 g2 : Nat} {cs1 cs2 : Array Value} {t1 t2 : TypeId} (h1 : w.heap[g1]? = some (.cells cs1 t1 (0, 0))) (h2 : w.heap[g2]? = some (.cells cs2 t2 (0, 0))) (ht : t1 ≠ t2) : g1 ≠ g2 := by
  intro he
  subst he
  rw [h1] at h2
  injection h2 with h2
  injection h2 with _ h2 _
  exact ht h2
theorem supB {w w2 : World} {t : List Int} {g5 g4 g6 : Nat} {g a f : Int} (h5 : w2.heap[g5]? = some (.cells (t.map (Value.int .u8)).toArray 84 (0, 0))) (h4 : w2.heap[g4]? = some (.cells #[.bool false, .int .i64 0, .int .i64 0, .int .i64 0] 42 (0, 0)))
    (h6 : w2.heap[g6]? = some (.cells #[.int .i64 0, .int .i64 0, .int .i64 0] 40 (0, 0))) (hl : w.heap.size ≤ g6) (hB : Below w.heap.size w w2) :
    SupCut w t g5 g4 g a f (.pointer (some ⟨g6, 0, none⟩)) (((w2.setCell ⟨g6, 0, none⟩ (.int .i64 g)).setCell ⟨g6, 1, none⟩ (.int .i64 a)).setCell ⟨g6, 2, none⟩ (.int .i64 f)) := by
  have n5 := blk_other h5 h6 (by decide)
  have n4 := blk_other h4 h6 (by decide)
  have far : ∀ (q : Nat) (o : Obj), w2.heap[q]? = some o → q ≠ g6 → (((w2.setCell ⟨g6, 0, none⟩ (.int .i64 g)).setCell ⟨g6, 1, none⟩ (.int .i64 a)).setCell ⟨g6, 2, none⟩ (.int .i64 f)).heap[q]? = some o := fun q o hq hne =>
    (Below.heap_setCell _ _ _ _ hne).trans ((Below.heap_setCell _ _ _ _ hne).trans ((Below.heap_setCell _ _ _ _ hne).trans hq))
  exact ⟨g6, rfl, blk_put (blk_put (blk_put h6 0 (.int .i64 g) rfl) 1 (.int .i64 a) rfl) 2 (.int .i64 f) rfl, far g5 _ h5 n5, far _ _ h4 n4, below_set (below_set (below_set hB hl) hl) hl⟩
set_option maxHeartbeats 4000000 in
set_option maxRecDepth 100000 in
theorem impl_super (k kc : Nat) (A0 : Option Addr) (c0 : Nat) (l0 : List Int) (A1 : Option Addr) (c1 : Nat) (l1 : List S79) (a2 : Int) (a3 : Bool) (j : Int) (g a f : Int) (cs t : List Int) (w : World) (hr0 : Kd.C (Kd.int .u8) w A0 l0.length l0) (hc0 : l0.length ≤ c0) (hr1 : Kd.C k79 w A1 l1.length l1) (hc1 : l1.length ≤ c1)
    (h0 : 0 ≤ j) (h1 : j * 64 + 64 ≤ l0.length) (h2 : l0.length ≤ 65599) (h3 : l1.length ≤ 2000) (h4 : ∀ x ∈ l1, x.f1.length = 64) (ht : t = dRd l0 l1 j) (ha : a = wrap64 (rd t 6)) (hg : impl_get.f k t 0 4 = some g) (hf : impl_get.f k t 8 4 = some f) (hcs : gS g a f = true → Int.tmod g 2 = j → cSuper kc g a f = some cs) :
    Calls Try.prog 63 #[.agg #[.slice A0 l0.length c0, .slice A1 l1.length c1, .int .i64 a2, .bool a3], .int .i64 j] w fun e w' => e = .returned (.agg #[.bool (supR t cs g a f j).1, .int .i64 (supR t cs g a f j).2.1, .int .i64 (supR t cs g a f j).2.2.1, .int .i64 (supR t cs g a f j).2.2.2]) ∧ Below w.heap.size w w' := by
  have HTL := Aside0.mk (show t.length = 64 by rw [ht]; exact dRd_len l0 l1 j h0 h1 h2 h4)
  have hu25 := Try.underlying25
  have hu42 := Try.underlying42
  have hu40 := Try.underlying40
  have HR0 := Aside0.mk hr0
  have HR1 := Aside0.mk hr1
  have HC0 := Aside0.mk hc0
  have HC1 := Aside0.mk hc1
  have HG := Aside0.mk hg
  have HF := Aside0.mk hf
  have HCS := Aside0.mk hcs
  have HT := Aside0.mk ht
  have HA := Aside0.mk ha
  have HIN := Aside0.mk (And.intro h0 (And.intro h1 (And.intro h2 (And.intro h3 h4))))
  clear hr0 hr1 hc0 hc1 hg hf hcs ht ha h0 h1 h2 h3 h4
  have HB := Aside0.mk (Below.refl w.heap.size w)
  go_enter Try.func63, Try.ntmps63
  go_wp2_with fail
  have hca := below_alloc (below_alloc (Below.refl w.heap.size w) (.cells #[.slice A0 l0.length c0, .slice A1 l1.length c1, .int .i64 a2, .bool a3] 25)) (.cells #[.bool false, .int .i64 0, .int .i64 0, .int .i64 0] 42)
  refine (impl_Disk_read.calls A0 c0 l0 A1 c1 l1 a2 a3 j _ (Kd.C_below HR0.out hca) HC0.out (Kd.C_below HR1.out hca) HC1.out HIN.out.1 HIN.out.2.1 HIN.out.2.2.1 HIN.out.2.2.2.1 HIN.out.2.2.2.2).mono ?_
  rintro e w1 ⟨rfl, gb⟩
  rw [← HT.out]
  have K4 := Aside0.mk (blk_below (blk_new (w.alloc (.cells #[.slice A0 l0.length c0, .slice A1 l1.length c1, .int .i64 a2, .bool a3] 25)) (.cells #[.bool false, .int .i64 0, .int .i64 0, .int .i64 0] 42)) gb)
  simp only [World.size_alloc] at K4
  replace HB := Aside0.mk (below_step (below_alloc (below_alloc HB.out (.cells #[.slice A0 l0.length c0, .slice A1 l1.length c1, .int .i64 a2, .bool a3] 25)) (.cells #[.bool false, .int .i64 0, .int .i64 0, .int .i64 0] 42)) gb)
  clear gb hca HR0 HR1 HC0 HC1 HT HIN
  have yz : (w1.alloc (.cells (Array.replicate 64 (.int .u8 0)) 84)).heap[w1.heap.size]? = some (.cells (Array.replicate 64 (.int .u8 0)) 84 (0, 0)) := blk_new _ _
  have hst := Aside0.mk (store_arr (P := Try.prog) (w1.alloc (.cells (Array.replicate 64 (.int .u8 0)) 84)) w1.heap.size 84 84 _ (t.map (Value.int .u8)).toArray yz (by rw [List.size_toArray, List.length_map, HTL.out]; kernel_rfl) (by simp [HTL.out]) (by simp [Value.oneCell']))
  have YZ := Aside0.mk yz
  clear yz
  go_wp2_with (first | ((with_reducible refine gate_store (t := 84) (p := 5) rfl ?_); refine store_event rfl rfl rfl (exec_store _ _ _ rfl rfl rfl hst.out) ?_; intro w4 hw4; have HW4 := Aside0.mk hw4; clear hw4))
  have hl3 := HB.out.size
  have hk4 := blk_lt K4.out
  have K5 := Aside0.mk (show w4.heap[w1.heap.size]? = some (.cells (t.map (Value.int .u8)).toArray 84 (0, 0)) by rw [HW4.out]; exact setRow_heap _ _ _ _ _ _ YZ.out)
  replace K4 := Aside0.mk (show w4.heap[w.heap.size + 1]? = some (.cells #[.bool false, .int .i64 0, .int .i64 0, .int .i64 0] 42 (0, 0)) by rw [HW4.out]; exact (setRow_other _ _ _ _ (by omega)).trans (blk_alloc K4.out _))
  replace HB := Aside0.mk (show Below w.heap.size w w4 by rw [HW4.out]; exact below_setRow (g := w1.heap.size) (below_alloc HB.out _) hl3 _)
  have H54 := Aside0.mk (show w.heap.size + 1 < w1.heap.size from hk4)
  clear hst YZ HW4 hl3 hk4
  generalize w1.heap.size = g5 at *
  have hget : ∀ (p r : Int), impl_get.f k t p 4 = some r → ∀ X : World, X.heap[g5]? = some (.cells (t.map (Value.int .u8)).toArray 84 (0, 0)) → Calls Try.prog 71 #[.slice (some ⟨g5, 0, none⟩) 64 64, .int .i64 p, .int .i64 4] X fun e w' => e = .returned (.int .i64 r) ∧ Drawn0 X w' := fun p r hp X hX => by
    have hC : Kd.C (Kd.int .u8) X (some ⟨g5, 0, none⟩) t.length t := C_of_cells (by rw [HTL.out]; omega) _ (fun j x hj => by rw [add_plain]; exact (blk_cell hX j).trans (by simp [hj]))
    have := impl_get.calls k (some ⟨g5, 0, none⟩) 64 t p 4 r X hC (by rw [HTL.out]; exact Nat.le_refl _) hp
    rw [HTL.out] at this
    exact this
  have HGET0 := Aside0.mk (hget 0 g HG.out)
  have HGET8 := Aside0.mk (hget 8 f HF.out)
  clear hget
  have h6 : t[6]? = some (rd t 6) := by
    rw [List.getElem?_eq_getElem (by rw [HTL.out]; omega)]
    simp [rd, List.getD_eq_getElem?_getD, List.getElem?_eq_getElem (show 6 < t.length by rw [HTL.out]; omega)]
  have s6 : w4.cell? ⟨g5, 6, none⟩ = some (.int .u8 (rd t 6)) := (blk_cell K5.out 6).trans (by simp [h6])
  have HT6 := Aside0.mk (show (t.map (Value.int .u8)).toArray[6]? = some (.int .u8 (rd t 6)) by simp [h6])
  have s6b : (w4.alloc (.cells #[.int .i64 0, .int .i64 0, .int .i64 0] 40)).cell? ⟨g5, 6, none⟩ = some (.int .u8 (rd t 6)) := (blk_cell (blk_alloc K5.out _) 6).trans HT6.out
  clear h6
  go_cut [6] (fun v6 wc => SupCut w t g5 (w.heap.size + 1) g (IntKind.i64.wrap (rd t 6)) f v6 wc)
  case first =>
    go_region_law (go_simp; go_at_call 71; first
      | (with_reducible refine (HGET0.out _ ?hX0).mono ?_; (case hX0 => (with_reducible repeat (first | refine blk_drewN ?_ _ | refine blk_drew ?_ | refine blk_alloc ?_ _)); exact K5.out); rintro e w2 ⟨rfl, hd⟩; have hb := hd.below; clear hd; have K5 := Aside0.mk (blk_below (g := g5) (o := .cells (t.map (Value.int .u8)).toArray 84 (0, 0)) (by (with_reducible repeat (first | refine blk_drewN ?_ _ | refine blk_drew ?_ | refine blk_alloc ?_ _)); exact K5.out) hb); have K4 := Aside0.mk (blk_below (g := w.heap.size + 1) (o := .cells #[.bool false, .int .i64 0, .int .i64 0, .int .i64 0] 42 (0, 0)) (by (with_reducible repeat (first | refine blk_drewN ?_ _ | refine blk_drew ?_ | refine blk_alloc ?_ _)); exact K4.out) hb); (first | (have K6 := Aside0.mk (blk_below K6.out hb)) | (have K6 := Aside0.mk (blk_below (blk_new _ (.cells #[.int .i64 0, .int .i64 0, .int .i64 0] 40)) hb); have L6 := Aside0.mk HB.out.size) | (have K6 := Aside0.mk (blk_below (blk_drew (blk_new _ (.cells #[.int .i64 0, .int .i64 0, .int .i64 0] 40))) hb); have L6 := Aside0.mk HB.out.size) | skip); have HB := Aside0.mk (below_step (by repeat (first | (with_reducible first | exact HB.out | apply below_alloc | apply pw_below_drewN | apply below_drew1) | exact HB.out)) hb); (try have z0 : w2.cell? ⟨_, 0, none⟩ = some (.int .i64 0) := (blk_cell K6.out 0).trans rfl); (try have z1 : w2.cell? ⟨_, 1, none⟩ = some (.int .i64 0) := (blk_cell K6.out 1).trans rfl); (try have z2 : w2.cell? ⟨_, 2, none⟩ = some (.int .i64 0) := (blk_cell K6.out 2).trans rfl); (try have y0 := blk_frozen K6.out 0); (try have y1 := blk_frozen K6.out 1); (try have y2 := blk_frozen K6.out 2); have s6 : w2.cell? ⟨g5, 6, none⟩ = some (.int .u8 (rd t 6)) := (blk_cell K5.out 6).trans HT6.out; have s6a : (w2.alloc (.cells #[.int .i64 0, .int .i64 0, .int .i64 0] 40)).cell? ⟨g5, 6, none⟩ = some (.int .u8 (rd t 6)) := (blk_cell (blk_alloc K5.out _) 6).trans HT6.out; clear hb)
      | (with_reducible refine (HGET8.out _ ?hX8).mono ?_; (case hX8 => (with_reducible repeat (first | refine blk_drewN ?_ _ | refine blk_drew ?_ | refine blk_alloc ?_ _)); exact K5.out); rintro e w2 ⟨rfl, hd⟩; have hb := hd.below; clear hd; have K5 := Aside0.mk (blk_below (g := g5) (o := .cells (t.map (Value.int .u8)).toArray 84 (0, 0)) (by (with_reducible repeat (first | refine blk_drewN ?_ _ | refine blk_drew ?_ | refine blk_alloc ?_ _)); exact K5.out) hb); have K4 := Aside0.mk (blk_below (g := w.heap.size + 1) (o := .cells #[.bool false, .int .i64 0, .int .i64 0, .int .i64 0] 42 (0, 0)) (by (with_reducible repeat (first | refine blk_drewN ?_ _ | refine blk_drew ?_ | refine blk_alloc ?_ _)); exact K4.out) hb); (first | (have K6 := Aside0.mk (blk_below K6.out hb)) | (have K6 := Aside0.mk (blk_below (blk_new _ (.cells #[.int .i64 0, .int .i64 0, .int .i64 0] 40)) hb); have L6 := Aside0.mk HB.out.size) | (have K6 := Aside0.mk (blk_below (blk_drew (blk_new _ (.cells #[.int .i64 0, .int .i64 0, .int .i64 0] 40))) hb); have L6 := Aside0.mk HB.out.size) | skip); have HB := Aside0.mk (below_step (by repeat (first | (with_reducible first | exact HB.out | apply below_alloc | apply pw_below_drewN | apply below_drew1) | exact HB.out)) hb); (try have z0 : w2.cell? ⟨_, 0, none⟩ = some (.int .i64 0) := (blk_cell K6.out 0).trans rfl); (try have z1 : w2.cell? ⟨_, 1, none⟩ = some (.int .i64 0) := (blk_cell K6.out 1).trans rfl); (try have z2 : w2.cell? ⟨_, 2, none⟩ = some (.int .i64 0) := (blk_cell K6.out 2).trans rfl); (try have y0 := blk_frozen K6.out 0); (try have y1 := blk_frozen K6.out 1); (try have y2 := blk_frozen K6.out 2); have s6 : w2.cell? ⟨g5, 6, none⟩ = some (.int .u8 (rd t 6)) := (blk_cell K5.out 6).trans HT6.out; have s6a : (w2.alloc (.cells #[.int .i64 0, .int .i64 0, .int .i64 0] 40)).cell? ⟨g5, 6, none⟩ = some (.int .u8 (rd t 6)) := (blk_cell (blk_alloc K5.out _) 6).trans HT6.out; clear hb))
    all_goals
      go_wp2_with fail
      go_meet
      with_reducible first | exact supA K5.out K4.out HB.out | exact supB K5.out K4.out K6.out L6.out HB.out
  case rest =>
    obtain ⟨g6, rfl, K6, K5, K4, HB⟩ := hcut
    rw [i64_w, ← HA.out] at K6
    clear s6 s6b HT6 HGET0 HGET8 H54 HG HF
    have hld : ∀ X : World, X.heap[g5]? = some (.cells (t.map (Value.int .u8)).toArray 84 (0, 0)) → (Instr.loadAt 84 (.pointer (some ⟨g5, 0, none⟩))).run Try.prog X = .ok (.agg (t.map (Value.int .u8)).toArray) X := fun X hX =>
      load_arr X ⟨g5, 0, none⟩ 84 (t.map (Value.int .u8)) 64 5 (fun j v hj => by rw [add_plain]; exact (blk_cell hX j).trans (by simpa using hj)) (by kernel_rfl) (by rw [List.length_map, HTL.out]; kernel_rfl)
    have HLD := Aside0.mk hld
    clear hld
    replace K6 := Aside0.mk K6
    replace K5 := Aside0.mk K5
    replace K4 := Aside0.mk K4
    replace HB := Aside0.mk HB
    have x0 : wc.cell? ⟨g6, 0, none⟩ = some (.int .i64 g) := (blk_cell K6.out 0).trans rfl
    have x1 : wc.cell? ⟨g6, 1, none⟩ = some (.int .i64 a) := (blk_cell K6.out 1).trans rfl
    have x2 : wc.cell? ⟨g6, 2, none⟩ = some (.int .i64 f) := (blk_cell K6.out 2).trans rfl
    have hqg : Try.prog.eqGuardType Try.prog.depth 84 = false := by kernel_rfl
    by_cases cg : gS g a f = true
    · by_cases cj : Int.tmod g 2 = j
      · have cj1 : ((Int.tmod g 2) != j) = false := bne_eq_false_iff_eq.mpr cj
        go_wp2_with fail
        refine start_ (n := 16) (S := fun w' => w'.cell? ⟨g6, 0, none⟩ = some (.int .i64 g) ∧ w'.cell? ⟨g6, 1, none⟩ = some (.int .i64 a) ∧ w'.cell? ⟨g6, 2, none⟩ = some (.int .i64 f) ∧ w'.heap[g5]? = some (.cells (t.map (Value.int .u8)).toArray 84 (0, 0))) (ds := []) #[false, false, false, false, false, false, false, false, false, false, false, false, false, false, false, false] (by kernel_rfl) rfl rfl ⟨x0, x1, x2, K5.out⟩ (fun hHeld => ?_); refine with_tabW impl_super.gtab3 impl_super.gbits3 (fun HT_ HW_ => ?_)
        replace K6 := Aside0.mk (blk_drew K6.out)
        replace K5 := Aside0.mk (blk_drew K5.out)
        replace K4 := Aside0.mk (blk_drew K4.out)
        replace HB := Aside0.mk (below_drew1 HB.out)
        clear x0 x1 x2
        generalize wc.drew = w1 at K6 K5 K4 HB hHeld ⊢
        refine take_ (i := 0) (N := some 18) (v := ?_) (a' := ?_) #[true, false, false, false, false, false, false, false, false, false, false, false, false, false, false, false] rfl rfl (take_ofW HT_.out HW_.out (by kernel_rfl)) (fun _ _ _ h => h) (Or.inl ⟨by rfl, ?_⟩) hHeld ?_ ?_
        rotate_left
        · rintro w' ⟨s0, s1, s2, s3⟩
          go_simp
          with_reducible rfl
        rotate_left
        · simp only [Act.put, List.setIfInBounds_toArray, List.set_cons_zero, List.set_cons_succ, i64_w, i32_w]
          rfl
        refine one_ (i := 1) (N := some 19) #[true, true, false, false, false, false, false, false, false, false, false, false, false, false, false, false] rfl rfl (one_of HT_.out (by kernel_rfl)) (by decide) (fun K hK => ?_)
        refine goes_ Try.func80 (by kernel_rfl) rfl #[.agg #[.int .i64 g, .int .i64 a, .int .i64 f]] (by rfl) rfl rfl (by (try simp only [List.map_toArray, List.map_cons, List.map_nil]); first | done | rfl) ?_
        with_reducible refine (impl_Super_good.calls g a f true _ (by rw [good_eq, cg])).mono ?_
        rintro e w2 ⟨rfl, hb⟩
        refine ⟨_, rfl, ?_⟩
        replace K6 := Aside0.mk (blk_below K6.out hb)
        replace K5 := Aside0.mk (blk_below K5.out hb)
        replace K4 := Aside0.mk (blk_below K4.out hb)
        replace HB := Aside0.mk (below_step HB.out hb)
        clear hb
        refine hK.out _ _ ⟨(blk_cell K6.out 0).trans rfl, (blk_cell K6.out 1).trans rfl, (blk_cell K6.out 2).trans rfl, K5.out⟩ (fun hHeld => ?_)
        clear hK K
        refine norm_ (a' := ?_) ?_ ?_
        rotate_left
        · show Act.put _ (some 19) _ = _
          simp only [Act.put, List.setIfInBounds_toArray, List.set_cons_zero, List.set_cons_succ, i64_w, i32_w]
          rfl
        refine pure_ (i := 2) (N := some 20) (v := ?_) (a' := ?_) #[true, true, true, false, false, false, false, false, false, false, false, false, false, false, false, false] rfl rfl (any_of HT_.out (by kernel_rfl)) (fun _ _ _ h => h) (Or.inl ⟨by rfl, ?_⟩) ?_ ?_
        rotate_left
        · intro w'
          go_simp
          with_reducible rfl
        rotate_left
        · simp only [Act.put, List.setIfInBounds_toArray, List.set_cons_zero, List.set_cons_succ, i64_w, i32_w]
          rfl
        refine pure_ (i := 3) (N := some 21) (v := ?_) (a' := ?_) #[true, true, true, true, false, false, false, false, false, false, false, false, false, false, false, false] rfl rfl (any_of HT_.out (by kernel_rfl)) (fun _ _ _ h => h) (Or.inl ⟨by rfl, ?_⟩) ?_ ?_
        rotate_left
        · intro w'
          go_simp
          with_reducible rfl
        rotate_left
        · simp only [Act.put, List.setIfInBounds_toArray, List.set_cons_zero, List.set_cons_succ, i64_w, i32_w]
          rfl
        refine pure_ (i := 4) (N := some 22) (v := ?_) (a' := ?_) #[true, true, true, true, true, false, false, false, false, false, false, false, false, false, false, false] rfl rfl (any_of HT_.out (by kernel_rfl)) (fun _ _ _ h => h) (Or.inl ⟨by rfl, ?_⟩) ?_ ?_
        rotate_left
        · intro w'
          go_simp
          with_reducible rfl
        rotate_left
        · simp only [Act.put, List.setIfInBounds_toArray, List.set_cons_zero, List.set_cons_succ, i64_w, i32_w]
          rfl
        refine take_ (i := 5) (N := some 23) (v := ?_) (a' := ?_) #[true, true, true, true, true, true, false, false, false, false, false, false, false, false, false, false] rfl rfl (take_ofW HT_.out HW_.out (by kernel_rfl)) (fun _ _ _ h => h) (Or.inl ⟨by rfl, ?_⟩) hHeld ?_ ?_
        rotate_left
        · rintro w' ⟨s0, s1, s2, s3⟩
          go_simp
          with_reducible rfl
        rotate_left
        · simp only [Act.put, List.setIfInBounds_toArray, List.set_cons_zero, List.set_cons_succ, i64_w, i32_w]
          rfl
        refine pure_ (i := 6) (N := some 24) (v := ?_) (a' := ?_) #[true, true, true, true, true, true, true, false, false, false, false, false, false, false, false, false] rfl rfl (any_of HT_.out (by kernel_rfl)) (fun _ _ _ h => h) (Or.inl ⟨by rfl, ?_⟩) ?_ ?_
        rotate_left
        · intro w'
          go_simp
          with_reducible rfl
        rotate_left
        · simp only [Act.put, List.setIfInBounds_toArray, List.set_cons_zero, List.set_cons_succ, i64_w, i32_w]
          rfl
        refine pure_ (i := 7) (N := some 25) (v := ?_) (a' := ?_) #[true, true, true, true, true, true, true, true, false, false, false, false, false, false, false, false] rfl rfl (any_of HT_.out (by kernel_rfl)) (fun _ _ _ h => h) (Or.inl ⟨by rfl, ?_⟩) ?_ ?_
        rotate_left
        · intro w'
          go_simp
          with_reducible rfl
        rotate_left
        · simp only [Act.put, List.setIfInBounds_toArray, List.set_cons_zero, List.set_cons_succ, i64_w, i32_w]
          rfl
        refine pure_ (i := 8) (N := some 26) (v := ?_) (a' := ?_) #[true, true, true, true, true, true, true, true, true, false, false, false, false, false, false, false] rfl rfl (any_of HT_.out (by kernel_rfl)) (fun _ _ _ h => h) (Or.inl ⟨by rfl, ?_⟩) ?_ ?_
        rotate_left
        · intro w'
          go_simp
          with_reducible rfl
        rotate_left
        · simp only [Act.put, List.setIfInBounds_toArray, List.set_cons_zero, List.set_cons_succ, i64_w, i32_w]
          rfl
        refine pure_ (i := 9) (N := some 27) (v := ?_) (a' := ?_) #[true, true, true, true, true, true, true, true, true, true, false, false, false, false, false, false] rfl rfl (any_of HT_.out (by kernel_rfl)) (fun _ _ _ h => h) (Or.inl ⟨by rfl, ?_⟩) ?_ ?_
        rotate_left
        · intro w'
          go_simp
          with_reducible rfl
        rotate_left
        · simp only [Act.put, List.setIfInBounds_toArray, List.set_cons_zero, List.set_cons_succ, i64_w, i32_w]
          rfl
        refine pure_ (i := 10) (N := some 28) (v := ?_) (a' := ?_) #[true, true, true, true, true, true, true, true, true, true, true, false, false, false, false, false] rfl rfl (any_of HT_.out (by kernel_rfl)) (fun _ _ _ h => h) (Or.inl ⟨by rfl, ?_⟩) ?_ ?_
        rotate_left
        · intro w'
          go_simp
          with_reducible rfl
        rotate_left
        · simp only [Act.put, List.setIfInBounds_toArray, List.set_cons_zero, List.set_cons_succ, i64_w, i32_w]
          rfl
        refine take_ (i := 11) (N := some 29) (v := ?_) (a' := ?_) #[true, true, true, true, true, true, true, true, true, true, true, true, false, false, false, false] rfl rfl (take_ofW HT_.out HW_.out (by kernel_rfl)) (fun _ _ _ h => h) (Or.inl ⟨by rfl, ?_⟩) hHeld ?_ ?_
        rotate_left
        · rintro w' ⟨s0, s1, s2, s3⟩
          go_simp
          with_reducible rfl
        rotate_left
        · simp only [Act.put, List.setIfInBounds_toArray, List.set_cons_zero, List.set_cons_succ, i64_w, i32_w]
          rfl
        refine take_ (i := 13) (N := some 31) (v := ?_) (a' := ?_) #[true, true, true, true, true, true, true, true, true, true, true, true, false, true, false, false] rfl rfl (take_ofW HT_.out HW_.out (by kernel_rfl)) (fun _ _ _ h => h) (Or.inl ⟨by rfl, ?_⟩) hHeld ?_ ?_
        rotate_left
        · rintro w' ⟨s0, s1, s2, s3⟩
          refine exec_load (p := .pointer (some ⟨g5, 0, none⟩)) (v := .agg (t.map (Value.int .u8)).toArray) 84 (.tmp 5) ?_ ?_ (HLD.out w' s3)
          · rfl
          · rfl
        rotate_left
        · simp only [Act.put, List.setIfInBounds_toArray, List.set_cons_zero, List.set_cons_succ, i64_w, i32_w]
          rfl
        refine one_ (i := 12) (N := some 30) #[true, true, true, true, true, true, true, true, true, true, true, true, true, true, false, false] rfl rfl (one_of HT_.out (by kernel_rfl)) (by decide) (fun K hK => ?_)
        refine goes_ Try.func81 (by kernel_rfl) rfl #[.agg #[.int .i64 g, .int .i64 a, .int .i64 f]] (by rfl) rfl rfl (by (try simp only [List.map_toArray, List.map_cons, List.map_nil]); first | done | rfl) ?_
        with_reducible refine (impl_code_arr kc g a f cs _ (HCS.out cg cj) (fun l c hl h => crc_bd kc l c (by omega) h)).mono ?_
        rintro e w3 ⟨rfl, hcl, hb⟩
        have HCL := Aside0.mk hcl
        clear hcl
        refine ⟨_, rfl, ?_⟩
        replace K6 := Aside0.mk (blk_below K6.out hb)
        replace K5 := Aside0.mk (blk_below K5.out hb)
        replace K4 := Aside0.mk (blk_below K4.out hb)
        replace HB := Aside0.mk (below_step HB.out hb)
        clear hb
        have hneq : ∀ w' : World, (binOp .neq 84 (.agg (cs.map (Value.int .u8)).toArray) (.agg (t.map (Value.int .u8)).toArray)).run Try.prog w' = .ok (.bool (cs != t)) w' := fun w' => run_neq_sector cs t HCL.out HTL.out w'
        refine hK.out _ _ ⟨(blk_cell K6.out 0).trans rfl, (blk_cell K6.out 1).trans rfl, (blk_cell K6.out 2).trans rfl, K5.out⟩ (fun hHeld => ?_)
        clear hK K
        refine norm_ (a' := ?_) ?_ ?_
        rotate_left
        · show Act.put _ (some 30) _ = _
          simp only [Act.put, List.setIfInBounds_toArray, List.set_cons_zero, List.set_cons_succ, i64_w, i32_w]
          rfl
        refine pure_ (i := 14) (N := some 32) (v := ?_) (a' := ?_) #[true, true, true, true, true, true, true, true, true, true, true, true, true, true, true, false] rfl rfl (any_of HT_.out (by kernel_rfl)) (fun _ _ _ h => h) (Or.inl ⟨by rfl, ?_⟩) ?_ ?_
        rotate_left
        · intro w'
          go_simp
          with_reducible rfl
        rotate_left
        · simp only [Act.put, List.setIfInBounds_toArray, List.set_cons_zero, List.set_cons_succ, i64_w, i32_w]
          rfl
        refine pure_ (i := 15) (N := some 33) (v := ?_) (a' := ?_) #[true, true, true, true, true, true, true, true, true, true, true, true, true, true, true, true] rfl rfl (any_of HT_.out (by kernel_rfl)) (fun _ _ _ h => h) (Or.inl ⟨by rfl, ?_⟩) ?_ ?_
        rotate_left
        · intro w'
          go_simp
          with_reducible rfl
        rotate_left
        · simp only [Act.put, List.setIfInBounds_toArray, List.set_cons_zero, List.set_cons_succ, i64_w, i32_w]
          rfl
        refine done_ (done_of HT_.out (by kernel_rfl)) ?_
        have y0 := blk_frozen K4.out 0
        have y1 := blk_frozen K4.out 1
        have y2 := blk_frozen K4.out 2
        have y3 := blk_frozen K4.out 3
        have z0 : w3.cell? ⟨w.heap.size + 1, 0, none⟩ = some (.bool false) := (blk_cell K4.out 0).trans rfl
        have z1 : w3.cell? ⟨w.heap.size + 1, 1, none⟩ = some (.int .i64 0) := (blk_cell K4.out 1).trans rfl
        have z2 : w3.cell? ⟨w.heap.size + 1, 2, none⟩ = some (.int .i64 0) := (blk_cell K4.out 2).trans rfl
        have z3 : w3.cell? ⟨w.heap.size + 1, 3, none⟩ = some (.int .i64 0) := (blk_cell K4.out 3).trans rfl
        have x0 : w3.cell? ⟨g6, 0, none⟩ = some (.int .i64 g) := (blk_cell K6.out 0).trans rfl
        have x1 : w3.cell? ⟨g6, 1, none⟩ = some (.int .i64 a) := (blk_cell K6.out 1).trans rfl
        have x2 : w3.cell? ⟨g6, 2, none⟩ = some (.int .i64 f) := (blk_cell K6.out 2).trans rfl
        by_cases cc : cs = t
        · have cb : (cs != t) = false := bne_eq_false_iff_eq.mpr cc
          rw [cb]
          go_wp2_with fail
          refine bodyPost_ret (results_cell_row rfl _ _ (w.heap.size + 1) 42 #[.bool true, .int .i64 g, .int .i64 a, .int .i64 f] (0, 0) _ rfl (blk_put (cs := #[.bool true, .int .i64 g, .int .i64 a, .int .i64 0]) (blk_put (cs := #[.bool true, .int .i64 g, .int .i64 0, .int .i64 0]) (blk_put (cs := #[.bool true, .int .i64 0, .int .i64 0, .int .i64 0]) (blk_put (cs := #[.bool false, .int .i64 0, .int .i64 0, .int .i64 0]) K4.out 0 _ rfl) 1 _ rfl) 2 _ rfl) 3 _ rfl) hu42 rfl (by kernel_rfl)) rfl ?_
          exact ⟨by rw [supR, if_pos ⟨cg, cj, cc⟩], below_set (below_set (below_set (below_set HB.out (Nat.le_succ _)) (Nat.le_succ _)) (Nat.le_succ _)) (Nat.le_succ _)⟩
        · have cb : (cs != t) = true := bne_iff_ne.mpr cc
          rw [cb]
          go_wp2_with fail
          refine bodyPost_ret (results_cell_row rfl _ _ (w.heap.size + 1) 42 #[.bool false, .int .i64 0, .int .i64 0, .int .i64 0] (0, 0) _ rfl (blk_put (cs := #[.bool false, .int .i64 0, .int .i64 0, .int .i64 0]) (blk_put (cs := #[.bool false, .int .i64 0, .int .i64 0, .int .i64 0]) (blk_put (cs := #[.bool false, .int .i64 0, .int .i64 0, .int .i64 0]) (blk_put (cs := #[.bool false, .int .i64 0, .int .i64 0, .int .i64 0]) K4.out 0 _ rfl) 1 _ rfl) 2 _ rfl) 3 _ rfl) hu42 rfl (by kernel_rfl)) rfl ?_
          exact ⟨by rw [supR, if_neg (fun h => cc h.2.2)], below_set (below_set (below_set (below_set HB.out (Nat.le_succ _)) (Nat.le_succ _)) (Nat.le_succ _)) (Nat.le_succ _)⟩
      · have cj1 : ((Int.tmod g 2) != j) = true := bne_iff_ne.mpr cj
        go_wp2_with fail
        go_region_law (go_simp; go_at_call 80; refine (impl_Super_good.calls g a f true _ (by rw [good_eq, cg])).mono ?_; rintro e w2 ⟨rfl, hb⟩; have K4 := Aside0.mk (blk_below (g := w.heap.size + 1) (o := .cells #[.bool false, .int .i64 0, .int .i64 0, .int .i64 0] 42 (0, 0)) (by (with_reducible repeat (first | refine blk_drewN ?_ _ | refine blk_drew ?_ | refine blk_alloc ?_ _)); exact K4.out) hb); have K6 := Aside0.mk (blk_below (g := g6) (o := .cells #[.int .i64 g, .int .i64 a, .int .i64 f] 40 (0, 0)) (by (with_reducible repeat (first | refine blk_drewN ?_ _ | refine blk_drew ?_ | refine blk_alloc ?_ _)); exact K6.out) hb); have HB := Aside0.mk (below_step (by repeat (first | (with_reducible first | exact HB.out | apply below_alloc | apply pw_below_drewN | apply below_drew1) | exact HB.out)) hb); have x0 : w2.cell? ⟨g6, 0, none⟩ = some (.int .i64 g) := (blk_cell K6.out 0).trans rfl; have y0 := blk_frozen K4.out 0; have y1 := blk_frozen K4.out 1; have y2 := blk_frozen K4.out 2; have y3 := blk_frozen K4.out 3; have z0 : w2.cell? ⟨w.heap.size + 1, 0, none⟩ = some (.bool false) := (blk_cell K4.out 0).trans rfl; have z1 : w2.cell? ⟨w.heap.size + 1, 1, none⟩ = some (.int .i64 0) := (blk_cell K4.out 1).trans rfl; have z2 : w2.cell? ⟨w.heap.size + 1, 2, none⟩ = some (.int .i64 0) := (blk_cell K4.out 2).trans rfl; have z3 : w2.cell? ⟨w.heap.size + 1, 3, none⟩ = some (.int .i64 0) := (blk_cell K4.out 3).trans rfl; clear hb)
        all_goals
          go_wp2_with fail
          refine bodyPost_ret (results_cell_row rfl _ _ (w.heap.size + 1) 42 #[.bool false, .int .i64 0, .int .i64 0, .int .i64 0] (0, 0) _ rfl (blk_put (cs := #[.bool false, .int .i64 0, .int .i64 0, .int .i64 0]) (blk_put (cs := #[.bool false, .int .i64 0, .int .i64 0, .int .i64 0]) (blk_put (cs := #[.bool false, .int .i64 0, .int .i64 0, .int .i64 0]) (blk_put (cs := #[.bool false, .int .i64 0, .int .i64 0, .int .i64 0]) K4.out 0 _ rfl) 1 _ rfl) 2 _ rfl) 3 _ rfl) hu42 rfl (by kernel_rfl)) rfl ?_
          exact ⟨by rw [supR, if_neg (fun h => cj h.2.1)], below_set (below_set (below_set (below_set HB.out (Nat.le_succ _)) (Nat.le_succ _)) (Nat.le_succ _)) (Nat.le_succ _)⟩
    · have cg1 : gS g a f = false := by simpa using cg
      go_wp2_with fail
      refine start_ (n := 16) (S := fun w' => w'.cell? ⟨g6, 0, none⟩ = some (.int .i64 g) ∧ w'.cell? ⟨g6, 1, none⟩ = some (.int .i64 a) ∧ w'.cell? ⟨g6, 2, none⟩ = some (.int .i64 f) ∧ w'.heap[g5]? = some (.cells (t.map (Value.int .u8)).toArray 84 (0, 0))) (ds := []) #[false, false, false, false, false, false, false, false, false, false, false, false, false, false, false, false] (by kernel_rfl) rfl rfl ⟨x0, x1, x2, K5.out⟩ (fun hHeld => ?_); refine with_tabW impl_super.gtab3 impl_super.gbits3 (fun HT_ HW_ => ?_)
      replace K6 := Aside0.mk (blk_drew K6.out)
      replace K5 := Aside0.mk (blk_drew K5.out)
      replace K4 := Aside0.mk (blk_drew K4.out)
      replace HB := Aside0.mk (below_drew1 HB.out)
      clear x0 x1 x2
      generalize wc.drew = w1 at K6 K5 K4 HB hHeld ⊢
      refine take_ (i := 0) (N := some 18) (v := ?_) (a' := ?_) #[true, false, false, false, false, false, false, false, false, false, false, false, false, false, false, false] rfl rfl (take_ofW HT_.out HW_.out (by kernel_rfl)) (fun _ _ _ h => h) (Or.inl ⟨by rfl, ?_⟩) hHeld ?_ ?_
      rotate_left
      · rintro w' ⟨s0, s1, s2, s3⟩
        go_simp
        with_reducible rfl
      rotate_left
      · simp only [Act.put, List.setIfInBounds_toArray, List.set_cons_zero, List.set_cons_succ, i64_w, i32_w]
        rfl
      refine one_ (i := 1) (N := some 19) #[true, true, false, false, false, false, false, false, false, false, false, false, false, false, false, false] rfl rfl (one_of HT_.out (by kernel_rfl)) (by decide) (fun K hK => ?_)
      refine goes_ Try.func80 (by kernel_rfl) rfl #[.agg #[.int .i64 g, .int .i64 a, .int .i64 f]] (by rfl) rfl rfl (by (try simp only [List.map_toArray, List.map_cons, List.map_nil]); first | done | rfl) ?_
      with_reducible refine (impl_Super_good.calls g a f false _ (by rw [good_eq, cg1])).mono ?_
      rintro e w2 ⟨rfl, hb⟩
      refine ⟨_, rfl, ?_⟩
      replace K6 := Aside0.mk (blk_below K6.out hb)
      replace K5 := Aside0.mk (blk_below K5.out hb)
      replace K4 := Aside0.mk (blk_below K4.out hb)
      replace HB := Aside0.mk (below_step HB.out hb)
      clear hb
      refine hK.out _ _ ⟨(blk_cell K6.out 0).trans rfl, (blk_cell K6.out 1).trans rfl, (blk_cell K6.out 2).trans rfl, K5.out⟩ (fun hHeld => ?_)
      clear hK K
      refine norm_ (a' := ?_) ?_ ?_
      rotate_left
      · show Act.put _ (some 19) _ = _
        simp only [Act.put, List.setIfInBounds_toArray, List.set_cons_zero, List.set_cons_succ, i64_w, i32_w]
        rfl
      refine pure_ (i := 2) (N := some 20) (v := ?_) (a' := ?_) #[true, true, true, false, false, false, false, false, false, false, false, false, false, false, false, false] rfl rfl (any_of HT_.out (by kernel_rfl)) (fun _ _ _ h => h) (Or.inl ⟨by rfl, ?_⟩) ?_ ?_
      rotate_left
      · intro w'
        go_simp
        with_reducible rfl
      rotate_left
      · simp only [Act.put, List.setIfInBounds_toArray, List.set_cons_zero, List.set_cons_succ, i64_w, i32_w]
        rfl
      refine pure_ (i := 3) (N := some 21) (v := ?_) (a' := ?_) #[true, true, true, true, false, false, false, false, false, false, false, false, false, false, false, false] rfl rfl (any_of HT_.out (by kernel_rfl)) (fun _ _ _ h => h) (Or.inl ⟨by rfl, ?_⟩) ?_ ?_
      rotate_left
      · intro w'
        go_simp
        with_reducible rfl
      rotate_left
      · simp only [Act.put, List.setIfInBounds_toArray, List.set_cons_zero, List.set_cons_succ, i64_w, i32_w]
        rfl
      refine pure_ (i := 4) (N := some 22) (v := undef) (a' := ?_) #[true, true, true, true, true, false, false, false, false, false, false, false, false, false, false, false] rfl rfl (any_of HT_.out (by kernel_rfl)) (fun _ _ _ h => h) (Or.inr ⟨by rfl, rfl⟩) ?_ ?_
      rotate_left
      · simp only [Act.put, List.setIfInBounds_toArray, List.set_cons_zero, List.set_cons_succ, i64_w, i32_w]
        rfl
      refine pure_ (i := 5) (N := some 23) (v := undef) (a' := ?_) #[true, true, true, true, true, true, false, false, false, false, false, false, false, false, false, false] rfl rfl (any_of HT_.out (by kernel_rfl)) (fun _ _ _ h => h) (Or.inr ⟨by rfl, rfl⟩) ?_ ?_
      rotate_left
      · simp only [Act.put, List.setIfInBounds_toArray, List.set_cons_zero, List.set_cons_succ, i64_w, i32_w]
        rfl
      refine pure_ (i := 6) (N := some 24) (v := undef) (a' := ?_) #[true, true, true, true, true, true, true, false, false, false, false, false, false, false, false, false] rfl rfl (any_of HT_.out (by kernel_rfl)) (fun _ _ _ h => h) (Or.inr ⟨by rfl, rfl⟩) ?_ ?_
      rotate_left
      · simp only [Act.put, List.setIfInBounds_toArray, List.set_cons_zero, List.set_cons_succ, i64_w, i32_w]
        rfl
      refine pure_ (i := 7) (N := some 25) (v := undef) (a' := ?_) #[true, true, true, true, true, true, true, true, false, false, false, false, false, false, false, false] rfl rfl (any_of HT_.out (by kernel_rfl)) (fun _ _ _ h => h) (Or.inr ⟨by rfl, rfl⟩) ?_ ?_
      rotate_left
      · simp only [Act.put, List.setIfInBounds_toArray, List.set_cons_zero, List.set_cons_succ, i64_w, i32_w]
        rfl
      refine pure_ (i := 8) (N := some 26) (v := undef) (a' := ?_) #[true, true, true, true, true, true, true, true, true, false, false, false, false, false, false, false] rfl rfl (any_of HT_.out (by kernel_rfl)) (fun _ _ _ h => h) (Or.inr ⟨by rfl, rfl⟩) ?_ ?_
      rotate_left
      · simp only [Act.put, List.setIfInBounds_toArray, List.set_cons_zero, List.set_cons_succ, i64_w, i32_w]
        rfl
      refine pure_ (i := 9) (N := some 27) (v := ?_) (a' := ?_) #[true, true, true, true, true, true, true, true, true, true, false, false, false, false, false, false] rfl rfl (any_of HT_.out (by kernel_rfl)) (fun _ _ _ h => h) (Or.inl ⟨by rfl, ?_⟩) ?_ ?_
      rotate_left
      · intro w'
        go_simp
        with_reducible rfl
      rotate_left
      · simp only [Act.put, List.setIfInBounds_toArray, List.set_cons_zero, List.set_cons_succ, i64_w, i32_w]
        rfl
      refine pure_ (i := 10) (N := some 28) (v := ?_) (a' := ?_) #[true, true, true, true, true, true, true, true, true, true, true, false, false, false, false, false] rfl rfl (any_of HT_.out (by kernel_rfl)) (fun _ _ _ h => h) (Or.inl ⟨by rfl, ?_⟩) ?_ ?_
      rotate_left
      · intro w'
        go_simp
        with_reducible rfl
      rotate_left
      · simp only [Act.put, List.setIfInBounds_toArray, List.set_cons_zero, List.set_cons_succ, i64_w, i32_w]
        rfl
      refine pure_ (i := 11) (N := some 29) (v := undef) (a' := ?_) #[true, true, true, true, true, true, true, true, true, true, true, true, false, false, false, false] rfl rfl (any_of HT_.out (by kernel_rfl)) (fun _ _ _ h => h) (Or.inr ⟨by rfl, rfl⟩) ?_ ?_
      rotate_left
      · simp only [Act.put, List.setIfInBounds_toArray, List.set_cons_zero, List.set_cons_succ, i64_w, i32_w]
        rfl
      refine pure_ (i := 12) (N := some 30) (v := undef) (a' := ?_) #[true, true, true, true, true, true, true, true, true, true, true, true, true, false, false, false] rfl rfl (any_of HT_.out (by kernel_rfl)) (fun _ _ _ h => h) (Or.inr ⟨by rfl, rfl⟩) ?_ ?_
      rotate_left
      · simp only [Act.put, List.setIfInBounds_toArray, List.set_cons_zero, List.set_cons_succ, i64_w, i32_w]
        rfl
      refine pure_ (i := 13) (N := some 31) (v := undef) (a' := ?_) #[true, true, true, true, true, true, true, true, true, true, true, true, true, true, false, false] rfl rfl (any_of HT_.out (by kernel_rfl)) (fun _ _ _ h => h) (Or.inr ⟨by rfl, rfl⟩) ?_ ?_
      rotate_left
      · simp only [Act.put, List.setIfInBounds_toArray, List.set_cons_zero, List.set_cons_succ, i64_w, i32_w]
        rfl
      refine pure_ (i := 14) (N := some 32) (v := undef) (a' := ?_) #[true, true, true, true, true, true, true, true, true, true, true, true, true, true, true, false] rfl rfl (any_of HT_.out (by kernel_rfl)) (fun _ _ _ h => h) (Or.inr ⟨by rfl, rfl⟩) ?_ ?_
      rotate_left
      · simp only [Act.put, List.setIfInBounds_toArray, List.set_cons_zero, List.set_cons_succ, i64_w, i32_w]
        rfl
      refine pure_ (i := 15) (N := some 33) (v := ?_) (a' := ?_) #[true, true, true, true, true, true, true, true, true, true, true, true, true, true, true, true] rfl rfl (any_of HT_.out (by kernel_rfl)) (fun _ _ _ h => h) (Or.inl ⟨by rfl, ?_⟩) ?_ ?_
      rotate_left
      · intro w'
        go_simp
        with_reducible rfl
      rotate_left
      · simp only [Act.put, List.setIfInBounds_toArray, List.set_cons_zero, List.set_cons_succ, i64_w, i32_w]
        rfl
      refine done_ (done_of HT_.out (by kernel_rfl)) ?_
      have y0 := blk_frozen K4.out 0
      have y1 := blk_frozen K4.out 1
      have y2 := blk_frozen K4.out 2
      have y3 := blk_frozen K4.out 3
      have z0 : w2.cell? ⟨w.heap.size + 1, 0, none⟩ = some (.bool false) := (blk_cell K4.out 0).trans rfl
      have z1 : w2.cell? ⟨w.heap.size + 1, 1, none⟩ = some (.int .i64 0) := (blk_cell K4.out 1).trans rfl
      have z2 : w2.cell? ⟨w.heap.size + 1, 2, none⟩ = some (.int .i64 0) := (blk_cell K4.out 2).trans rfl
      have z3 : w2.cell? ⟨w.heap.size + 1, 3, none⟩ = some (.int .i64 0) := (blk_cell K4.out 3).trans rfl
      all_goals
          go_wp2_with fail
          refine bodyPost_ret (results_cell_row rfl _ _ (w.heap.size + 1) 42 #[.bool false, .int .i64 0, .int .i64 0, .int .i64 0] (0, 0) _ rfl (blk_put (cs := #[.bool false, .int .i64 0, .int .i64 0, .int .i64 0]) (blk_put (cs := #[.bool false, .int .i64 0, .int .i64 0, .int .i64 0]) (blk_put (cs := #[.bool false, .int .i64 0, .int .i64 0, .int .i64 0]) (blk_put (cs := #[.bool false, .int .i64 0, .int .i64 0, .int .i64 0]) K4.out 0 _ rfl) 1 _ rfl) 2 _ rfl) 3 _ rfl) hu42 rfl (by kernel_rfl)) rfl ?_
          exact ⟨by rw [supR, if_neg (fun h => cg h.1)], below_set (below_set (below_set (below_set HB.out (Nat.le_succ _)) (Nat.le_succ _)) (Nat.le_succ _)) (Nat.le_succ _)⟩

/-! ### yL_sup: a text by hand -/
theorem Ev.uniq {α : Type} {g : Nat → Option α} {a b : α} (h1 : Ev g a) (h2 : Ev g b) : a = b := by
  obtain ⟨K1, h1⟩ := h1
  obtain ⟨K2, h2⟩ := h2
  exact Option.some.inj ((h1 (max K1 K2) (Nat.le_max_left _ _)).symm.trans (h2 (max K1 K2) (Nat.le_max_right _ _)))
def byteL (l : List Int) : Prop := ∀ y ∈ l, 0 ≤ y ∧ y < 256
theorem rdAll_bytes (s : Int) (l : List S79) (h : ∀ p ∈ l, byteL p.f1) : ∀ b : List Int, byteL b → byteL (rdAll s b l) := by
  induction l with
  | nil => intro b hb; exact hb
  | cons x xs ih =>
    intro b hb
    refine ih (fun y hy => h y (List.mem_cons_of_mem _ hy)) _ ?_
    show byteL (if x.f0 = s then x.f1 else b)
    split
    · exact h x List.mem_cons_self
    · exact hb
theorem dRd_bytes (l0 : List Int) (l1 : List S79) (s : Int) (h0 : byteL l0) (h : ∀ p ∈ l1, byteL p.f1) : byteL (dRd l0 l1 s) :=
  rdAll_bytes s l1 h _ (fun y hy => h0 y (List.mem_of_mem_take (List.mem_of_mem_drop hy)))
theorem sget_step (k : Nat) (l : List Int) (x b : Int) (i : Nat) (hi : i < l.length) (hl : l.length < 1000) (hb : rd l (i : Int) = b) (h0 : 0 ≤ x) (h1 : x < 72057594037927936 / 4) (h2 : 0 ≤ b) (h3 : b < 256) :
    spec_l2Get.l0 (k + 1) l x (i : Int) = spec_l2Get.l0 k l (256 * x + b) ((i : Int) - 1) := by
  rw [spec_l2Get.l0, if_pos (by omega), if_pos (by omega), if_pos (by omega), hb]
  rw [show wrap64 (wrap64 (256 * x) + wrap64 b) = 256 * x + b by unfold wrap64; omega, show wrap64 ((i : Int) - 1) = (i : Int) - 1 by unfold wrap64; omega]
theorem sget_end (k : Nat) (l : List Int) (x : Int) : spec_l2Get.l0 (k + 1) l x (-1) = some x := by
  rw [spec_l2Get.l0, if_neg (by omega)]
theorem sget4_ev (b0 b1 b2 b3 : Int) (h : byteL [b0, b1, b2, b3]) : Ev (fun k => spec_l2Get.f k [b0, b1, b2, b3]) (b0 + 256 * b1 + 65536 * b2 + 16777216 * b3) := by
  have h0 := h b0 (by simp)
  have h1 := h b1 (by simp)
  have h2 := h b2 (by simp)
  have h3 := h b3 (by simp)
  refine Ev.of (fun k => spec_l2Get.mono _ k) (k := 5) ?_
  unfold spec_l2Get.f
  rw [show wrap64 ((([b0, b1, b2, b3] : List Int).length : Int) - 1) = ((3 : Nat) : Int) by simp [wrap64]]
  rw [sget_step 4 _ 0 b3 3 (by simp) (by simp) rfl (by omega) (by omega) h3.1 h3.2, show ((3 : Nat) : Int) - 1 = ((2 : Nat) : Int) by omega, sget_step 3 _ _ b2 2 (by simp) (by simp) rfl (by omega) (by omega) h2.1 h2.2, show ((2 : Nat) : Int) - 1 = ((1 : Nat) : Int) by omega, sget_step 2 _ _ b1 1 (by simp) (by simp) rfl (by omega) (by omega) h1.1 h1.2, show ((1 : Nat) : Int) - 1 = ((0 : Nat) : Int) by omega, sget_step 1 _ _ b0 0 (by simp) (by simp) rfl (by omega) (by omega) h0.1 h0.2, show ((0 : Nat) : Int) - 1 = -1 by omega, sget_end]
  congr 1
  omega
theorem sget4 (b0 b1 b2 b3 : Int) (h : byteL [b0, b1, b2, b3]) (k : Nat) (g : Int) (hk : spec_l2Get.f k [b0, b1, b2, b3] = some g) : g = b0 + 256 * b1 + 65536 * b2 + 16777216 * b3 :=
  Ev.uniq (Ev.of (fun k => spec_l2Get.mono _ k) hk) (sget4_ev b0 b1 b2 b3 h)
theorem or_byte (x b : Int) (h0 : 0 ≤ x) (h1 : x < 4294967296) (h2 : 0 ≤ b) (h3 : b < 256) : Go.bits .or .i64 (wrap64 (x * 256)) (wrap64 b) = wrap64 (256 * x + b) := by
  rw [show wrap64 (x * 256) = x * 256 by unfold wrap64; omega, show wrap64 b = b by unfold wrap64; omega, show wrap64 (256 * x + b) = x * 256 + b by unfold wrap64; omega]
  exact bits_join .i64 63 (by decide) (fun n h0 h1 => by rw [IntKind.wrap_i64]; omega) 8 (x * 256) b (by omega) (by omega) (by omega) h2 (by omega) (by omega)
theorem iget_step (k : Nat) (l : List Int) (p x b : Int) (i : Nat) (hp : 0 ≤ p) (hi : p + i < l.length) (hl : l.length < 1000) (hb : rd l (p + i) = b) (h0 : 0 ≤ x) (h1 : x < 4294967296) (h2 : 0 ≤ b) (h3 : b < 256) :
    impl_get.l0 (k + 1) l p x (i : Int) = impl_get.l0 k l p (256 * x + b) ((i : Int) - 1) := by
  rw [impl_get.l0, if_pos (by omega), show wrap64 (p + (i : Int)) = p + i by unfold wrap64; omega, if_pos (by omega), if_pos (by omega), hb, or_byte x b h0 h1 h2 h3]
  rw [show wrap64 (256 * x + b) = 256 * x + b by unfold wrap64; omega, show wrap64 ((i : Int) - 1) = (i : Int) - 1 by unfold wrap64; omega]
theorem iget4 (l : List Int) (p b0 b1 b2 b3 : Int) (hp : 0 ≤ p) (hpl : p + 4 ≤ l.length) (hl : l.length < 1000) (e0 : rd l p = b0) (e1 : rd l (p + 1) = b1) (e2 : rd l (p + 2) = b2) (e3 : rd l (p + 3) = b3) (h : byteL [b0, b1, b2, b3]) : impl_get.f 5 l p 4 = some (b0 + 256 * b1 + 65536 * b2 + 16777216 * b3) := by
  have h0 := h b0 (by simp)
  have h1 := h b1 (by simp)
  have h2 := h b2 (by simp)
  have h3 := h b3 (by simp)
  unfold impl_get.f
  rw [show wrap64 ((4 : Int) - 1) = ((3 : Nat) : Int) by simp [wrap64]]
  rw [iget_step 4 l p 0 b3 3 hp (by omega) hl e3 (by omega) (by omega) h3.1 h3.2, show ((3 : Nat) : Int) - 1 = ((2 : Nat) : Int) by omega, iget_step 3 l p _ b2 2 hp (by omega) hl e2 (by omega) (by omega) h2.1 h2.2, show ((2 : Nat) : Int) - 1 = ((1 : Nat) : Int) by omega, iget_step 2 l p _ b1 1 hp (by omega) hl e1 (by omega) (by omega) h1.1 h1.2, show ((1 : Nat) : Int) - 1 = ((0 : Nat) : Int) by omega, iget_step 1 l p _ b0 0 hp (by omega) hl (by simpa using e0) (by omega) (by omega) h0.1 h0.2, show ((0 : Nat) : Int) - 1 = -1 by omega, impl_get.l0, if_neg (by omega)]
  congr 1
  omega
theorem rd_nat (t : List Int) (i : Nat) (hi : i < t.length) : rd t (i : Int) = t[i] := by
  simp [rd, List.getD_eq_getElem?_getD, List.getElem?_eq_getElem hi]
theorem four (t : List Int) (p : Nat) (hp : p + 4 ≤ t.length) : (t.take (p + 4)).drop p = [rd t p, rd t (p + 1), rd t (p + 2), rd t (p + 3)] := by
  have e1 : rd t (p : Int) = t[p] := rd_nat t p (by omega)
  have e2 : rd t ((p : Int) + 1) = t[p + 1] := rd_nat t (p + 1) (by omega)
  have e3 : rd t ((p : Int) + 2) = t[p + 2] := rd_nat t (p + 2) (by omega)
  have e4 : rd t ((p : Int) + 3) = t[p + 3] := rd_nat t (p + 3) (by omega)
  rw [e1, e2, e3, e4]
  refine List.ext_getElem (by simp; omega) (fun i h1 h2 => ?_)
  have hi : i < 4 := by simpa using h2
  rw [List.getElem_drop, List.getElem_take]
  match i, hi with
  | 0, _ => rfl
  | 1, _ => rfl
  | 2, _ => rfl
  | 3, _ => rfl
theorem four_bytes (t : List Int) (hb : byteL t) (hl : t.length = 64) (p : Nat) (hp : p + 4 ≤ 64) : byteL [rd t p, rd t (p + 1), rd t (p + 2), rd t (p + 3)] := by
  have hbr : ∀ i : Nat, i < 64 → 0 ≤ rd t (i : Int) ∧ rd t (i : Int) < 256 := fun i hi => by rw [rd_nat t i (by omega)]; exact hb _ (List.getElem_mem _)
  intro y hy
  have h1 := hbr p (by omega)
  have h2 := hbr (p + 1) (by omega)
  have h3 := hbr (p + 2) (by omega)
  have h4 := hbr (p + 3) (by omega)
  simp only [List.mem_cons, List.mem_nil_iff, or_false] at hy
  rcases hy with rfl | rfl | rfl | rfl
  · exact h1
  · exact h2
  · exact h3
  · exact h4
theorem get_ev (t : List Int) (hb : byteL t) (hl : t.length = 64) (p : Nat) (hp : p + 4 ≤ 64) : ∃ g, Ev (fun k => spec_l2Get.f k ((t.take (p + 4)).drop p)) g := by
  rw [four t p (by omega)]
  exact ⟨_, sget4_ev _ _ _ _ (four_bytes t hb hl p hp)⟩
theorem get_both (t : List Int) (hb : byteL t) (hl : t.length = 64) (p : Nat) (hp : p + 4 ≤ 64) (k : Nat) (g : Int) (h : spec_l2Get.f k ((t.take (p + 4)).drop p) = some g) : impl_get.f 5 t p 4 = some g ∧ 0 ≤ g ∧ g < 4294967296 := by
  have hbr : ∀ i : Nat, i < 64 → 0 ≤ rd t (i : Int) ∧ rd t (i : Int) < 256 := fun i hi => by rw [rd_nat t i (by omega)]; exact hb _ (List.getElem_mem _)
  have hby : byteL [rd t p, rd t (p + 1), rd t (p + 2), rd t (p + 3)] := by
    intro y hy
    have h1 := hbr p (by omega)
    have h2 := hbr (p + 1) (by omega)
    have h3 := hbr (p + 2) (by omega)
    have h4 := hbr (p + 3) (by omega)
    simp only [List.mem_cons, List.mem_nil_iff, or_false] at hy
    rcases hy with rfl | rfl | rfl | rfl
    · exact h1
    · exact h2
    · exact h3
    · exact h4
  rw [four t p (by omega)] at h
  have e := sget4 _ _ _ _ hby k g h
  have h1 := hby _ (List.mem_cons_self)
  have h2 := hby (rd t (p + 1)) (by simp)
  have h3 := hby (rd t (p + 2)) (by simp)
  have h4 := hby (rd t (p + 3)) (by simp)
  refine ⟨?_, by omega, by omega⟩
  rw [e]
  exact iget4 t p _ _ _ _ (by omega) (by omega) (by omega) rfl rfl rfl rfl hby
theorem super_bytes (k : Nat) (a0 a1 a2 : Int) (t : List Int) (h0 : 0 ≤ a0) (h0' : a0 < 4294967296) (h2 : 0 ≤ a2) (h2' : a2 < 4294967296) (h : spec_l2SuperBytes.f k a0 a1 a2 = some t) : byteL t := by
  unfold spec_l2SuperBytes.f at h
  obtain ⟨x0, e0, h⟩ := Option.bind_eq_some_iff.1 h
  obtain ⟨x1, e1, h⟩ := Option.bind_eq_some_iff.1 h
  obtain ⟨x2, e2, h⟩ := Option.bind_eq_some_iff.1 h
  obtain ⟨x3, e3, h⟩ := Option.bind_eq_some_iff.1 h
  obtain ⟨x4, e4, h⟩ := Option.bind_eq_some_iff.1 h
  obtain rfl := Option.some.inj h
  obtain rfl := spec_put4 a0 h0 h0' k x0 e0
  obtain rfl := spec_put4 a2 h2 h2' k x1 e1
  obtain rfl := zeros_eq x2 k e2
  have e3 := cat_eq _ _ k e3 (by simp)
  unfold spec_l2Seal.f at e4
  obtain ⟨cr, f0, e4⟩ := Option.bind_eq_some_iff.1 e4
  obtain ⟨x5, f1, e4⟩ := Option.bind_eq_some_iff.1 e4
  obtain ⟨x6, f2, e4⟩ := Option.bind_eq_some_iff.1 e4
  obtain rfl := Option.some.inj e4
  have hb := crc_bd k x3 cr (by rw [e3]; simp [put4]) f0
  rw [show wrap64 cr = cr from by unfold wrap64; omega] at f1
  obtain rfl := spec_put4 cr hb.1 hb.2 k x5 f1
  have f2 := cat_eq _ _ k f2 (by simp)
  have hp : ∀ x : Int, byteL (put4 x) := fun x y hy => by
    simp only [put4, List.mem_cons, List.mem_nil_iff, or_false] at hy
    rcases hy with rfl | rfl | rfl | rfl <;> omega
  intro y hy
  rw [f2] at hy
  simp only [List.flatten_cons, List.flatten_nil, List.append_nil, List.mem_append] at hy
  rcases hy with hy | hy
  · rw [e3] at hy
    simp only [List.flatten_cons, List.flatten_nil, List.append_nil, List.mem_append, List.mem_cons, List.mem_nil_iff, or_false, List.mem_replicate] at hy
    rcases hy with hy | ((rfl | rfl) | ((rfl | rfl) | (hy | ⟨_, rfl⟩)))
    · exact hp _ y hy
    · omega
    · omega
    · omega
    · omega
    · exact hp _ y hy
    · omega
  · exact hp _ y hy
theorem str_inj (xs ys : List Int) (hx : byteL xs) (hy : byteL ys) (h : (strOfNums xs).toList = (strOfNums ys).toList) : xs = ys := by
  rw [ByteArray.toList_eq, ByteArray.toList_eq] at h
  rw [strOfNums_data, strOfNums_data] at h
  induction xs generalizing ys with
  | nil => cases ys with
    | nil => rfl
    | cons y ys => simp at h
  | cons x xs ih =>
    cases ys with
    | nil => simp at h
    | cons y ys =>
      simp only [List.map_cons, List.cons.injEq] at h
      have h1 := hx x (by simp)
      have h2 := hy y (by simp)
      have e : x = y := by
        have := congrArg UInt8.toNat h.1
        simp at this
        omega
      rw [e, ih ys (fun z hz => hx z (List.mem_cons_of_mem _ hz)) (fun z hz => hy z (List.mem_cons_of_mem _ hz)) h.2]

/-! ### impl_Disk_super: function 63, proved by hand -/
/-- What is asked of a disk: sizes, and bytes that are bytes. -/
def RsOk (l0 : List Int) (l1 : List S79) : Prop := l0.length ≤ 1048576 ∧ okPendS l1 ∧ (∀ x ∈ l0, 0 ≤ x ∧ x < 256) ∧ ∀ p ∈ l1, ∀ y ∈ p.f1, 0 ≤ y ∧ y < 256
theorem impl_Disk_super.calls (k : Nat) (A0_0 : Option Addr) (c0_0 : Nat) (l0_0 : List Int) (A0_1 : Option Addr) (c0_1 : Nat) (l0_1 : List (S79)) (a0_2 : Int) (a0_3 : Bool) (a1 : Int) (r1 : Bool) (r2 : Int) (r3 : Int) (r4 : Int) (w : World) (hr0_0 : Kd.C (Kd.int .u8) w A0_0 l0_0.length l0_0) (hc0_0 : l0_0.length ≤ c0_0) (hr0_1 : Kd.C k79 w A0_1 l0_1.length l0_1) (hc0_1 : l0_1.length ≤ c0_1) (h : spec_l2SuperAt.f k l0_0 l0_1 a0_2 a0_3 a1 = some (r1, r2, r3, r4)) (hby : RsOk l0_0 l0_1) :
    Calls Try.prog 63 #[.agg #[.slice A0_0 l0_0.length c0_0, .slice A0_1 l0_1.length c0_1, .int .i64 a0_2, .bool a0_3], .int .i64 a1] w fun e w' => e = .returned (.agg #[.bool r1, .int .i64 r2, .int .i64 r3, .int .i64 r4]) ∧ Below w.heap.size w w' := by
  obtain ⟨h0, ok, b0, b1⟩ := hby
  unfold spec_l2SuperAt.f at h
  obtain ⟨t, hR, h⟩ := Option.bind_eq_some_iff.1 h
  have ht := Ev.uniq (Ev.of (fun k => spec_DiskRead.mono _ _ _ _ _ k) hR) (specRead_ev l0_0 l0_1 a0_2 a0_3 a1 h0 ok.1)
  by_cases cv : (vD l0_0 l0_1 a0_2 && inD l0_0 a1) = true
  · rw [if_pos cv] at ht
    rw [Bool.and_eq_true] at cv
    obtain ⟨f1, f2, f3, f4, f5, f6, f7⟩ := vD_facts cv.1
    have hin : 0 ≤ a1 ∧ a1 * 64 + 64 ≤ l0_0.length := by
      have := cv.2
      unfold inD at this
      simp at this
      omega
    have f8 : ∀ x ∈ l0_1, x.f1.length = 64 := fun x hx => (f7 x hx).2.2
    have hl : t.length = 64 := by rw [ht]; exact dRd_len l0_0 l0_1 a1 hin.1 hin.2 f3 f8
    have hb : byteL t := by rw [ht]; exact dRd_bytes l0_0 l0_1 a1 b0 b1
    rw [hl, if_pos (by decide)] at h
    obtain ⟨g, hG, h⟩ := Option.bind_eq_some_iff.1 h
    rw [if_pos (by decide), if_pos (by decide), if_pos (by decide)] at h
    obtain ⟨f, hF, h⟩ := Option.bind_eq_some_iff.1 h
    obtain ⟨gG, g0, g1⟩ := get_both t hb hl 0 (by omega) k g hG
    obtain ⟨gF, e0, e1⟩ := get_both t hb hl 8 (by omega) k f hF
    rw [specGood_eq, Option.bind_some] at h
    obtain ⟨a, ha⟩ : ∃ a, a = wrap64 (rd t 6) := ⟨_, rfl⟩
    rw [← ha] at h
    have hcall := fun (cs : List Int) (hcs : gS g a f = true → Int.tmod g 2 = a1 → cSuper k g a f = some cs) => impl_super 5 k A0_0 c0_0 l0_0 A0_1 c0_1 l0_1 a0_2 a0_3 a1 g a f cs t w hr0_0 hc0_0 hr0_1 hc0_1 hin.1 hin.2 f3 f4 f8 ht ha gG gF hcs
    by_cases cg : gS g a f = true
    · rw [if_pos cg] at h
      by_cases cj : Int.tmod g 2 = a1
      · rw [if_pos cj] at h
        obtain ⟨cs, hS, h⟩ := Option.bind_eq_some_iff.1 h
        have hsb := super_bytes k g a f cs g0 g1 e0 e1 hS
        refine (hcall cs (fun _ _ => super_eq k g a f cs g0 g1 e0 e1 hS)).mono ?_
        rintro e w' ⟨rfl, hB⟩
        refine ⟨?_, hB⟩
        by_cases cc : cs = t
        · rw [if_pos (by rw [cc])] at h
          simp only [Option.some.injEq, Prod.mk.injEq] at h
          obtain ⟨rfl, rfl, rfl, rfl⟩ := h
          rw [supR, if_pos ⟨cg, cj, cc⟩]
        · rw [if_neg (fun hh => cc (str_inj cs t hsb hb hh))] at h
          simp only [Option.some.injEq, Prod.mk.injEq] at h
          obtain ⟨rfl, rfl, rfl, rfl⟩ := h
          rw [supR, if_neg (fun hh => cc hh.2.2)]
      · rw [if_neg cj] at h
        simp only [Option.some.injEq, Prod.mk.injEq] at h
        obtain ⟨rfl, rfl, rfl, rfl⟩ := h
        refine (hcall [] (fun _ hh => absurd hh cj)).mono ?_
        rintro e w' ⟨rfl, hB⟩
        exact ⟨by rw [supR, if_neg (fun hh => cj hh.2.1)], hB⟩
    · rw [if_neg cg] at h
      simp only [Option.some.injEq, Prod.mk.injEq] at h
      obtain ⟨rfl, rfl, rfl, rfl⟩ := h
      refine (hcall [] (fun hh _ => absurd hh cg)).mono ?_
      rintro e w' ⟨rfl, hB⟩
      exact ⟨by rw [supR, if_neg (fun hh => cg hh.1)], hB⟩
  · rw [if_neg cv] at ht
    subst ht
    simp at h
end Go.Proofs.Yteddpdonmhiplaa.PR
