-- Made by this session's programs out of the translation and of its own texts.
import Derived.Test.YtbimdcekcemcoaaMFnExactDiskWritec
namespace Go.Proofs.Ytbimdcekcemcoaa.PD
open Go.RowKit Go.Proofs.YtbimdcekcemcoaaW.PrintWords Go.Proofs.YtbimdcekcemcoaaW.PrintLast Go.Proofs.YtbimdcekcemcoaaW.PrintMore
attribute [local go_sem] max2_int min2_int max_two min_two max_three min_three max_four min_four   -- for this text's walks alone
set_option linter.unusedVariables false
set_option linter.unusedSimpArgs false

/-! ### spec_DiskWrite: function 24 -/
def spec_DiskWrite.j0 : Nat → Int → List Int → Bool → List Int → List (S60) → Int → Bool → Option (List Int × (List (S60)) × Int × Bool)
  | 0, _, _, _, _, _, _, _ => none
  | k + 1, x1, x2, x35, x347000, x347001, x347002, x347003 => if x35 = true then ((spec_l1Copy.f k x347000 x347001 x347002 x347003).bind fun bt350 => (some (bt350.1, bt350.2.1, bt350.2.2.1, bt350.2.2.2))) else ((spec_l1Step.f k x347000 x347001 x347002 x347003).bind fun bt358 => (if bt358.2.2.2 = true then (some (bt358.1, bt358.2.1, bt358.2.2.1, bt358.2.2.2)) else ((some (([] : List Int) : List Int)).bind fun y367 => (if y367.length + x2.length < 140737488355328 then (if bt358.2.1.length < 4398046511104 then (some (bt358.1, (bt358.2.1 ++ [(⟨x1, (y367 ++ x2)⟩ : S60)]), bt358.2.2.1, bt358.2.2.2)) else (none)) else (none)))))
def spec_DiskWrite.f (k : Nat) (l0_0 : List Int) (l0_1 : List (S60)) (a0_2 : Int) (a0_3 : Bool) (a1 : Int) (l2 : List Int) : Option (List Int × (List (S60)) × Int × Bool) := (spec_ValidDisk.f k l0_0 l0_1 a0_2 a0_3).bind fun t348 => (if t348 = true then (if a0_3 = true then (spec_DiskWrite.j0 k a1 l2 true l0_0 l0_1 a0_2 a0_3) else (if a1 < 0 then (spec_DiskWrite.j0 k a1 l2 true l0_0 l0_1 a0_2 a0_3) else ((spec_l1Sectors.f l0_0 l0_1 a0_2 a0_3).bind fun t349 => (if a1 ≥ t349 then (spec_DiskWrite.j0 k a1 l2 true l0_0 l0_1 a0_2 a0_3) else (if (l2.length : Int) = 64 then (spec_DiskWrite.j0 k a1 l2 ((l0_1.length : Int) == 2000) l0_0 l0_1 a0_2 a0_3) else (spec_DiskWrite.j0 k a1 l2 true l0_0 l0_1 a0_2 a0_3)))))) else (spec_DiskWrite.j0 k a1 l2 true l0_0 l0_1 a0_2 a0_3))
theorem spec_DiskWrite.mono_l : ∀ k, (∀ y0 y1 y2 y3 y4 y5 y6, LeO (spec_DiskWrite.j0 k y0 y1 y2 y3 y4 y5 y6) (spec_DiskWrite.j0 (k + 1) y0 y1 y2 y3 y4 y5 y6))
  | 0 => fun _ _ _ _ _ _ _ r h => by simp [spec_DiskWrite.j0] at h
  | k + 1 => by
    have ih0 := spec_DiskWrite.mono_l k
    · intro y0 y1 y2 y3 y4 y5 y6
      unfold spec_DiskWrite.j0
      repeat' first
      | (with_reducible exact ih0 _ _ _ _ _ _ _)
      | (with_reducible exact spec_ValidDisk.mono _ _ _ _ _)
      | (with_reducible exact spec_l1Copy.mono _ _ _ _ _)
      | (with_reducible exact spec_l1Step.mono _ _ _ _ _)
      | (with_reducible exact LeO.refl _)
      | (with_reducible exact LeO.none _)
      | (with_reducible refine LeO.ite ?_ ?_)
      | (with_reducible refine LeO.bind ?_ (fun _ => ?_))
      | exact ih0 _ _ _ _ _ _ _
      | exact spec_ValidDisk.mono _ _ _ _ _
      | exact spec_l1Copy.mono _ _ _ _ _
      | exact spec_l1Step.mono _ _ _ _ _
      | exact LeO.none _
      | refine LeO.ite ?_ ?_
      | refine LeO.bind ?_ (fun _ => ?_)
theorem spec_DiskWrite.mono : ∀ a0 a1 a2 a3 a4 a5 k, LeO (spec_DiskWrite.f k a0 a1 a2 a3 a4 a5) (spec_DiskWrite.f (k + 1) a0 a1 a2 a3 a4 a5) := by
  intro a0 a1 a2 a3 a4 a5 k
  have ih0 := spec_DiskWrite.mono_l k
  unfold spec_DiskWrite.f
  repeat' first
      | (with_reducible exact ih0 _ _ _ _ _ _ _)
      | (with_reducible exact spec_ValidDisk.mono _ _ _ _ _)
      | (with_reducible exact spec_l1Copy.mono _ _ _ _ _)
      | (with_reducible exact spec_l1Step.mono _ _ _ _ _)
      | (with_reducible exact LeO.refl _)
      | (with_reducible exact LeO.none _)
      | (with_reducible refine LeO.ite ?_ ?_)
      | (with_reducible refine LeO.bind ?_ (fun _ => ?_))
      | exact ih0 _ _ _ _ _ _ _
      | exact spec_ValidDisk.mono _ _ _ _ _
      | exact spec_l1Copy.mono _ _ _ _ _
      | exact spec_l1Step.mono _ _ _ _ _
      | exact LeO.none _
      | refine LeO.ite ?_ ?_
      | refine LeO.bind ?_ (fun _ => ?_)
def spec_DiskWrite.T5 : Bool × List (List Nat × List Nat) := (true, [([], []), ([0], [0]), ([], []), ([], []), ([], []), ([3, 4], [3, 4]), ([2, 5], [2, 5]), ([6], [6]), ([1, 7, 5], [1, 7]), ([0, 1, 2, 3, 4, 5, 6, 7, 8], []), ([9, 8, 8, 0, 1, 2, 3, 4, 5, 6, 7, 8], [8, 9])])
def spec_DiskWrite.B5 : List Nat := [0, 1, 0, 0, 0, 24, 60, 124, 255, 511, 1023]
theorem spec_DiskWrite.tab5 : rtab .any (opsOf Try.f24 5) = spec_DiskWrite.T5 := by kernel_rfl
theorem spec_DiskWrite.bits5 : waitsOk spec_DiskWrite.T5.2 spec_DiskWrite.B5 = true := by kernel_rfl
set_option maxHeartbeats 8000000 in
set_option maxRecDepth 100000 in
theorem spec_DiskWrite.calls (k : Nat) (A0_0 : Option Addr) (c0_0 : Nat) (l0_0 : List Int) (A0_1 : Option Addr) (c0_1 : Nat) (l0_1 : List (S60)) (a0_2 : Int) (a0_3 : Bool) (a1 : Int) (A2 : Option Addr) (c2 : Nat) (l2 : List Int) (r1 : List Int) (r2 : List (S60)) (r3 : Int) (r4 : Bool) (w : World) (hr0_0 : Kd.C (Kd.int .u8) w A0_0 l0_0.length l0_0) (hc0_0 : l0_0.length ≤ c0_0) (hr0_1 : Kd.C k60 w A0_1 l0_1.length l0_1) (hc0_1 : l0_1.length ≤ c0_1) (hr2 : Kd.C (Kd.int .u8) w A2 l2.length l2) (hc2 : l2.length ≤ c2) (h : spec_DiskWrite.f k l0_0 l0_1 a0_2 a0_3 a1 l2 = some (r1, r2, r3, r4)) :
    Calls Try.prog 24 #[.agg #[.slice A0_0 l0_0.length c0_0, .slice A0_1 l0_1.length c0_1, .int .i64 a0_2, .bool a0_3], .int .i64 a1, .slice A2 l2.length c2] w fun e w' => ∃ v0_ v1_ : Value, e = .returned (.agg #[v0_, v1_, .int .i64 r3, .bool r4]) ∧ Kd.R (Kd.int .u8) 5 w' w.heap.size (fun _ => True) v0_ r1 ∧ Kd.S k60 60 w' w.heap.size (fun k_ => some k_ ≠ (v0_ : Value).ownBlock) v1_ r2 ∧ Below w.heap.size w w' := by
  have hu25 := Try.underlying25
  have hu60 := Try.underlying60
  have HR0_0 := Aside0.mk hr0_0
  have HC0_0 := Aside0.mk hc0_0
  clear hr0_0 hc0_0
  have HR0_1 := Aside0.mk hr0_1
  have HC0_1 := Aside0.mk hc0_1
  clear hr0_1 hc0_1
  have HR2 := Aside0.mk hr2
  have HC2 := Aside0.mk hc2
  clear hr2 hc2
  have HB := Aside0.mk (Below.refl w.heap.size w)
  have H : ((spec_ValidDisk.f k l0_0 l0_1 a0_2 a0_3).bind fun t348 => (if t348 = true then (if a0_3 = true then (spec_DiskWrite.j0 k a1 l2 true l0_0 l0_1 a0_2 a0_3) else (if a1 < 0 then (spec_DiskWrite.j0 k a1 l2 true l0_0 l0_1 a0_2 a0_3) else ((spec_l1Sectors.f l0_0 l0_1 a0_2 a0_3).bind fun t349 => (if a1 ≥ t349 then (spec_DiskWrite.j0 k a1 l2 true l0_0 l0_1 a0_2 a0_3) else (if (l2.length : Int) = 64 then (spec_DiskWrite.j0 k a1 l2 ((l0_1.length : Int) == 2000) l0_0 l0_1 a0_2 a0_3) else (spec_DiskWrite.j0 k a1 l2 true l0_0 l0_1 a0_2 a0_3)))))) else (spec_DiskWrite.j0 k a1 l2 true l0_0 l0_1 a0_2 a0_3))) = some (r1, r2, r3, r4) := h
  clear h
  have HC4 := Aside0.mk H
  clear H
  go_enter Try.func24, Try.ntmps24
  go_upto_region 1 with (first | ((with_reducible refine gate_dst (N := 3) rfl ?_); (try (refine gate_guard (by rfl) ?_; dsimp only)); refine box_event ?hg (N := 3) ?hd (cs := #[.slice A0_0 l0_0.length c0_0, .slice A0_1 l0_1.length c0_1, .int .i64 a0_2, .bool a0_3]) (t := 25) ?hr ?_; (case hd => rfl); (case hg => rfl); (case hr => first | (go_simp; done) | (go_simp; rfl)); intro gb346 hg w5 hbox hb; have n0_ := Aside0.mk (below_step (by repeat (first | (with_reducible first | exact HB.out | apply below_alloc | apply pw_below_drewN | apply below_drew1) | exact HB.out)) hb); have n1_ := Aside0.mk (hbox); have n2_ := Aside0.mk ((by rw [hg]; exact (below_size (by repeat (first | (with_reducible first | exact HB.out | apply below_alloc | apply pw_below_drewN | apply below_drew1) | exact HB.out))) : w.heap.size ≤ gb346)); have n3_ := Aside0.mk ((by rw [hg]; exact (below_size (by repeat (first | (with_reducible first | exact HB.out | apply below_alloc | apply pw_below_drewN | apply below_drew1) | exact HB.out))) : w.heap.size ≤ gb346)); clear HB; have HB := n0_; have BK346 := n1_; have GW346 := n2_; have GE346 := n3_; clear n0_ n1_ n2_ n3_; clear hb hbox hg) | ((with_reducible refine gate_dst (N := 6) rfl ?_); (try (refine gate_guard (by rfl) ?_; dsimp only)); refine box_event ?hg (N := 6) ?hd (cs := #[.slice none 0 0, .slice none 0 0, .int .i64 0, .bool false]) (t := 25) ?hr ?_; (case hd => rfl); (case hg => rfl); (case hr => first | (go_simp; done) | (go_simp; rfl)); intro gb347 hg w6 hbox hb; have n0_ := Aside0.mk (blk_below (g := gb346) (o := .cells #[.slice A0_0 l0_0.length c0_0, .slice A0_1 l0_1.length c0_1, .int .i64 a0_2, .bool a0_3] 25 (0, 0)) (by (with_reducible repeat (first | refine blk_drewN ?_ _ | refine blk_drew ?_ | refine blk_alloc ?_ _)); exact BK346.out) hb); have n1_ := Aside0.mk (below_step (by repeat (first | (with_reducible first | exact HB.out | apply below_alloc | apply pw_below_drewN | apply below_drew1 | refine below_set ?_ GE346.out) | exact HB.out)) hb); have n2_ := Aside0.mk (hbox); have n3_ := Aside0.mk ((by rw [hg]; exact (below_size (by repeat (first | (with_reducible first | exact HB.out | apply below_alloc | apply pw_below_drewN | apply below_drew1 | refine below_set ?_ GE346.out) | exact HB.out))) : w.heap.size ≤ gb347)); have n4_ := Aside0.mk ((by rw [hg]; exact (below_size (by repeat (first | (with_reducible first | exact HB.out | apply below_alloc | apply pw_below_drewN | apply below_drew1 | refine below_set ?_ GE346.out) | exact HB.out))) : w.heap.size ≤ gb347)); have n5_ := Aside0.mk ((by rw [hg]; exact Nat.ne_of_lt (blk_lt (g := gb346) (o := .cells #[.slice A0_0 l0_0.length c0_0, .slice A0_1 l0_1.length c0_1, .int .i64 a0_2, .bool a0_3] 25 (0, 0)) (by (with_reducible repeat (first | refine blk_drewN ?_ _ | refine blk_drew ?_ | refine blk_alloc ?_ _)); exact BK346.out)) : gb346 ≠ gb347)); have n6_ := Aside0.mk ((by rw [hg]; exact Nat.ne_of_gt (blk_lt (g := gb346) (o := .cells #[.slice A0_0 l0_0.length c0_0, .slice A0_1 l0_1.length c0_1, .int .i64 a0_2, .bool a0_3] 25 (0, 0)) (by (with_reducible repeat (first | refine blk_drewN ?_ _ | refine blk_drew ?_ | refine blk_alloc ?_ _)); exact BK346.out)) : gb347 ≠ gb346)); clear BK346; clear HB; have BK346 := n0_; have HB := n1_; have BK347 := n2_; have GW347 := n3_; have GE347 := n4_; have NB346_347 := n5_; have NB347_346 := n6_; clear n0_ n1_ n2_ n3_ n4_ n5_ n6_; clear hb hbox hg))
  (try simp only [Act.put, List.setIfInBounds_toArray, List.set_cons_zero, List.set_cons_succ])
  go_cut [35] (fun v35 wc => ∃ (kq : Nat) (x35_3 : Bool), v35 = .bool x35_3 ∧ Aside0 (spec_DiskWrite.j0 kq a1 l2 x35_3 l0_0 l0_1 a0_2 a0_3 = some (r1, r2, r3, r4)) ∧ Aside0 (kq ≤ k) ∧ Aside0 (wc.heap[gb346]? = some (.cells #[(.slice A0_0 l0_0.length c0_0), (.slice A0_1 l0_1.length c0_1), .int .i64 a0_2, .bool a0_3] 25 (0, 0))) ∧ Aside0 (wc.heap[gb347]? = some (.cells #[(.slice none 0 0), (.slice none 0 0), .int .i64 0, .bool false] 25 (0, 0))) ∧ Aside0 (Below w.heap.size w wc))
  case first =>
    have H := HC4.out
    clear HC4
    replace H := Option.bind_eq_some_iff.mp H
    obtain ⟨t348, A70, H⟩ := H
    replace H : (if t348 = true then (if a0_3 = true then (spec_DiskWrite.j0 k a1 l2 true l0_0 l0_1 a0_2 a0_3) else (if a1 < 0 then (spec_DiskWrite.j0 k a1 l2 true l0_0 l0_1 a0_2 a0_3) else ((spec_l1Sectors.f l0_0 l0_1 a0_2 a0_3).bind fun t349 => (if a1 ≥ t349 then (spec_DiskWrite.j0 k a1 l2 true l0_0 l0_1 a0_2 a0_3) else (if (l2.length : Int) = 64 then (spec_DiskWrite.j0 k a1 l2 ((l0_1.length : Int) == 2000) l0_0 l0_1 a0_2 a0_3) else (spec_DiskWrite.j0 k a1 l2 true l0_0 l0_1 a0_2 a0_3)))))) else (spec_DiskWrite.j0 k a1 l2 true l0_0 l0_1 a0_2 a0_3)) = some (r1, r2, r3, r4) := H
    have A7 := Aside0.mk A70
    clear A70
    by_cases c8 : t348 = true
    · subst c8
      have H1 : (if a0_3 = true then (spec_DiskWrite.j0 k a1 l2 true l0_0 l0_1 a0_2 a0_3) else (if a1 < 0 then (spec_DiskWrite.j0 k a1 l2 true l0_0 l0_1 a0_2 a0_3) else ((spec_l1Sectors.f l0_0 l0_1 a0_2 a0_3).bind fun t349 => (if a1 ≥ t349 then (spec_DiskWrite.j0 k a1 l2 true l0_0 l0_1 a0_2 a0_3) else (if (l2.length : Int) = 64 then (spec_DiskWrite.j0 k a1 l2 ((l0_1.length : Int) == 2000) l0_0 l0_1 a0_2 a0_3) else (spec_DiskWrite.j0 k a1 l2 true l0_0 l0_1 a0_2 a0_3)))))) = some (r1, r2, r3, r4) := by rw [if_pos rfl] at H; exact H
      clear H
      have H := H1
      clear H1
      by_cases c9 : a0_3 = true
      · subst c9
        have H1 : (spec_DiskWrite.j0 k a1 l2 true l0_0 l0_1 a0_2 true) = some (r1, r2, r3, r4) := by rw [if_pos rfl] at H; exact H
        clear H
        have H := H1
        clear H1
        have H' := Aside0.mk H
        clear H
        have hnb10 := NB346_347.out
        have hnc10 := NB347_346.out
        have hcz11_0 : w6.cell? ⟨gb346, 0, none⟩ = some (.slice A0_0 l0_0.length c0_0) := (blk_cell BK346.out 0).trans rfl
        have hcz11_1 : w6.cell? ⟨gb346, 1, none⟩ = some (.slice A0_1 l0_1.length c0_1) := (blk_cell BK346.out 1).trans rfl
        have hcz11_2 : w6.cell? ⟨gb346, 2, none⟩ = some (.int .i64 a0_2) := (blk_cell BK346.out 2).trans rfl
        have hcz11_3 : w6.cell? ⟨gb346, 3, none⟩ = some (.bool true) := (blk_cell BK346.out 3).trans rfl
        have hfz11_0 := blk_frozen BK346.out 0
        have hfz11_1 := blk_frozen BK346.out 1
        have hfz11_2 := blk_frozen BK346.out 2
        have hfz11_3 := blk_frozen BK346.out 3
        go_wp2_with (first | ((with_reducible refine gate_callee (f := 16) rfl ?_); refine goesL_ (some 9) rfl rfl Try.func16 (by kernel_rfl) rfl #[.agg #[.slice A0_0 l0_0.length c0_0, .slice A0_1 l0_1.length c0_1, .int .i64 a0_2, .bool true]] rfl (by (try simp only [List.map_toArray, List.map_cons, List.map_nil]); first | done | rfl | (simp only [List.length_drop, List.length_take]; rfl)) ?_; (with_reducible refine (spec_ValidDisk.calls k _ _ l0_0 _ _ l0_1 a0_2 true true _ ?side1 ?side2 ?side3 ?side4 A7.out).mono ?_); (case side1 => repeat (first | exact (Kd.C_below HR0_0.out HB.out) | (with_reducible refine Kd.C_alloc ?_ _) | (with_reducible refine Kd.C_drewN ?_ _) | (with_reducible refine Kd.C_drew ?_))); (case side2 => exact HC0_0.out); (case side3 => repeat (first | exact (Kd.C_below HR0_1.out HB.out) | (with_reducible refine Kd.C_alloc ?_ _) | (with_reducible refine Kd.C_drewN ?_ _) | (with_reducible refine Kd.C_drew ?_))); (case side4 => exact HC0_1.out); rintro e w12 ⟨rfl, hb⟩; refine ⟨_, rfl, ?_⟩; have n0_ := Aside0.mk (blk_below (g := gb346) (o := .cells #[.slice A0_0 l0_0.length c0_0, .slice A0_1 l0_1.length c0_1, .int .i64 a0_2, .bool true] 25 (0, 0)) (by (with_reducible repeat (first | refine blk_drewN ?_ _ | refine blk_drew ?_ | refine blk_alloc ?_ _)); exact BK346.out) hb); have n1_ := Aside0.mk (blk_below (g := gb347) (o := .cells #[.slice none 0 0, .slice none 0 0, .int .i64 0, .bool false] 25 (0, 0)) (by (with_reducible repeat (first | refine blk_drewN ?_ _ | refine blk_drew ?_ | refine blk_alloc ?_ _)); exact BK347.out) hb); have n2_ := Aside0.mk (below_step (by repeat (first | (with_reducible first | exact HB.out | apply below_alloc | apply pw_below_drewN | apply below_drew1 | refine below_set ?_ GE346.out | refine below_set ?_ GE347.out) | exact HB.out)) hb); clear BK346; clear BK347; clear HB; have BK346 := n0_; have BK347 := n1_; have HB := n2_; clear n0_ n1_ n2_; (try clear hb); (try clear hb2); (try clear hk); (try clear hi); have hcz13_0 : w12.cell? ⟨gb346, 0, none⟩ = some (.slice A0_0 l0_0.length c0_0) := (blk_cell BK346.out 0).trans rfl; have hcz13_1 : w12.cell? ⟨gb346, 1, none⟩ = some (.slice A0_1 l0_1.length c0_1) := (blk_cell BK346.out 1).trans rfl; have hcz13_2 : w12.cell? ⟨gb346, 2, none⟩ = some (.int .i64 a0_2) := (blk_cell BK346.out 2).trans rfl; have hcz13_3 : w12.cell? ⟨gb346, 3, none⟩ = some (.bool true) := (blk_cell BK346.out 3).trans rfl; have hfz13_0 := blk_frozen BK346.out 0; have hfz13_1 := blk_frozen BK346.out 1; have hfz13_2 := blk_frozen BK346.out 2; have hfz13_3 := blk_frozen BK346.out 3))
        go_meet
        case rel => exact ⟨_, (true), (by first | rfl | (simp; done) | (simp [*]; done)), H', ⟨by first | omega | exact Nat.le_refl _⟩, ⟨by (with_reducible repeat (first | refine blk_drewN ?_ _ | refine blk_drew ?_ | refine blk_alloc ?_ _)); exact BK346.out⟩, ⟨by (with_reducible repeat (first | refine blk_drewN ?_ _ | refine blk_drew ?_ | refine blk_alloc ?_ _)); exact BK347.out⟩, ⟨by repeat (first | (with_reducible first | exact HB.out | apply below_alloc | apply pw_below_drewN | apply below_drew1 | refine below_set ?_ GE346.out | refine below_set ?_ GE347.out) | exact HB.out)⟩⟩
      · replace c9 := Bool.eq_false_iff.mpr c9
        subst c9
        have H1 : (if a1 < 0 then (spec_DiskWrite.j0 k a1 l2 true l0_0 l0_1 a0_2 false) else ((spec_l1Sectors.f l0_0 l0_1 a0_2 false).bind fun t349 => (if a1 ≥ t349 then (spec_DiskWrite.j0 k a1 l2 true l0_0 l0_1 a0_2 false) else (if (l2.length : Int) = 64 then (spec_DiskWrite.j0 k a1 l2 ((l0_1.length : Int) == 2000) l0_0 l0_1 a0_2 false) else (spec_DiskWrite.j0 k a1 l2 true l0_0 l0_1 a0_2 false))))) = some (r1, r2, r3, r4) := by rw [if_neg (show ¬ (false = true) by decide)] at H; exact H
        clear H
        have H := H1
        clear H1
        by_cases c14 : a1 < 0
        · rw [if_pos c14] at H
          have c14b0 : decide (a1 < 0) = true := decide_eq_true c14
          clear c14
          (first | rw [c14b0] | (simp only [i64_w, i32_w]; rw [c14b0]) | skip)
          have H' := Aside0.mk H
          clear H
          have hnb15 := NB346_347.out
          have hnc15 := NB347_346.out
          have hcz16_0 : w6.cell? ⟨gb346, 0, none⟩ = some (.slice A0_0 l0_0.length c0_0) := (blk_cell BK346.out 0).trans rfl
          have hcz16_1 : w6.cell? ⟨gb346, 1, none⟩ = some (.slice A0_1 l0_1.length c0_1) := (blk_cell BK346.out 1).trans rfl
          have hcz16_2 : w6.cell? ⟨gb346, 2, none⟩ = some (.int .i64 a0_2) := (blk_cell BK346.out 2).trans rfl
          have hcz16_3 : w6.cell? ⟨gb346, 3, none⟩ = some (.bool false) := (blk_cell BK346.out 3).trans rfl
          have hfz16_0 := blk_frozen BK346.out 0
          have hfz16_1 := blk_frozen BK346.out 1
          have hfz16_2 := blk_frozen BK346.out 2
          have hfz16_3 := blk_frozen BK346.out 3
          go_wp2_with (first | ((with_reducible refine gate_callee (f := 16) rfl ?_); refine goesL_ (some 9) rfl rfl Try.func16 (by kernel_rfl) rfl #[.agg #[.slice A0_0 l0_0.length c0_0, .slice A0_1 l0_1.length c0_1, .int .i64 a0_2, .bool false]] rfl (by (try simp only [List.map_toArray, List.map_cons, List.map_nil]); first | done | rfl | (simp only [List.length_drop, List.length_take]; rfl)) ?_; (with_reducible refine (spec_ValidDisk.calls k _ _ l0_0 _ _ l0_1 a0_2 false true _ ?side1 ?side2 ?side3 ?side4 A7.out).mono ?_); (case side1 => repeat (first | exact (Kd.C_below HR0_0.out HB.out) | (with_reducible refine Kd.C_alloc ?_ _) | (with_reducible refine Kd.C_drewN ?_ _) | (with_reducible refine Kd.C_drew ?_))); (case side2 => exact HC0_0.out); (case side3 => repeat (first | exact (Kd.C_below HR0_1.out HB.out) | (with_reducible refine Kd.C_alloc ?_ _) | (with_reducible refine Kd.C_drewN ?_ _) | (with_reducible refine Kd.C_drew ?_))); (case side4 => exact HC0_1.out); rintro e w17 ⟨rfl, hb⟩; refine ⟨_, rfl, ?_⟩; have n0_ := Aside0.mk (blk_below (g := gb346) (o := .cells #[.slice A0_0 l0_0.length c0_0, .slice A0_1 l0_1.length c0_1, .int .i64 a0_2, .bool false] 25 (0, 0)) (by (with_reducible repeat (first | refine blk_drewN ?_ _ | refine blk_drew ?_ | refine blk_alloc ?_ _)); exact BK346.out) hb); have n1_ := Aside0.mk (blk_below (g := gb347) (o := .cells #[.slice none 0 0, .slice none 0 0, .int .i64 0, .bool false] 25 (0, 0)) (by (with_reducible repeat (first | refine blk_drewN ?_ _ | refine blk_drew ?_ | refine blk_alloc ?_ _)); exact BK347.out) hb); have n2_ := Aside0.mk (below_step (by repeat (first | (with_reducible first | exact HB.out | apply below_alloc | apply pw_below_drewN | apply below_drew1 | refine below_set ?_ GE346.out | refine below_set ?_ GE347.out) | exact HB.out)) hb); clear BK346; clear BK347; clear HB; have BK346 := n0_; have BK347 := n1_; have HB := n2_; clear n0_ n1_ n2_; (try clear hb); (try clear hb2); (try clear hk); (try clear hi); have hcz18_0 : w17.cell? ⟨gb346, 0, none⟩ = some (.slice A0_0 l0_0.length c0_0) := (blk_cell BK346.out 0).trans rfl; have hcz18_1 : w17.cell? ⟨gb346, 1, none⟩ = some (.slice A0_1 l0_1.length c0_1) := (blk_cell BK346.out 1).trans rfl; have hcz18_2 : w17.cell? ⟨gb346, 2, none⟩ = some (.int .i64 a0_2) := (blk_cell BK346.out 2).trans rfl; have hcz18_3 : w17.cell? ⟨gb346, 3, none⟩ = some (.bool false) := (blk_cell BK346.out 3).trans rfl; have hfz18_0 := blk_frozen BK346.out 0; have hfz18_1 := blk_frozen BK346.out 1; have hfz18_2 := blk_frozen BK346.out 2; have hfz18_3 := blk_frozen BK346.out 3))
          go_meet
          case rel => exact ⟨_, (true), (by first | rfl | (simp; done) | (simp [*]; done)), H', ⟨by first | omega | exact Nat.le_refl _⟩, ⟨by (with_reducible repeat (first | refine blk_drewN ?_ _ | refine blk_drew ?_ | refine blk_alloc ?_ _)); exact BK346.out⟩, ⟨by (with_reducible repeat (first | refine blk_drewN ?_ _ | refine blk_drew ?_ | refine blk_alloc ?_ _)); exact BK347.out⟩, ⟨by repeat (first | (with_reducible first | exact HB.out | apply below_alloc | apply pw_below_drewN | apply below_drew1 | refine below_set ?_ GE346.out | refine below_set ?_ GE347.out) | exact HB.out)⟩⟩
        · rw [if_neg c14] at H
          have c14b0 : decide (a1 < 0) = false := decide_eq_false c14
          clear c14
          (first | rw [c14b0] | (simp only [i64_w, i32_w]; rw [c14b0]) | skip)
          replace H := Option.bind_eq_some_iff.mp H
          obtain ⟨t349, A190, H⟩ := H
          replace H : (if a1 ≥ t349 then (spec_DiskWrite.j0 k a1 l2 true l0_0 l0_1 a0_2 false) else (if (l2.length : Int) = 64 then (spec_DiskWrite.j0 k a1 l2 ((l0_1.length : Int) == 2000) l0_0 l0_1 a0_2 false) else (spec_DiskWrite.j0 k a1 l2 true l0_0 l0_1 a0_2 false))) = some (r1, r2, r3, r4) := H
          have A19 := Aside0.mk A190
          clear A190
          by_cases c20 : a1 ≥ t349
          · rw [if_pos c20] at H
            have c20b0 : decide (t349 ≤ a1) = true := decide_eq_true c20
            clear c20
            have H' := Aside0.mk H
            clear H
            have hnb21 := NB346_347.out
            have hnc21 := NB347_346.out
            have hcz22_0 : w6.cell? ⟨gb346, 0, none⟩ = some (.slice A0_0 l0_0.length c0_0) := (blk_cell BK346.out 0).trans rfl
            have hcz22_1 : w6.cell? ⟨gb346, 1, none⟩ = some (.slice A0_1 l0_1.length c0_1) := (blk_cell BK346.out 1).trans rfl
            have hcz22_2 : w6.cell? ⟨gb346, 2, none⟩ = some (.int .i64 a0_2) := (blk_cell BK346.out 2).trans rfl
            have hcz22_3 : w6.cell? ⟨gb346, 3, none⟩ = some (.bool false) := (blk_cell BK346.out 3).trans rfl
            have hfz22_0 := blk_frozen BK346.out 0
            have hfz22_1 := blk_frozen BK346.out 1
            have hfz22_2 := blk_frozen BK346.out 2
            have hfz22_3 := blk_frozen BK346.out 3
            go_wp2_with (first | ((with_reducible refine gate_callee (f := 16) rfl ?_); refine goesL_ (some 9) rfl rfl Try.func16 (by kernel_rfl) rfl #[.agg #[.slice A0_0 l0_0.length c0_0, .slice A0_1 l0_1.length c0_1, .int .i64 a0_2, .bool false]] rfl (by (try simp only [List.map_toArray, List.map_cons, List.map_nil]); first | done | rfl | (simp only [List.length_drop, List.length_take]; rfl)) ?_; (with_reducible refine (spec_ValidDisk.calls k _ _ l0_0 _ _ l0_1 a0_2 false true _ ?side1 ?side2 ?side3 ?side4 A7.out).mono ?_); (case side1 => repeat (first | exact (Kd.C_below HR0_0.out HB.out) | (with_reducible refine Kd.C_alloc ?_ _) | (with_reducible refine Kd.C_drewN ?_ _) | (with_reducible refine Kd.C_drew ?_))); (case side2 => exact HC0_0.out); (case side3 => repeat (first | exact (Kd.C_below HR0_1.out HB.out) | (with_reducible refine Kd.C_alloc ?_ _) | (with_reducible refine Kd.C_drewN ?_ _) | (with_reducible refine Kd.C_drew ?_))); (case side4 => exact HC0_1.out); rintro e w23 ⟨rfl, hb⟩; refine ⟨_, rfl, ?_⟩; have n0_ := Aside0.mk (blk_below (g := gb346) (o := .cells #[.slice A0_0 l0_0.length c0_0, .slice A0_1 l0_1.length c0_1, .int .i64 a0_2, .bool false] 25 (0, 0)) (by (with_reducible repeat (first | refine blk_drewN ?_ _ | refine blk_drew ?_ | refine blk_alloc ?_ _)); exact BK346.out) hb); have n1_ := Aside0.mk (blk_below (g := gb347) (o := .cells #[.slice none 0 0, .slice none 0 0, .int .i64 0, .bool false] 25 (0, 0)) (by (with_reducible repeat (first | refine blk_drewN ?_ _ | refine blk_drew ?_ | refine blk_alloc ?_ _)); exact BK347.out) hb); have n2_ := Aside0.mk (below_step (by repeat (first | (with_reducible first | exact HB.out | apply below_alloc | apply pw_below_drewN | apply below_drew1 | refine below_set ?_ GE346.out | refine below_set ?_ GE347.out) | exact HB.out)) hb); clear BK346; clear BK347; clear HB; have BK346 := n0_; have BK347 := n1_; have HB := n2_; clear n0_ n1_ n2_; (try clear hb); (try clear hb2); (try clear hk); (try clear hi); have hcz24_0 : w23.cell? ⟨gb346, 0, none⟩ = some (.slice A0_0 l0_0.length c0_0) := (blk_cell BK346.out 0).trans rfl; have hcz24_1 : w23.cell? ⟨gb346, 1, none⟩ = some (.slice A0_1 l0_1.length c0_1) := (blk_cell BK346.out 1).trans rfl; have hcz24_2 : w23.cell? ⟨gb346, 2, none⟩ = some (.int .i64 a0_2) := (blk_cell BK346.out 2).trans rfl; have hcz24_3 : w23.cell? ⟨gb346, 3, none⟩ = some (.bool false) := (blk_cell BK346.out 3).trans rfl; have hfz24_0 := blk_frozen BK346.out 0; have hfz24_1 := blk_frozen BK346.out 1; have hfz24_2 := blk_frozen BK346.out 2; have hfz24_3 := blk_frozen BK346.out 3) | (go_at_call 42; (with_reducible refine (spec_l1Sectors.calls _ _ l0_0 _ _ l0_1 a0_2 false t349 _ ?side1 ?side2 ?side3 ?side4 A19.out).mono ?_); (case side1 => repeat (first | exact (Kd.C_below HR0_0.out HB.out) | (with_reducible refine Kd.C_alloc ?_ _) | (with_reducible refine Kd.C_drewN ?_ _) | (with_reducible refine Kd.C_drew ?_))); (case side2 => exact HC0_0.out); (case side3 => repeat (first | exact (Kd.C_below HR0_1.out HB.out) | (with_reducible refine Kd.C_alloc ?_ _) | (with_reducible refine Kd.C_drewN ?_ _) | (with_reducible refine Kd.C_drew ?_))); (case side4 => exact HC0_1.out); rintro e w25 ⟨rfl, hb⟩; have n0_ := Aside0.mk (blk_below (g := gb346) (o := .cells #[.slice A0_0 l0_0.length c0_0, .slice A0_1 l0_1.length c0_1, .int .i64 a0_2, .bool false] 25 (0, 0)) (by (with_reducible repeat (first | refine blk_drewN ?_ _ | refine blk_drew ?_ | refine blk_alloc ?_ _)); exact BK346.out) hb); have n1_ := Aside0.mk (blk_below (g := gb347) (o := .cells #[.slice none 0 0, .slice none 0 0, .int .i64 0, .bool false] 25 (0, 0)) (by (with_reducible repeat (first | refine blk_drewN ?_ _ | refine blk_drew ?_ | refine blk_alloc ?_ _)); exact BK347.out) hb); have n2_ := Aside0.mk (below_step (by repeat (first | (with_reducible first | exact HB.out | apply below_alloc | apply pw_below_drewN | apply below_drew1 | refine below_set ?_ GE346.out | refine below_set ?_ GE347.out) | exact HB.out)) hb); clear BK346; clear BK347; clear HB; have BK346 := n0_; have BK347 := n1_; have HB := n2_; clear n0_ n1_ n2_; (try clear hb); (try clear hb2); (try clear hk); (try clear hi)))
            go_meet
            case rel => exact ⟨_, (true), (by first | rfl | (simp; done) | (simp [*]; done)), H', ⟨by first | omega | exact Nat.le_refl _⟩, ⟨by (with_reducible repeat (first | refine blk_drewN ?_ _ | refine blk_drew ?_ | refine blk_alloc ?_ _)); exact BK346.out⟩, ⟨by (with_reducible repeat (first | refine blk_drewN ?_ _ | refine blk_drew ?_ | refine blk_alloc ?_ _)); exact BK347.out⟩, ⟨by repeat (first | (with_reducible first | exact HB.out | apply below_alloc | apply pw_below_drewN | apply below_drew1 | refine below_set ?_ GE346.out | refine below_set ?_ GE347.out) | exact HB.out)⟩⟩
          · rw [if_neg c20] at H
            have c20b0 : decide (t349 ≤ a1) = false := decide_eq_false c20
            clear c20
            by_cases c26 : (l2.length : Int) = 64
            · rw [if_pos c26] at H
              have c26b0 : ((l2.length : Int) == 64) = true := beq_iff_eq.mpr c26
              have c26b1 : ((l2.length : Int) != 64) = false := bne_eq_false_iff_eq.mpr c26
              clear c26
              have H' := Aside0.mk H
              clear H
              have hnb27 := NB346_347.out
              have hnc27 := NB347_346.out
              have hcz28_0 : w6.cell? ⟨gb346, 0, none⟩ = some (.slice A0_0 l0_0.length c0_0) := (blk_cell BK346.out 0).trans rfl
              have hcz28_1 : w6.cell? ⟨gb346, 1, none⟩ = some (.slice A0_1 l0_1.length c0_1) := (blk_cell BK346.out 1).trans rfl
              have hcz28_2 : w6.cell? ⟨gb346, 2, none⟩ = some (.int .i64 a0_2) := (blk_cell BK346.out 2).trans rfl
              have hcz28_3 : w6.cell? ⟨gb346, 3, none⟩ = some (.bool false) := (blk_cell BK346.out 3).trans rfl
              have hfz28_0 := blk_frozen BK346.out 0
              have hfz28_1 := blk_frozen BK346.out 1
              have hfz28_2 := blk_frozen BK346.out 2
              have hfz28_3 := blk_frozen BK346.out 3
              go_wp2_with (first | ((with_reducible refine gate_callee (f := 16) rfl ?_); refine goesL_ (some 9) rfl rfl Try.func16 (by kernel_rfl) rfl #[.agg #[.slice A0_0 l0_0.length c0_0, .slice A0_1 l0_1.length c0_1, .int .i64 a0_2, .bool false]] rfl (by (try simp only [List.map_toArray, List.map_cons, List.map_nil]); first | done | rfl | (simp only [List.length_drop, List.length_take]; rfl)) ?_; (with_reducible refine (spec_ValidDisk.calls k _ _ l0_0 _ _ l0_1 a0_2 false true _ ?side1 ?side2 ?side3 ?side4 A7.out).mono ?_); (case side1 => repeat (first | exact (Kd.C_below HR0_0.out HB.out) | (with_reducible refine Kd.C_alloc ?_ _) | (with_reducible refine Kd.C_drewN ?_ _) | (with_reducible refine Kd.C_drew ?_))); (case side2 => exact HC0_0.out); (case side3 => repeat (first | exact (Kd.C_below HR0_1.out HB.out) | (with_reducible refine Kd.C_alloc ?_ _) | (with_reducible refine Kd.C_drewN ?_ _) | (with_reducible refine Kd.C_drew ?_))); (case side4 => exact HC0_1.out); rintro e w29 ⟨rfl, hb⟩; refine ⟨_, rfl, ?_⟩; have n0_ := Aside0.mk (blk_below (g := gb346) (o := .cells #[.slice A0_0 l0_0.length c0_0, .slice A0_1 l0_1.length c0_1, .int .i64 a0_2, .bool false] 25 (0, 0)) (by (with_reducible repeat (first | refine blk_drewN ?_ _ | refine blk_drew ?_ | refine blk_alloc ?_ _)); exact BK346.out) hb); have n1_ := Aside0.mk (blk_below (g := gb347) (o := .cells #[.slice none 0 0, .slice none 0 0, .int .i64 0, .bool false] 25 (0, 0)) (by (with_reducible repeat (first | refine blk_drewN ?_ _ | refine blk_drew ?_ | refine blk_alloc ?_ _)); exact BK347.out) hb); have n2_ := Aside0.mk (below_step (by repeat (first | (with_reducible first | exact HB.out | apply below_alloc | apply pw_below_drewN | apply below_drew1 | refine below_set ?_ GE346.out | refine below_set ?_ GE347.out) | exact HB.out)) hb); clear BK346; clear BK347; clear HB; have BK346 := n0_; have BK347 := n1_; have HB := n2_; clear n0_ n1_ n2_; (try clear hb); (try clear hb2); (try clear hk); (try clear hi); have hcz30_0 : w29.cell? ⟨gb346, 0, none⟩ = some (.slice A0_0 l0_0.length c0_0) := (blk_cell BK346.out 0).trans rfl; have hcz30_1 : w29.cell? ⟨gb346, 1, none⟩ = some (.slice A0_1 l0_1.length c0_1) := (blk_cell BK346.out 1).trans rfl; have hcz30_2 : w29.cell? ⟨gb346, 2, none⟩ = some (.int .i64 a0_2) := (blk_cell BK346.out 2).trans rfl; have hcz30_3 : w29.cell? ⟨gb346, 3, none⟩ = some (.bool false) := (blk_cell BK346.out 3).trans rfl; have hfz30_0 := blk_frozen BK346.out 0; have hfz30_1 := blk_frozen BK346.out 1; have hfz30_2 := blk_frozen BK346.out 2; have hfz30_3 := blk_frozen BK346.out 3) | (go_at_call 42; (with_reducible refine (spec_l1Sectors.calls _ _ l0_0 _ _ l0_1 a0_2 false t349 _ ?side1 ?side2 ?side3 ?side4 A19.out).mono ?_); (case side1 => repeat (first | exact (Kd.C_below HR0_0.out HB.out) | (with_reducible refine Kd.C_alloc ?_ _) | (with_reducible refine Kd.C_drewN ?_ _) | (with_reducible refine Kd.C_drew ?_))); (case side2 => exact HC0_0.out); (case side3 => repeat (first | exact (Kd.C_below HR0_1.out HB.out) | (with_reducible refine Kd.C_alloc ?_ _) | (with_reducible refine Kd.C_drewN ?_ _) | (with_reducible refine Kd.C_drew ?_))); (case side4 => exact HC0_1.out); rintro e w31 ⟨rfl, hb⟩; have n0_ := Aside0.mk (blk_below (g := gb346) (o := .cells #[.slice A0_0 l0_0.length c0_0, .slice A0_1 l0_1.length c0_1, .int .i64 a0_2, .bool false] 25 (0, 0)) (by (with_reducible repeat (first | refine blk_drewN ?_ _ | refine blk_drew ?_ | refine blk_alloc ?_ _)); exact BK346.out) hb); have n1_ := Aside0.mk (blk_below (g := gb347) (o := .cells #[.slice none 0 0, .slice none 0 0, .int .i64 0, .bool false] 25 (0, 0)) (by (with_reducible repeat (first | refine blk_drewN ?_ _ | refine blk_drew ?_ | refine blk_alloc ?_ _)); exact BK347.out) hb); have n2_ := Aside0.mk (below_step (by repeat (first | (with_reducible first | exact HB.out | apply below_alloc | apply pw_below_drewN | apply below_drew1 | refine below_set ?_ GE346.out | refine below_set ?_ GE347.out) | exact HB.out)) hb); clear BK346; clear BK347; clear HB; have BK346 := n0_; have BK347 := n1_; have HB := n2_; clear n0_ n1_ n2_; (try clear hb); (try clear hb2); (try clear hk); (try clear hi); have hcz32_0 : w31.cell? ⟨gb346, 0, none⟩ = some (.slice A0_0 l0_0.length c0_0) := (blk_cell BK346.out 0).trans rfl; have hcz32_1 : w31.cell? ⟨gb346, 1, none⟩ = some (.slice A0_1 l0_1.length c0_1) := (blk_cell BK346.out 1).trans rfl; have hcz32_2 : w31.cell? ⟨gb346, 2, none⟩ = some (.int .i64 a0_2) := (blk_cell BK346.out 2).trans rfl; have hcz32_3 : w31.cell? ⟨gb346, 3, none⟩ = some (.bool false) := (blk_cell BK346.out 3).trans rfl; have hfz32_0 := blk_frozen BK346.out 0; have hfz32_1 := blk_frozen BK346.out 1; have hfz32_2 := blk_frozen BK346.out 2; have hfz32_3 := blk_frozen BK346.out 3))
              go_meet
              case rel => exact ⟨_, (((l0_1.length : Int) == 2000)), (by first | rfl | (simp; done) | (simp [*]; done)), H', ⟨by first | omega | exact Nat.le_refl _⟩, ⟨by (with_reducible repeat (first | refine blk_drewN ?_ _ | refine blk_drew ?_ | refine blk_alloc ?_ _)); exact BK346.out⟩, ⟨by (with_reducible repeat (first | refine blk_drewN ?_ _ | refine blk_drew ?_ | refine blk_alloc ?_ _)); exact BK347.out⟩, ⟨by repeat (first | (with_reducible first | exact HB.out | apply below_alloc | apply pw_below_drewN | apply below_drew1 | refine below_set ?_ GE346.out | refine below_set ?_ GE347.out) | exact HB.out)⟩⟩
            · rw [if_neg c26] at H
              have c26b0 : ((l2.length : Int) == 64) = false := beq_eq_false_iff_ne.mpr c26
              have c26b1 : ((l2.length : Int) != 64) = true := bne_iff_ne.mpr c26
              have H' := Aside0.mk H
              clear H
              have hnb33 := NB346_347.out
              have hnc33 := NB347_346.out
              have hcz34_0 : w6.cell? ⟨gb346, 0, none⟩ = some (.slice A0_0 l0_0.length c0_0) := (blk_cell BK346.out 0).trans rfl
              have hcz34_1 : w6.cell? ⟨gb346, 1, none⟩ = some (.slice A0_1 l0_1.length c0_1) := (blk_cell BK346.out 1).trans rfl
              have hcz34_2 : w6.cell? ⟨gb346, 2, none⟩ = some (.int .i64 a0_2) := (blk_cell BK346.out 2).trans rfl
              have hcz34_3 : w6.cell? ⟨gb346, 3, none⟩ = some (.bool false) := (blk_cell BK346.out 3).trans rfl
              have hfz34_0 := blk_frozen BK346.out 0
              have hfz34_1 := blk_frozen BK346.out 1
              have hfz34_2 := blk_frozen BK346.out 2
              have hfz34_3 := blk_frozen BK346.out 3
              go_wp2_with (first | ((with_reducible refine gate_callee (f := 16) rfl ?_); refine goesL_ (some 9) rfl rfl Try.func16 (by kernel_rfl) rfl #[.agg #[.slice A0_0 l0_0.length c0_0, .slice A0_1 l0_1.length c0_1, .int .i64 a0_2, .bool false]] rfl (by (try simp only [List.map_toArray, List.map_cons, List.map_nil]); first | done | rfl | (simp only [List.length_drop, List.length_take]; rfl)) ?_; (with_reducible refine (spec_ValidDisk.calls k _ _ l0_0 _ _ l0_1 a0_2 false true _ ?side1 ?side2 ?side3 ?side4 A7.out).mono ?_); (case side1 => repeat (first | exact (Kd.C_below HR0_0.out HB.out) | (with_reducible refine Kd.C_alloc ?_ _) | (with_reducible refine Kd.C_drewN ?_ _) | (with_reducible refine Kd.C_drew ?_))); (case side2 => exact HC0_0.out); (case side3 => repeat (first | exact (Kd.C_below HR0_1.out HB.out) | (with_reducible refine Kd.C_alloc ?_ _) | (with_reducible refine Kd.C_drewN ?_ _) | (with_reducible refine Kd.C_drew ?_))); (case side4 => exact HC0_1.out); rintro e w35 ⟨rfl, hb⟩; refine ⟨_, rfl, ?_⟩; have n0_ := Aside0.mk (blk_below (g := gb346) (o := .cells #[.slice A0_0 l0_0.length c0_0, .slice A0_1 l0_1.length c0_1, .int .i64 a0_2, .bool false] 25 (0, 0)) (by (with_reducible repeat (first | refine blk_drewN ?_ _ | refine blk_drew ?_ | refine blk_alloc ?_ _)); exact BK346.out) hb); have n1_ := Aside0.mk (blk_below (g := gb347) (o := .cells #[.slice none 0 0, .slice none 0 0, .int .i64 0, .bool false] 25 (0, 0)) (by (with_reducible repeat (first | refine blk_drewN ?_ _ | refine blk_drew ?_ | refine blk_alloc ?_ _)); exact BK347.out) hb); have n2_ := Aside0.mk (below_step (by repeat (first | (with_reducible first | exact HB.out | apply below_alloc | apply pw_below_drewN | apply below_drew1 | refine below_set ?_ GE346.out | refine below_set ?_ GE347.out) | exact HB.out)) hb); clear BK346; clear BK347; clear HB; have BK346 := n0_; have BK347 := n1_; have HB := n2_; clear n0_ n1_ n2_; (try clear hb); (try clear hb2); (try clear hk); (try clear hi); have hcz36_0 : w35.cell? ⟨gb346, 0, none⟩ = some (.slice A0_0 l0_0.length c0_0) := (blk_cell BK346.out 0).trans rfl; have hcz36_1 : w35.cell? ⟨gb346, 1, none⟩ = some (.slice A0_1 l0_1.length c0_1) := (blk_cell BK346.out 1).trans rfl; have hcz36_2 : w35.cell? ⟨gb346, 2, none⟩ = some (.int .i64 a0_2) := (blk_cell BK346.out 2).trans rfl; have hcz36_3 : w35.cell? ⟨gb346, 3, none⟩ = some (.bool false) := (blk_cell BK346.out 3).trans rfl; have hfz36_0 := blk_frozen BK346.out 0; have hfz36_1 := blk_frozen BK346.out 1; have hfz36_2 := blk_frozen BK346.out 2; have hfz36_3 := blk_frozen BK346.out 3) | (go_at_call 42; (with_reducible refine (spec_l1Sectors.calls _ _ l0_0 _ _ l0_1 a0_2 false t349 _ ?side1 ?side2 ?side3 ?side4 A19.out).mono ?_); (case side1 => repeat (first | exact (Kd.C_below HR0_0.out HB.out) | (with_reducible refine Kd.C_alloc ?_ _) | (with_reducible refine Kd.C_drewN ?_ _) | (with_reducible refine Kd.C_drew ?_))); (case side2 => exact HC0_0.out); (case side3 => repeat (first | exact (Kd.C_below HR0_1.out HB.out) | (with_reducible refine Kd.C_alloc ?_ _) | (with_reducible refine Kd.C_drewN ?_ _) | (with_reducible refine Kd.C_drew ?_))); (case side4 => exact HC0_1.out); rintro e w37 ⟨rfl, hb⟩; have n0_ := Aside0.mk (blk_below (g := gb346) (o := .cells #[.slice A0_0 l0_0.length c0_0, .slice A0_1 l0_1.length c0_1, .int .i64 a0_2, .bool false] 25 (0, 0)) (by (with_reducible repeat (first | refine blk_drewN ?_ _ | refine blk_drew ?_ | refine blk_alloc ?_ _)); exact BK346.out) hb); have n1_ := Aside0.mk (blk_below (g := gb347) (o := .cells #[.slice none 0 0, .slice none 0 0, .int .i64 0, .bool false] 25 (0, 0)) (by (with_reducible repeat (first | refine blk_drewN ?_ _ | refine blk_drew ?_ | refine blk_alloc ?_ _)); exact BK347.out) hb); have n2_ := Aside0.mk (below_step (by repeat (first | (with_reducible first | exact HB.out | apply below_alloc | apply pw_below_drewN | apply below_drew1 | refine below_set ?_ GE346.out | refine below_set ?_ GE347.out) | exact HB.out)) hb); clear BK346; clear BK347; clear HB; have BK346 := n0_; have BK347 := n1_; have HB := n2_; clear n0_ n1_ n2_; (try clear hb); (try clear hb2); (try clear hk); (try clear hi)))
              go_meet
              case rel => exact ⟨_, (true), (by first | rfl | (simp; done) | (simp [*]; done)), H', ⟨by first | omega | exact Nat.le_refl _⟩, ⟨by (with_reducible repeat (first | refine blk_drewN ?_ _ | refine blk_drew ?_ | refine blk_alloc ?_ _)); exact BK346.out⟩, ⟨by (with_reducible repeat (first | refine blk_drewN ?_ _ | refine blk_drew ?_ | refine blk_alloc ?_ _)); exact BK347.out⟩, ⟨by repeat (first | (with_reducible first | exact HB.out | apply below_alloc | apply pw_below_drewN | apply below_drew1 | refine below_set ?_ GE346.out | refine below_set ?_ GE347.out) | exact HB.out)⟩⟩
    · replace c8 := Bool.eq_false_iff.mpr c8
      subst c8
      have H1 : (spec_DiskWrite.j0 k a1 l2 true l0_0 l0_1 a0_2 a0_3) = some (r1, r2, r3, r4) := by rw [if_neg (show ¬ (false = true) by decide)] at H; exact H
      clear H
      have H := H1
      clear H1
      have H' := Aside0.mk H
      clear H
      have hnb38 := NB346_347.out
      have hnc38 := NB347_346.out
      have hcz39_0 : w6.cell? ⟨gb346, 0, none⟩ = some (.slice A0_0 l0_0.length c0_0) := (blk_cell BK346.out 0).trans rfl
      have hcz39_1 : w6.cell? ⟨gb346, 1, none⟩ = some (.slice A0_1 l0_1.length c0_1) := (blk_cell BK346.out 1).trans rfl
      have hcz39_2 : w6.cell? ⟨gb346, 2, none⟩ = some (.int .i64 a0_2) := (blk_cell BK346.out 2).trans rfl
      have hcz39_3 : w6.cell? ⟨gb346, 3, none⟩ = some (.bool a0_3) := (blk_cell BK346.out 3).trans rfl
      have hfz39_0 := blk_frozen BK346.out 0
      have hfz39_1 := blk_frozen BK346.out 1
      have hfz39_2 := blk_frozen BK346.out 2
      have hfz39_3 := blk_frozen BK346.out 3
      go_wp2_with (first | ((with_reducible refine gate_callee (f := 16) rfl ?_); refine goesL_ (some 9) rfl rfl Try.func16 (by kernel_rfl) rfl #[.agg #[.slice A0_0 l0_0.length c0_0, .slice A0_1 l0_1.length c0_1, .int .i64 a0_2, .bool a0_3]] rfl (by (try simp only [List.map_toArray, List.map_cons, List.map_nil]); first | done | rfl | (simp only [List.length_drop, List.length_take]; rfl)) ?_; (with_reducible refine (spec_ValidDisk.calls k _ _ l0_0 _ _ l0_1 a0_2 a0_3 false _ ?side1 ?side2 ?side3 ?side4 A7.out).mono ?_); (case side1 => repeat (first | exact (Kd.C_below HR0_0.out HB.out) | (with_reducible refine Kd.C_alloc ?_ _) | (with_reducible refine Kd.C_drewN ?_ _) | (with_reducible refine Kd.C_drew ?_))); (case side2 => exact HC0_0.out); (case side3 => repeat (first | exact (Kd.C_below HR0_1.out HB.out) | (with_reducible refine Kd.C_alloc ?_ _) | (with_reducible refine Kd.C_drewN ?_ _) | (with_reducible refine Kd.C_drew ?_))); (case side4 => exact HC0_1.out); rintro e w40 ⟨rfl, hb⟩; refine ⟨_, rfl, ?_⟩; have n0_ := Aside0.mk (blk_below (g := gb346) (o := .cells #[.slice A0_0 l0_0.length c0_0, .slice A0_1 l0_1.length c0_1, .int .i64 a0_2, .bool a0_3] 25 (0, 0)) (by (with_reducible repeat (first | refine blk_drewN ?_ _ | refine blk_drew ?_ | refine blk_alloc ?_ _)); exact BK346.out) hb); have n1_ := Aside0.mk (blk_below (g := gb347) (o := .cells #[.slice none 0 0, .slice none 0 0, .int .i64 0, .bool false] 25 (0, 0)) (by (with_reducible repeat (first | refine blk_drewN ?_ _ | refine blk_drew ?_ | refine blk_alloc ?_ _)); exact BK347.out) hb); have n2_ := Aside0.mk (below_step (by repeat (first | (with_reducible first | exact HB.out | apply below_alloc | apply pw_below_drewN | apply below_drew1 | refine below_set ?_ GE346.out | refine below_set ?_ GE347.out) | exact HB.out)) hb); clear BK346; clear BK347; clear HB; have BK346 := n0_; have BK347 := n1_; have HB := n2_; clear n0_ n1_ n2_; (try clear hb); (try clear hb2); (try clear hk); (try clear hi)))
      go_meet
      case rel => exact ⟨_, (true), (by first | rfl | (simp; done) | (simp [*]; done)), H', ⟨by first | omega | exact Nat.le_refl _⟩, ⟨by (with_reducible repeat (first | refine blk_drewN ?_ _ | refine blk_drew ?_ | refine blk_alloc ?_ _)); exact BK346.out⟩, ⟨by (with_reducible repeat (first | refine blk_drewN ?_ _ | refine blk_drew ?_ | refine blk_alloc ?_ _)); exact BK347.out⟩, ⟨by repeat (first | (with_reducible first | exact HB.out | apply below_alloc | apply pw_below_drewN | apply below_drew1 | refine below_set ?_ GE346.out | refine below_set ?_ GE347.out) | exact HB.out)⟩⟩
  case rest =>
    clear HC4
    try clear c1
    try clear c2
    try clear p2
    try clear c3
    try clear c8
    try clear c9
    try clear c10
    try clear c14
    try clear c14b0
    try clear c15
    try clear c16
    try clear c20
    try clear c20b0
    try clear c21
    try clear c24
    try clear c26
    try clear c26b0
    try clear c26b1
    try clear c27
    try clear c33
    try clear c38
    try clear hcz11_0
    try clear hcz11_1
    try clear hcz11_2
    try clear hcz11_3
    try clear hcz13_0
    try clear hcz13_1
    try clear hcz13_2
    try clear hcz13_3
    try clear hcz16_0
    try clear hcz16_1
    try clear hcz16_2
    try clear hcz16_3
    try clear hcz18_0
    try clear hcz18_1
    try clear hcz18_2
    try clear hcz18_3
    try clear hcz22_0
    try clear hcz22_1
    try clear hcz22_2
    try clear hcz22_3
    try clear hcz24_0
    try clear hcz24_1
    try clear hcz24_2
    try clear hcz24_3
    try clear hcz28_0
    try clear hcz28_1
    try clear hcz28_2
    try clear hcz28_3
    try clear hcz30_0
    try clear hcz30_1
    try clear hcz30_2
    try clear hcz30_3
    try clear hcz32_0
    try clear hcz32_1
    try clear hcz32_2
    try clear hcz32_3
    try clear hcz34_0
    try clear hcz34_1
    try clear hcz34_2
    try clear hcz34_3
    try clear hcz36_0
    try clear hcz36_1
    try clear hcz36_2
    try clear hcz36_3
    try clear hcz39_0
    try clear hcz39_1
    try clear hcz39_2
    try clear hcz39_3
    try clear hfz11_0
    try clear hfz11_1
    try clear hfz11_2
    try clear hfz11_3
    try clear hfz13_0
    try clear hfz13_1
    try clear hfz13_2
    try clear hfz13_3
    try clear hfz16_0
    try clear hfz16_1
    try clear hfz16_2
    try clear hfz16_3
    try clear hfz18_0
    try clear hfz18_1
    try clear hfz18_2
    try clear hfz18_3
    try clear hfz22_0
    try clear hfz22_1
    try clear hfz22_2
    try clear hfz22_3
    try clear hfz24_0
    try clear hfz24_1
    try clear hfz24_2
    try clear hfz24_3
    try clear hfz28_0
    try clear hfz28_1
    try clear hfz28_2
    try clear hfz28_3
    try clear hfz30_0
    try clear hfz30_1
    try clear hfz30_2
    try clear hfz30_3
    try clear hfz32_0
    try clear hfz32_1
    try clear hfz32_2
    try clear hfz32_3
    try clear hfz34_0
    try clear hfz34_1
    try clear hfz34_2
    try clear hfz34_3
    try clear hfz36_0
    try clear hfz36_1
    try clear hfz36_2
    try clear hfz36_3
    try clear hfz39_0
    try clear hfz39_1
    try clear hfz39_2
    try clear hfz39_3
    obtain ⟨kq, x35_3, rfl, HA, HJ3, BK346, BK347, HB⟩ := hcut
    cases kq with
    | zero => exact absurd HA.out (by simp [spec_DiskWrite.j0])
    | succ kj3 =>
      have H := HA.out
      clear HA
      simp only [spec_DiskWrite.j0] at H
      by_cases c41 : x35_3 = true
      · subst c41
        have H1 : ((spec_l1Copy.f kj3 l0_0 l0_1 a0_2 a0_3).bind fun bt350 => (some (bt350.1, bt350.2.1, bt350.2.2.1, bt350.2.2.2))) = some (r1, r2, r3, r4) := by rw [if_pos rfl] at H; exact H
        clear H
        have H := H1
        clear H1
        replace H := Option.bind_eq_some_iff.mp H
        obtain ⟨⟨t350, t353, t356, t357⟩, A420, H⟩ := H
        replace H : (some (t350, t353, t356, t357)) = some (r1, r2, r3, r4) := H
        have A42 := Aside0.mk A420
        clear A420
        simp only [Option.some.injEq, Prod.mk.injEq] at H
        obtain ⟨rfl, rfl, rfl, rfl⟩ := H
        have hnb43 := NB346_347.out
        have hnc43 := NB347_346.out
        have hcz44_0 : wc.cell? ⟨gb346, 0, none⟩ = some (.slice A0_0 l0_0.length c0_0) := (blk_cell BK346.out 0).trans rfl
        have hcz44_1 : wc.cell? ⟨gb346, 1, none⟩ = some (.slice A0_1 l0_1.length c0_1) := (blk_cell BK346.out 1).trans rfl
        have hcz44_2 : wc.cell? ⟨gb346, 2, none⟩ = some (.int .i64 a0_2) := (blk_cell BK346.out 2).trans rfl
        have hcz44_3 : wc.cell? ⟨gb346, 3, none⟩ = some (.bool a0_3) := (blk_cell BK346.out 3).trans rfl
        have hfz44_0 := blk_frozen BK346.out 0
        have hfz44_1 := blk_frozen BK346.out 1
        have hfz44_2 := blk_frozen BK346.out 2
        have hfz44_3 := blk_frozen BK346.out 3
        go_wp2_with (first | ((with_reducible refine gate_callee (f := 47) rfl ?_); refine goesL_ (some 37) rfl rfl Try.func47 (by kernel_rfl) rfl #[.agg #[.slice A0_0 l0_0.length c0_0, .slice A0_1 l0_1.length c0_1, .int .i64 a0_2, .bool a0_3]] rfl (by (try simp only [List.map_toArray, List.map_cons, List.map_nil]); first | done | rfl | (simp only [List.length_drop, List.length_take]; rfl)) ?_; (with_reducible refine (spec_l1Copy.calls kj3 _ _ l0_0 _ _ l0_1 a0_2 a0_3 t350 t353 t356 t357 _ ?side1 ?side2 ?side3 ?side4 A42.out).mono ?_); (case side1 => repeat (first | exact (Kd.C_below HR0_0.out HB.out) | (with_reducible refine Kd.C_alloc ?_ _) | (with_reducible refine Kd.C_drewN ?_ _) | (with_reducible refine Kd.C_drew ?_))); (case side2 => exact HC0_0.out); (case side3 => repeat (first | exact (Kd.C_below HR0_1.out HB.out) | (with_reducible refine Kd.C_alloc ?_ _) | (with_reducible refine Kd.C_drewN ?_ _) | (with_reducible refine Kd.C_drew ?_))); (case side4 => exact HC0_1.out); rintro e w45 ⟨v351, v354, rfl, ho0, ho1, hb⟩; refine ⟨_, rfl, ?_⟩; have n0_ := Aside0.mk (Kd.R_lower ho0 (below_size (by repeat (first | (with_reducible first | exact HB.out | apply below_alloc | apply pw_below_drewN | apply below_drew1 | refine below_set ?_ GE346.out | refine below_set ?_ GE347.out) | exact HB.out)))); have n1_ := Aside0.mk (Kd.S_lower ho1 (below_size (by repeat (first | (with_reducible first | exact HB.out | apply below_alloc | apply pw_below_drewN | apply below_drew1 | refine below_set ?_ GE346.out | refine below_set ?_ GE347.out) | exact HB.out)))); have n2_ := Aside0.mk (blk_below (g := gb346) (o := .cells #[.slice A0_0 l0_0.length c0_0, .slice A0_1 l0_1.length c0_1, .int .i64 a0_2, .bool a0_3] 25 (0, 0)) (by (with_reducible repeat (first | refine blk_drewN ?_ _ | refine blk_drew ?_ | refine blk_alloc ?_ _)); exact BK346.out) hb); have n3_ := Aside0.mk (blk_below (g := gb347) (o := .cells #[.slice none 0 0, .slice none 0 0, .int .i64 0, .bool false] 25 (0, 0)) (by (with_reducible repeat (first | refine blk_drewN ?_ _ | refine blk_drew ?_ | refine blk_alloc ?_ _)); exact BK347.out) hb); have n4_ := Aside0.mk (below_step (by repeat (first | (with_reducible first | exact HB.out | apply below_alloc | apply pw_below_drewN | apply below_drew1 | refine below_set ?_ GE346.out | refine below_set ?_ GE347.out) | exact HB.out)) hb); clear BK346; clear BK347; clear HB; have HO352 := n0_; have HO355 := n1_; have BK346 := n2_; have BK347 := n3_; have HB := n4_; clear n0_ n1_ n2_ n3_ n4_; (try clear hb); (try clear hb2); (try clear hk); (try clear hi); (try clear ho0); (try clear ho1); obtain ⟨Ao46, co46, eo46⟩ := Kd.R_slice HO352.out; subst eo46; have hcz47_0 : w45.cell? ⟨gb347, 0, none⟩ = some (.slice none 0 0) := (blk_cell BK347.out 0).trans rfl; have hcz47_1 : w45.cell? ⟨gb347, 1, none⟩ = some (.slice none 0 0) := (blk_cell BK347.out 1).trans rfl; have hcz47_2 : w45.cell? ⟨gb347, 2, none⟩ = some (.int .i64 0) := (blk_cell BK347.out 2).trans rfl; have hcz47_3 : w45.cell? ⟨gb347, 3, none⟩ = some (.bool false) := (blk_cell BK347.out 3).trans rfl; have hfz47_0 := blk_frozen BK347.out 0; have hfz47_1 := blk_frozen BK347.out 1; have hfz47_2 := blk_frozen BK347.out 2; have hfz47_3 := blk_frozen BK347.out 3; obtain ⟨Ao48, co48, eo48⟩ := Kd.S_slice HO355.out; subst eo48))
        refine bodyPost_ret (results_cell_row rfl _ _ gb347 25 #[.slice Ao46 t350.length co46, .slice Ao48 t353.length co48, .int .i64 t356, .bool t357] (0, 0) _ rfl (by (with_reducible repeat (first | refine blk_drewN ?_ _ | refine blk_drew ?_ | refine blk_alloc ?_ _)); refine blk_put (cs := #[.slice Ao46 t350.length co46, .slice Ao48 t353.length co48, .int .i64 t356, .bool false]) ?_ 3 _ rfl; (with_reducible repeat (first | refine blk_drewN ?_ _ | refine blk_drew ?_ | refine blk_alloc ?_ _)); refine blk_put (cs := #[.slice Ao46 t350.length co46, .slice Ao48 t353.length co48, .int .i64 0, .bool false]) ?_ 2 _ rfl; (with_reducible repeat (first | refine blk_drewN ?_ _ | refine blk_drew ?_ | refine blk_alloc ?_ _)); refine blk_put (cs := #[.slice Ao46 t350.length co46, .slice none 0 0, .int .i64 0, .bool false]) ?_ 1 _ rfl; (with_reducible repeat (first | refine blk_drewN ?_ _ | refine blk_drew ?_ | refine blk_alloc ?_ _)); refine blk_put (cs := #[.slice none 0 0, .slice none 0 0, .int .i64 0, .bool false]) ?_ 0 _ rfl; (with_reducible repeat (first | refine blk_drewN ?_ _ | refine blk_drew ?_ | refine blk_alloc ?_ _)); exact BK347.out) Try.underlying25 rfl (by kernel_rfl)) rfl ?_
        exact ⟨_, _, by first | rfl | (simp [errW_none, errW_some] <;> rfl) | (simp [*, errW_none, errW_some] <;> rfl), by (with_reducible repeat (first | apply Kd.R_alloc | apply Kd.R_drewN | apply Kd.R_drew)); exact Kd.R_mono (Kd.R_far (p := ⟨gb347, 3, none⟩) (Kd.R_far (p := ⟨gb347, 2, none⟩) (Kd.R_far (p := ⟨gb347, 1, none⟩) (Kd.R_far (p := ⟨gb347, 0, none⟩) (Kd.R_types HO352.out BK347.out (by decide)) (fun _ hk => hk.2) (.slice Ao46 t350.length co46)) (fun _ hk => hk.2) (.slice Ao48 t353.length co48)) (fun _ hk => hk.2) (.int .i64 t356)) (fun _ hk => hk.2) (.bool t357)) (fun _ hk => trivial), by (with_reducible repeat (first | apply Kd.S_alloc | apply Kd.S_drewN | apply Kd.S_drew)); exact Kd.S_mono (Kd.S_far (p := ⟨gb347, 3, none⟩) (Kd.S_far (p := ⟨gb347, 2, none⟩) (Kd.S_far (p := ⟨gb347, 1, none⟩) (Kd.S_far (p := ⟨gb347, 0, none⟩) (Kd.S_types HO355.out BK347.out (by decide)) (fun _ hk => hk.2) (.slice Ao46 t350.length co46)) (fun _ hk => hk.2) (.slice Ao48 t353.length co48)) (fun _ hk => hk.2) (.int .i64 t356)) (fun _ hk => hk.2) (.bool t357)) (fun _ hk => hk.1), by repeat (first | (with_reducible first | exact HB.out | apply below_alloc | apply pw_below_drewN | apply below_drew1 | refine below_set ?_ GE346.out | refine below_set ?_ GE347.out) | exact HB.out)⟩
      · replace c41 := Bool.eq_false_iff.mpr c41
        subst c41
        have H1 : ((spec_l1Step.f kj3 l0_0 l0_1 a0_2 a0_3).bind fun bt358 => (if bt358.2.2.2 = true then (some (bt358.1, bt358.2.1, bt358.2.2.1, bt358.2.2.2)) else ((some (([] : List Int) : List Int)).bind fun y367 => (if y367.length + l2.length < 140737488355328 then (if bt358.2.1.length < 4398046511104 then (some (bt358.1, (bt358.2.1 ++ [(⟨a1, (y367 ++ l2)⟩ : S60)]), bt358.2.2.1, bt358.2.2.2)) else (none)) else (none))))) = some (r1, r2, r3, r4) := by rw [if_neg (show ¬ (false = true) by decide)] at H; exact H
        clear H
        have H := H1
        clear H1
        replace H := Option.bind_eq_some_iff.mp H
        obtain ⟨⟨t358, t361, t364, t365⟩, A490, H⟩ := H
        replace H : (if t365 = true then (some (t358, t361, t364, t365)) else ((some (([] : List Int) : List Int)).bind fun y367 => (if y367.length + l2.length < 140737488355328 then (if t361.length < 4398046511104 then (some (t358, (t361 ++ [(⟨a1, (y367 ++ l2)⟩ : S60)]), t364, t365)) else (none)) else (none)))) = some (r1, r2, r3, r4) := H
        have A49 := Aside0.mk A490
        clear A490
        by_cases c50 : t365 = true
        · subst c50
          have H1 : (some (t358, t361, t364, true)) = some (r1, r2, r3, r4) := by rw [if_pos rfl] at H; exact H
          clear H
          have H := H1
          clear H1
          simp only [Option.some.injEq, Prod.mk.injEq] at H
          obtain ⟨rfl, rfl, rfl, rfl⟩ := H
          have hnb51 := NB346_347.out
          have hnc51 := NB347_346.out
          have hcz52_0 : wc.cell? ⟨gb346, 0, none⟩ = some (.slice A0_0 l0_0.length c0_0) := (blk_cell BK346.out 0).trans rfl
          have hcz52_1 : wc.cell? ⟨gb346, 1, none⟩ = some (.slice A0_1 l0_1.length c0_1) := (blk_cell BK346.out 1).trans rfl
          have hcz52_2 : wc.cell? ⟨gb346, 2, none⟩ = some (.int .i64 a0_2) := (blk_cell BK346.out 2).trans rfl
          have hcz52_3 : wc.cell? ⟨gb346, 3, none⟩ = some (.bool a0_3) := (blk_cell BK346.out 3).trans rfl
          have hfz52_0 := blk_frozen BK346.out 0
          have hfz52_1 := blk_frozen BK346.out 1
          have hfz52_2 := blk_frozen BK346.out 2
          have hfz52_3 := blk_frozen BK346.out 3
          go_wp2_with (first | ((with_reducible refine gate_callee (f := 48) rfl ?_); refine goesL_ (some 39) rfl rfl Try.func48 (by kernel_rfl) rfl #[.agg #[.slice A0_0 l0_0.length c0_0, .slice A0_1 l0_1.length c0_1, .int .i64 a0_2, .bool a0_3]] rfl (by (try simp only [List.map_toArray, List.map_cons, List.map_nil]); first | done | rfl | (simp only [List.length_drop, List.length_take]; rfl)) ?_; (with_reducible refine (spec_l1Step.calls kj3 _ _ l0_0 _ _ l0_1 a0_2 a0_3 t358 t361 t364 true _ ?side1 ?side2 ?side3 ?side4 A49.out).mono ?_); (case side1 => repeat (first | exact (Kd.C_below HR0_0.out HB.out) | (with_reducible refine Kd.C_alloc ?_ _) | (with_reducible refine Kd.C_drewN ?_ _) | (with_reducible refine Kd.C_drew ?_))); (case side2 => exact HC0_0.out); (case side3 => repeat (first | exact (Kd.C_below HR0_1.out HB.out) | (with_reducible refine Kd.C_alloc ?_ _) | (with_reducible refine Kd.C_drewN ?_ _) | (with_reducible refine Kd.C_drew ?_))); (case side4 => exact HC0_1.out); rintro e w53 ⟨v359, v362, rfl, ho0, ho1, hb⟩; refine ⟨_, rfl, ?_⟩; have n0_ := Aside0.mk (Kd.R_lower ho0 (below_size (by repeat (first | (with_reducible first | exact HB.out | apply below_alloc | apply pw_below_drewN | apply below_drew1 | refine below_set ?_ GE346.out | refine below_set ?_ GE347.out) | exact HB.out)))); have n1_ := Aside0.mk (Kd.S_lower ho1 (below_size (by repeat (first | (with_reducible first | exact HB.out | apply below_alloc | apply pw_below_drewN | apply below_drew1 | refine below_set ?_ GE346.out | refine below_set ?_ GE347.out) | exact HB.out)))); have n2_ := Aside0.mk (blk_below (g := gb346) (o := .cells #[.slice A0_0 l0_0.length c0_0, .slice A0_1 l0_1.length c0_1, .int .i64 a0_2, .bool a0_3] 25 (0, 0)) (by (with_reducible repeat (first | refine blk_drewN ?_ _ | refine blk_drew ?_ | refine blk_alloc ?_ _)); exact BK346.out) hb); have n3_ := Aside0.mk (blk_below (g := gb347) (o := .cells #[.slice none 0 0, .slice none 0 0, .int .i64 0, .bool false] 25 (0, 0)) (by (with_reducible repeat (first | refine blk_drewN ?_ _ | refine blk_drew ?_ | refine blk_alloc ?_ _)); exact BK347.out) hb); have n4_ := Aside0.mk (below_step (by repeat (first | (with_reducible first | exact HB.out | apply below_alloc | apply pw_below_drewN | apply below_drew1 | refine below_set ?_ GE346.out | refine below_set ?_ GE347.out) | exact HB.out)) hb); clear BK346; clear BK347; clear HB; have HO360 := n0_; have HO363 := n1_; have BK346 := n2_; have BK347 := n3_; have HB := n4_; clear n0_ n1_ n2_ n3_ n4_; (try clear hb); (try clear hb2); (try clear hk); (try clear hi); (try clear ho0); (try clear ho1)) | ((with_reducible refine gate_dst (N := 7) rfl ?_); (try (refine gate_guard (by rfl) ?_; dsimp only)); refine box_event ?hg (N := 7) ?hd (cs := #[.slice none 0 0, .slice none 0 0, .int .i64 0, .bool false]) (t := 25) ?hr ?_; (case hd => rfl); (case hg => rfl); (case hr => first | (go_simp; done) | (go_simp; rfl)); intro gb366 hg w54 hbox hb; have n0_ := Aside0.mk (Kd.R_below (by (with_reducible repeat (first | apply Kd.R_alloc | apply Kd.R_drewN | apply Kd.R_drew)); exact HO360.out) hb); have n1_ := Aside0.mk (Kd.S_below (by (with_reducible repeat (first | apply Kd.S_alloc | apply Kd.S_drewN | apply Kd.S_drew)); exact HO363.out) hb); have n2_ := Aside0.mk (blk_below (g := gb346) (o := .cells #[.slice A0_0 l0_0.length c0_0, .slice A0_1 l0_1.length c0_1, .int .i64 a0_2, .bool a0_3] 25 (0, 0)) (by (with_reducible repeat (first | refine blk_drewN ?_ _ | refine blk_drew ?_ | refine blk_alloc ?_ _)); exact BK346.out) hb); have n3_ := Aside0.mk (blk_below (g := gb347) (o := .cells #[.slice none 0 0, .slice none 0 0, .int .i64 0, .bool false] 25 (0, 0)) (by (with_reducible repeat (first | refine blk_drewN ?_ _ | refine blk_drew ?_ | refine blk_alloc ?_ _)); exact BK347.out) hb); have n4_ := Aside0.mk (below_step (by repeat (first | (with_reducible first | exact HB.out | apply below_alloc | apply pw_below_drewN | apply below_drew1 | refine below_set ?_ GE346.out | refine below_set ?_ GE347.out) | exact HB.out)) hb); have n5_ := Aside0.mk (hbox); have n6_ := Aside0.mk ((by rw [hg]; exact (below_size (by repeat (first | (with_reducible first | exact HB.out | apply below_alloc | apply pw_below_drewN | apply below_drew1 | refine below_set ?_ GE346.out | refine below_set ?_ GE347.out) | exact HB.out))) : w.heap.size ≤ gb366)); have n7_ := Aside0.mk ((by rw [hg]; exact (below_size (by repeat (first | (with_reducible first | exact HB.out | apply below_alloc | apply pw_below_drewN | apply below_drew1 | refine below_set ?_ GE346.out | refine below_set ?_ GE347.out) | exact HB.out))) : w.heap.size ≤ gb366)); have n8_ := Aside0.mk ((by rw [hg]; exact Nat.ne_of_lt (blk_lt (g := gb346) (o := .cells #[.slice A0_0 l0_0.length c0_0, .slice A0_1 l0_1.length c0_1, .int .i64 a0_2, .bool a0_3] 25 (0, 0)) (by (with_reducible repeat (first | refine blk_drewN ?_ _ | refine blk_drew ?_ | refine blk_alloc ?_ _)); exact BK346.out)) : gb346 ≠ gb366)); have n9_ := Aside0.mk ((by rw [hg]; exact Nat.ne_of_gt (blk_lt (g := gb346) (o := .cells #[.slice A0_0 l0_0.length c0_0, .slice A0_1 l0_1.length c0_1, .int .i64 a0_2, .bool a0_3] 25 (0, 0)) (by (with_reducible repeat (first | refine blk_drewN ?_ _ | refine blk_drew ?_ | refine blk_alloc ?_ _)); exact BK346.out)) : gb366 ≠ gb346)); have n10_ := Aside0.mk ((by rw [hg]; exact Nat.ne_of_lt (blk_lt (g := gb347) (o := .cells #[.slice none 0 0, .slice none 0 0, .int .i64 0, .bool false] 25 (0, 0)) (by (with_reducible repeat (first | refine blk_drewN ?_ _ | refine blk_drew ?_ | refine blk_alloc ?_ _)); exact BK347.out)) : gb347 ≠ gb366)); have n11_ := Aside0.mk ((by rw [hg]; exact Nat.ne_of_gt (blk_lt (g := gb347) (o := .cells #[.slice none 0 0, .slice none 0 0, .int .i64 0, .bool false] 25 (0, 0)) (by (with_reducible repeat (first | refine blk_drewN ?_ _ | refine blk_drew ?_ | refine blk_alloc ?_ _)); exact BK347.out)) : gb366 ≠ gb347)); clear HO360; clear HO363; clear BK346; clear BK347; clear HB; have HO360 := n0_; have HO363 := n1_; have BK346 := n2_; have BK347 := n3_; have HB := n4_; have BK366 := n5_; have GW366 := n6_; have GE366 := n7_; have NB346_366 := n8_; have NB366_346 := n9_; have NB347_366 := n10_; have NB366_347 := n11_; clear n0_ n1_ n2_ n3_ n4_ n5_ n6_ n7_ n8_ n9_ n10_ n11_; clear hb hbox hg; obtain ⟨Ao55, co55, eo55⟩ := Kd.R_slice HO360.out; subst eo55; have hnb56 := NB366_346.out; have hnc56 := NB346_366.out; have hnb57 := NB366_347.out; have hnc57 := NB347_366.out; have hcz58_0 : w54.cell? ⟨gb366, 0, none⟩ = some (.slice none 0 0) := (blk_cell BK366.out 0).trans rfl; have hcz58_1 : w54.cell? ⟨gb366, 1, none⟩ = some (.slice none 0 0) := (blk_cell BK366.out 1).trans rfl; have hcz58_2 : w54.cell? ⟨gb366, 2, none⟩ = some (.int .i64 0) := (blk_cell BK366.out 2).trans rfl; have hcz58_3 : w54.cell? ⟨gb366, 3, none⟩ = some (.bool false) := (blk_cell BK366.out 3).trans rfl; have hfz58_0 := blk_frozen BK366.out 0; have hfz58_1 := blk_frozen BK366.out 1; have hfz58_2 := blk_frozen BK366.out 2; have hfz58_3 := blk_frozen BK366.out 3; obtain ⟨Ao59, co59, eo59⟩ := Kd.S_slice HO363.out; subst eo59; have hcz60_0 : w54.cell? ⟨gb347, 0, none⟩ = some (.slice none 0 0) := (blk_cell BK347.out 0).trans rfl; have hcz60_1 : w54.cell? ⟨gb347, 1, none⟩ = some (.slice none 0 0) := (blk_cell BK347.out 1).trans rfl; have hcz60_2 : w54.cell? ⟨gb347, 2, none⟩ = some (.int .i64 0) := (blk_cell BK347.out 2).trans rfl; have hcz60_3 : w54.cell? ⟨gb347, 3, none⟩ = some (.bool false) := (blk_cell BK347.out 3).trans rfl; have hfz60_0 := blk_frozen BK347.out 0; have hfz60_1 := blk_frozen BK347.out 1; have hfz60_2 := blk_frozen BK347.out 2; have hfz60_3 := blk_frozen BK347.out 3))
          refine bodyPost_ret (results_cell_row rfl _ _ gb347 25 #[.slice Ao55 t358.length co55, .slice Ao59 t361.length co59, .int .i64 t364, .bool true] (0, 0) _ rfl (by (with_reducible repeat (first | refine blk_drewN ?_ _ | refine blk_drew ?_ | refine blk_alloc ?_ _)); refine blk_put (cs := #[.slice Ao55 t358.length co55, .slice Ao59 t361.length co59, .int .i64 t364, .bool false]) ?_ 3 _ rfl; (with_reducible repeat (first | refine blk_drewN ?_ _ | refine blk_drew ?_ | refine blk_alloc ?_ _)); refine blk_put (cs := #[.slice Ao55 t358.length co55, .slice Ao59 t361.length co59, .int .i64 0, .bool false]) ?_ 2 _ rfl; (with_reducible repeat (first | refine blk_drewN ?_ _ | refine blk_drew ?_ | refine blk_alloc ?_ _)); refine blk_put (cs := #[.slice Ao55 t358.length co55, .slice none 0 0, .int .i64 0, .bool false]) ?_ 1 _ rfl; (with_reducible repeat (first | refine blk_drewN ?_ _ | refine blk_drew ?_ | refine blk_alloc ?_ _)); refine blk_put (cs := #[.slice none 0 0, .slice none 0 0, .int .i64 0, .bool false]) ?_ 0 _ rfl; (with_reducible repeat (first | refine blk_drewN ?_ _ | refine blk_drew ?_ | refine blk_alloc ?_ _)); refine blk_far ?_ NB347_366.out _; (with_reducible repeat (first | refine blk_drewN ?_ _ | refine blk_drew ?_ | refine blk_alloc ?_ _)); refine blk_far ?_ NB347_366.out _; (with_reducible repeat (first | refine blk_drewN ?_ _ | refine blk_drew ?_ | refine blk_alloc ?_ _)); refine blk_far ?_ NB347_366.out _; (with_reducible repeat (first | refine blk_drewN ?_ _ | refine blk_drew ?_ | refine blk_alloc ?_ _)); refine blk_far ?_ NB347_366.out _; (with_reducible repeat (first | refine blk_drewN ?_ _ | refine blk_drew ?_ | refine blk_alloc ?_ _)); exact BK347.out) Try.underlying25 rfl (by kernel_rfl)) rfl ?_
          exact ⟨_, _, by first | rfl | (simp [errW_none, errW_some] <;> rfl) | (simp [*, errW_none, errW_some] <;> rfl), by (with_reducible repeat (first | apply Kd.R_alloc | apply Kd.R_drewN | apply Kd.R_drew)); exact Kd.R_mono (Kd.R_far (p := ⟨gb347, 3, none⟩) (Kd.R_far (p := ⟨gb347, 2, none⟩) (Kd.R_far (p := ⟨gb347, 1, none⟩) (Kd.R_far (p := ⟨gb347, 0, none⟩) (Kd.R_far (p := ⟨gb366, 3, none⟩) (Kd.R_far (p := ⟨gb366, 2, none⟩) (Kd.R_far (p := ⟨gb366, 1, none⟩) (Kd.R_far (p := ⟨gb366, 0, none⟩) (Kd.R_types (Kd.R_types HO360.out BK366.out (by decide)) BK347.out (by decide)) (fun _ hk => hk.1.2) (.slice Ao55 t358.length co55)) (fun _ hk => hk.1.2) (.slice Ao59 t361.length co59)) (fun _ hk => hk.1.2) (.int .i64 t364)) (fun _ hk => hk.1.2) (.bool true)) (fun _ hk => hk.2) (.slice Ao55 t358.length co55)) (fun _ hk => hk.2) (.slice Ao59 t361.length co59)) (fun _ hk => hk.2) (.int .i64 t364)) (fun _ hk => hk.2) (.bool true)) (fun _ hk => trivial), by (with_reducible repeat (first | apply Kd.S_alloc | apply Kd.S_drewN | apply Kd.S_drew)); exact Kd.S_mono (Kd.S_far (p := ⟨gb347, 3, none⟩) (Kd.S_far (p := ⟨gb347, 2, none⟩) (Kd.S_far (p := ⟨gb347, 1, none⟩) (Kd.S_far (p := ⟨gb347, 0, none⟩) (Kd.S_far (p := ⟨gb366, 3, none⟩) (Kd.S_far (p := ⟨gb366, 2, none⟩) (Kd.S_far (p := ⟨gb366, 1, none⟩) (Kd.S_far (p := ⟨gb366, 0, none⟩) (Kd.S_types (Kd.S_types HO363.out BK366.out (by decide)) BK347.out (by decide)) (fun _ hk => hk.1.2) (.slice Ao55 t358.length co55)) (fun _ hk => hk.1.2) (.slice Ao59 t361.length co59)) (fun _ hk => hk.1.2) (.int .i64 t364)) (fun _ hk => hk.1.2) (.bool true)) (fun _ hk => hk.2) (.slice Ao55 t358.length co55)) (fun _ hk => hk.2) (.slice Ao59 t361.length co59)) (fun _ hk => hk.2) (.int .i64 t364)) (fun _ hk => hk.2) (.bool true)) (fun _ hk => hk.1.1), by repeat (first | (with_reducible first | exact HB.out | apply below_alloc | apply pw_below_drewN | apply below_drew1 | refine below_set ?_ GE346.out | refine below_set ?_ GE347.out | refine below_set ?_ GE366.out) | exact HB.out)⟩
        · replace c50 := Bool.eq_false_iff.mpr c50
          subst c50
          have H1 : ((some (([] : List Int) : List Int)).bind fun y367 => (if y367.length + l2.length < 140737488355328 then (if t361.length < 4398046511104 then (some (t358, (t361 ++ [(⟨a1, (y367 ++ l2)⟩ : S60)]), t364, false)) else (none)) else (none))) = some (r1, r2, r3, r4) := by rw [if_neg (show ¬ (false = true) by decide)] at H; exact H
          clear H
          have H := H1
          clear H1
          obtain ⟨y367, hy367⟩ : ∃ y_ : List Int, y_ = (([] : List Int)) := ⟨_, rfl⟩
          replace H : (if y367.length + l2.length < 140737488355328 then (if t361.length < 4398046511104 then (some (t358, (t361 ++ [(⟨a1, (y367 ++ l2)⟩ : S60)]), t364, false)) else (none)) else (none)) = some (r1, r2, r3, r4) := by first | (rw [hy367]; with_reducible exact H) | (have H2_ := (Option.bind_some _ _).symm.trans H; rw [hy367]; with_reducible exact H2_) | (have H2_ := (Option.bind_some _ _).symm.trans H; with_reducible exact H2_) | with_reducible exact H | (rw [hy367]; exact H) | exact H
          have Ny367 := Aside0.mk hy367
          clear hy367
          by_cases c61 : y367.length + l2.length < 140737488355328
          · rw [if_pos c61] at H
            have LMc61 := Aside0.mk c61
            clear c61
            obtain ⟨y370, hy370⟩ : ∃ y_ : List Int, y_ = (y367 ++ l2) := ⟨_, rfl⟩
            replace H : (if t361.length < 4398046511104 then (some (t358, (t361 ++ [(⟨a1, y370⟩ : S60)]), t364, false)) else (none)) = some (r1, r2, r3, r4) := by first | (rw [hy370]; with_reducible exact H) | (have H2_ := (Option.bind_some _ _).symm.trans H; rw [hy370]; with_reducible exact H2_) | (have H2_ := (Option.bind_some _ _).symm.trans H; with_reducible exact H2_) | with_reducible exact H | (rw [hy370]; exact H) | exact H
            have Ny370 := Aside0.mk hy370
            clear hy370
            by_cases c62 : t361.length < 4398046511104
            · rw [if_pos c62] at H
              have LMc62 := Aside0.mk c62
              clear c62
              obtain ⟨y373, hy373⟩ : ∃ y_ : List (S60), y_ = (t361 ++ [(⟨a1, y370⟩ : S60)]) := ⟨_, rfl⟩
              replace H : (some (t358, y373, t364, false)) = some (r1, r2, r3, r4) := by first | (rw [hy373]; with_reducible exact H) | (have H2_ := (Option.bind_some _ _).symm.trans H; rw [hy373]; with_reducible exact H2_) | (have H2_ := (Option.bind_some _ _).symm.trans H; with_reducible exact H2_) | with_reducible exact H | (rw [hy373]; exact H) | exact H
              have Ny373 := Aside0.mk hy373
              clear hy373
              simp only [Option.some.injEq, Prod.mk.injEq] at H
              obtain ⟨rfl, rfl, rfl, rfl⟩ := H
              have hnb63 := NB346_347.out
              have hnc63 := NB347_346.out
              have hcz64_0 : wc.cell? ⟨gb346, 0, none⟩ = some (.slice A0_0 l0_0.length c0_0) := (blk_cell BK346.out 0).trans rfl
              have hcz64_1 : wc.cell? ⟨gb346, 1, none⟩ = some (.slice A0_1 l0_1.length c0_1) := (blk_cell BK346.out 1).trans rfl
              have hcz64_2 : wc.cell? ⟨gb346, 2, none⟩ = some (.int .i64 a0_2) := (blk_cell BK346.out 2).trans rfl
              have hcz64_3 : wc.cell? ⟨gb346, 3, none⟩ = some (.bool a0_3) := (blk_cell BK346.out 3).trans rfl
              have hfz64_0 := blk_frozen BK346.out 0
              have hfz64_1 := blk_frozen BK346.out 1
              have hfz64_2 := blk_frozen BK346.out 2
              have hfz64_3 := blk_frozen BK346.out 3
              try go_wp2_with (first | ((with_reducible refine gate_callee (f := 48) rfl ?_); refine goesL_ (some 39) rfl rfl Try.func48 (by kernel_rfl) rfl #[.agg #[.slice A0_0 l0_0.length c0_0, .slice A0_1 l0_1.length c0_1, .int .i64 a0_2, .bool a0_3]] rfl (by (try simp only [List.map_toArray, List.map_cons, List.map_nil]); first | done | rfl | (simp only [List.length_drop, List.length_take]; rfl)) ?_; (with_reducible refine (spec_l1Step.calls kj3 _ _ l0_0 _ _ l0_1 a0_2 a0_3 t358 t361 t364 false _ ?side1 ?side2 ?side3 ?side4 A49.out).mono ?_); (case side1 => repeat (first | exact (Kd.C_below HR0_0.out HB.out) | (with_reducible refine Kd.C_alloc ?_ _) | (with_reducible refine Kd.C_drewN ?_ _) | (with_reducible refine Kd.C_drew ?_))); (case side2 => exact HC0_0.out); (case side3 => repeat (first | exact (Kd.C_below HR0_1.out HB.out) | (with_reducible refine Kd.C_alloc ?_ _) | (with_reducible refine Kd.C_drewN ?_ _) | (with_reducible refine Kd.C_drew ?_))); (case side4 => exact HC0_1.out); rintro e w65 ⟨v359, v362, rfl, ho0, ho1, hb⟩; refine ⟨_, rfl, ?_⟩; have n0_ := Aside0.mk (Kd.R_lower ho0 (below_size (by repeat (first | (with_reducible first | exact HB.out | apply below_alloc | apply pw_below_drewN | apply below_drew1 | refine below_set ?_ GE346.out | refine below_set ?_ GE347.out) | exact HB.out)))); have n1_ := Aside0.mk (Kd.S_lower ho1 (below_size (by repeat (first | (with_reducible first | exact HB.out | apply below_alloc | apply pw_below_drewN | apply below_drew1 | refine below_set ?_ GE346.out | refine below_set ?_ GE347.out) | exact HB.out)))); have n2_ := Aside0.mk (blk_below (g := gb346) (o := .cells #[.slice A0_0 l0_0.length c0_0, .slice A0_1 l0_1.length c0_1, .int .i64 a0_2, .bool a0_3] 25 (0, 0)) (by (with_reducible repeat (first | refine blk_drewN ?_ _ | refine blk_drew ?_ | refine blk_alloc ?_ _)); exact BK346.out) hb); have n3_ := Aside0.mk (blk_below (g := gb347) (o := .cells #[.slice none 0 0, .slice none 0 0, .int .i64 0, .bool false] 25 (0, 0)) (by (with_reducible repeat (first | refine blk_drewN ?_ _ | refine blk_drew ?_ | refine blk_alloc ?_ _)); exact BK347.out) hb); have n4_ := Aside0.mk (below_step (by repeat (first | (with_reducible first | exact HB.out | apply below_alloc | apply pw_below_drewN | apply below_drew1 | refine below_set ?_ GE346.out | refine below_set ?_ GE347.out) | exact HB.out)) hb); clear BK346; clear BK347; clear HB; have HO360 := n0_; have HO363 := n1_; have BK346 := n2_; have BK347 := n3_; have HB := n4_; clear n0_ n1_ n2_ n3_ n4_; (try clear hb); (try clear hb2); (try clear hk); (try clear hi); (try clear ho0); (try clear ho1)) | ((with_reducible refine gate_dst (N := 7) rfl ?_); (try (refine gate_guard (by rfl) ?_; dsimp only)); refine box_event ?hg (N := 7) ?hd (cs := #[.slice none 0 0, .slice none 0 0, .int .i64 0, .bool false]) (t := 25) ?hr ?_; (case hd => rfl); (case hg => rfl); (case hr => first | (go_simp; done) | (go_simp; rfl)); intro gb366 hg w66 hbox hb; have n0_ := Aside0.mk (Kd.R_below (by (with_reducible repeat (first | apply Kd.R_alloc | apply Kd.R_drewN | apply Kd.R_drew)); exact HO360.out) hb); have n1_ := Aside0.mk (Kd.S_below (by (with_reducible repeat (first | apply Kd.S_alloc | apply Kd.S_drewN | apply Kd.S_drew)); exact HO363.out) hb); have n2_ := Aside0.mk (blk_below (g := gb346) (o := .cells #[.slice A0_0 l0_0.length c0_0, .slice A0_1 l0_1.length c0_1, .int .i64 a0_2, .bool a0_3] 25 (0, 0)) (by (with_reducible repeat (first | refine blk_drewN ?_ _ | refine blk_drew ?_ | refine blk_alloc ?_ _)); exact BK346.out) hb); have n3_ := Aside0.mk (blk_below (g := gb347) (o := .cells #[.slice none 0 0, .slice none 0 0, .int .i64 0, .bool false] 25 (0, 0)) (by (with_reducible repeat (first | refine blk_drewN ?_ _ | refine blk_drew ?_ | refine blk_alloc ?_ _)); exact BK347.out) hb); have n4_ := Aside0.mk (below_step (by repeat (first | (with_reducible first | exact HB.out | apply below_alloc | apply pw_below_drewN | apply below_drew1 | refine below_set ?_ GE346.out | refine below_set ?_ GE347.out) | exact HB.out)) hb); have n5_ := Aside0.mk (hbox); have n6_ := Aside0.mk ((by rw [hg]; exact (below_size (by repeat (first | (with_reducible first | exact HB.out | apply below_alloc | apply pw_below_drewN | apply below_drew1 | refine below_set ?_ GE346.out | refine below_set ?_ GE347.out) | exact HB.out))) : w.heap.size ≤ gb366)); have n7_ := Aside0.mk ((by rw [hg]; exact (below_size (by repeat (first | (with_reducible first | exact HB.out | apply below_alloc | apply pw_below_drewN | apply below_drew1 | refine below_set ?_ GE346.out | refine below_set ?_ GE347.out) | exact HB.out))) : w.heap.size ≤ gb366)); have n8_ := Aside0.mk ((by rw [hg]; exact Nat.ne_of_lt (blk_lt (g := gb346) (o := .cells #[.slice A0_0 l0_0.length c0_0, .slice A0_1 l0_1.length c0_1, .int .i64 a0_2, .bool a0_3] 25 (0, 0)) (by (with_reducible repeat (first | refine blk_drewN ?_ _ | refine blk_drew ?_ | refine blk_alloc ?_ _)); exact BK346.out)) : gb346 ≠ gb366)); have n9_ := Aside0.mk ((by rw [hg]; exact Nat.ne_of_gt (blk_lt (g := gb346) (o := .cells #[.slice A0_0 l0_0.length c0_0, .slice A0_1 l0_1.length c0_1, .int .i64 a0_2, .bool a0_3] 25 (0, 0)) (by (with_reducible repeat (first | refine blk_drewN ?_ _ | refine blk_drew ?_ | refine blk_alloc ?_ _)); exact BK346.out)) : gb366 ≠ gb346)); have n10_ := Aside0.mk ((by rw [hg]; exact Nat.ne_of_lt (blk_lt (g := gb347) (o := .cells #[.slice none 0 0, .slice none 0 0, .int .i64 0, .bool false] 25 (0, 0)) (by (with_reducible repeat (first | refine blk_drewN ?_ _ | refine blk_drew ?_ | refine blk_alloc ?_ _)); exact BK347.out)) : gb347 ≠ gb366)); have n11_ := Aside0.mk ((by rw [hg]; exact Nat.ne_of_gt (blk_lt (g := gb347) (o := .cells #[.slice none 0 0, .slice none 0 0, .int .i64 0, .bool false] 25 (0, 0)) (by (with_reducible repeat (first | refine blk_drewN ?_ _ | refine blk_drew ?_ | refine blk_alloc ?_ _)); exact BK347.out)) : gb366 ≠ gb347)); clear HO360; clear HO363; clear BK346; clear BK347; clear HB; have HO360 := n0_; have HO363 := n1_; have BK346 := n2_; have BK347 := n3_; have HB := n4_; have BK366 := n5_; have GW366 := n6_; have GE366 := n7_; have NB346_366 := n8_; have NB366_346 := n9_; have NB347_366 := n10_; have NB366_347 := n11_; clear n0_ n1_ n2_ n3_ n4_ n5_ n6_ n7_ n8_ n9_ n10_ n11_; clear hb hbox hg; obtain ⟨Ao67, co67, eo67⟩ := Kd.R_slice HO360.out; subst eo67; have hnb68 := NB366_346.out; have hnc68 := NB346_366.out; have hnb69 := NB366_347.out; have hnc69 := NB347_366.out; have hcz70_0 : w66.cell? ⟨gb366, 0, none⟩ = some (.slice none 0 0) := (blk_cell BK366.out 0).trans rfl; have hcz70_1 : w66.cell? ⟨gb366, 1, none⟩ = some (.slice none 0 0) := (blk_cell BK366.out 1).trans rfl; have hcz70_2 : w66.cell? ⟨gb366, 2, none⟩ = some (.int .i64 0) := (blk_cell BK366.out 2).trans rfl; have hcz70_3 : w66.cell? ⟨gb366, 3, none⟩ = some (.bool false) := (blk_cell BK366.out 3).trans rfl; have hfz70_0 := blk_frozen BK366.out 0; have hfz70_1 := blk_frozen BK366.out 1; have hfz70_2 := blk_frozen BK366.out 2; have hfz70_3 := blk_frozen BK366.out 3; obtain ⟨Ao71, co71, eo71⟩ := Kd.S_slice HO363.out; subst eo71))
              have n0_ : Aside0 (Kd.R (Kd.int .u8) 5 ((((w66.setCell ⟨gb366, 0, none⟩ (.slice Ao67 t358.length co67)).setCell ⟨gb366, 1, none⟩ (.slice Ao71 t361.length co71)).setCell ⟨gb366, 2, none⟩ (.int .i64 t364)).setCell ⟨gb366, 3, none⟩ (.bool false)) w.heap.size (fun _ => True) (.slice Ao67 t358.length co67) t358) := ⟨by (with_reducible repeat (first | apply Kd.R_alloc | apply Kd.R_drewN | apply Kd.R_drew)); exact Kd.R_mono (Kd.R_far (p := ⟨gb366, 3, none⟩) (Kd.R_far (p := ⟨gb366, 2, none⟩) (Kd.R_far (p := ⟨gb366, 1, none⟩) (Kd.R_far (p := ⟨gb366, 0, none⟩) (Kd.R_types HO360.out BK366.out (by decide)) (fun _ hk => hk.2) (.slice Ao67 t358.length co67)) (fun _ hk => hk.2) (.slice Ao71 t361.length co71)) (fun _ hk => hk.2) (.int .i64 t364)) (fun _ hk => hk.2) (.bool false)) (fun _ hk => trivial)⟩
              have n1_ : Aside0 (Kd.S k60 60 ((((w66.setCell ⟨gb366, 0, none⟩ (.slice Ao67 t358.length co67)).setCell ⟨gb366, 1, none⟩ (.slice Ao71 t361.length co71)).setCell ⟨gb366, 2, none⟩ (.int .i64 t364)).setCell ⟨gb366, 3, none⟩ (.bool false)) w.heap.size (fun k_ => some k_ ≠ (.slice Ao67 t358.length co67 : Value).ownBlock) (.slice Ao71 t361.length co71) t361) := ⟨by (with_reducible repeat (first | apply Kd.S_alloc | apply Kd.S_drewN | apply Kd.S_drew)); exact Kd.S_mono (Kd.S_far (p := ⟨gb366, 3, none⟩) (Kd.S_far (p := ⟨gb366, 2, none⟩) (Kd.S_far (p := ⟨gb366, 1, none⟩) (Kd.S_far (p := ⟨gb366, 0, none⟩) (Kd.S_types HO363.out BK366.out (by decide)) (fun _ hk => hk.2) (.slice Ao67 t358.length co67)) (fun _ hk => hk.2) (.slice Ao71 t361.length co71)) (fun _ hk => hk.2) (.int .i64 t364)) (fun _ hk => hk.2) (.bool false)) (fun _ hk => hk.1)⟩
              have n2_ : Aside0 (((((w66.setCell ⟨gb366, 0, none⟩ (.slice Ao67 t358.length co67)).setCell ⟨gb366, 1, none⟩ (.slice Ao71 t361.length co71)).setCell ⟨gb366, 2, none⟩ (.int .i64 t364)).setCell ⟨gb366, 3, none⟩ (.bool false)).heap[gb346]? = some (.cells #[.slice A0_0 l0_0.length c0_0, .slice A0_1 l0_1.length c0_1, .int .i64 a0_2, .bool a0_3] 25 (0, 0))) := ⟨by (with_reducible repeat (first | refine blk_drewN ?_ _ | refine blk_drew ?_ | refine blk_alloc ?_ _)); refine blk_far ?_ NB346_366.out _; (with_reducible repeat (first | refine blk_drewN ?_ _ | refine blk_drew ?_ | refine blk_alloc ?_ _)); refine blk_far ?_ NB346_366.out _; (with_reducible repeat (first | refine blk_drewN ?_ _ | refine blk_drew ?_ | refine blk_alloc ?_ _)); refine blk_far ?_ NB346_366.out _; (with_reducible repeat (first | refine blk_drewN ?_ _ | refine blk_drew ?_ | refine blk_alloc ?_ _)); refine blk_far ?_ NB346_366.out _; (with_reducible repeat (first | refine blk_drewN ?_ _ | refine blk_drew ?_ | refine blk_alloc ?_ _)); exact BK346.out⟩
              have n3_ : Aside0 (((((w66.setCell ⟨gb366, 0, none⟩ (.slice Ao67 t358.length co67)).setCell ⟨gb366, 1, none⟩ (.slice Ao71 t361.length co71)).setCell ⟨gb366, 2, none⟩ (.int .i64 t364)).setCell ⟨gb366, 3, none⟩ (.bool false)).heap[gb347]? = some (.cells #[.slice none 0 0, .slice none 0 0, .int .i64 0, .bool false] 25 (0, 0))) := ⟨by (with_reducible repeat (first | refine blk_drewN ?_ _ | refine blk_drew ?_ | refine blk_alloc ?_ _)); refine blk_far ?_ NB347_366.out _; (with_reducible repeat (first | refine blk_drewN ?_ _ | refine blk_drew ?_ | refine blk_alloc ?_ _)); refine blk_far ?_ NB347_366.out _; (with_reducible repeat (first | refine blk_drewN ?_ _ | refine blk_drew ?_ | refine blk_alloc ?_ _)); refine blk_far ?_ NB347_366.out _; (with_reducible repeat (first | refine blk_drewN ?_ _ | refine blk_drew ?_ | refine blk_alloc ?_ _)); refine blk_far ?_ NB347_366.out _; (with_reducible repeat (first | refine blk_drewN ?_ _ | refine blk_drew ?_ | refine blk_alloc ?_ _)); exact BK347.out⟩
              have n4_ : Aside0 (((((w66.setCell ⟨gb366, 0, none⟩ (.slice Ao67 t358.length co67)).setCell ⟨gb366, 1, none⟩ (.slice Ao71 t361.length co71)).setCell ⟨gb366, 2, none⟩ (.int .i64 t364)).setCell ⟨gb366, 3, none⟩ (.bool false)).heap[gb366]? = some (.cells #[.slice Ao67 t358.length co67, .slice Ao71 t361.length co71, .int .i64 t364, .bool false] 25 (0, 0))) := ⟨by (with_reducible repeat (first | refine blk_drewN ?_ _ | refine blk_drew ?_ | refine blk_alloc ?_ _)); refine blk_put (cs := #[.slice Ao67 t358.length co67, .slice Ao71 t361.length co71, .int .i64 t364, .bool false]) ?_ 3 _ rfl; (with_reducible repeat (first | refine blk_drewN ?_ _ | refine blk_drew ?_ | refine blk_alloc ?_ _)); refine blk_put (cs := #[.slice Ao67 t358.length co67, .slice Ao71 t361.length co71, .int .i64 0, .bool false]) ?_ 2 _ rfl; (with_reducible repeat (first | refine blk_drewN ?_ _ | refine blk_drew ?_ | refine blk_alloc ?_ _)); refine blk_put (cs := #[.slice Ao67 t358.length co67, .slice none 0 0, .int .i64 0, .bool false]) ?_ 1 _ rfl; (with_reducible repeat (first | refine blk_drewN ?_ _ | refine blk_drew ?_ | refine blk_alloc ?_ _)); refine blk_put (cs := #[.slice none 0 0, .slice none 0 0, .int .i64 0, .bool false]) ?_ 0 _ rfl; (with_reducible repeat (first | refine blk_drewN ?_ _ | refine blk_drew ?_ | refine blk_alloc ?_ _)); exact BK366.out⟩
              have n5_ : Aside0 (Below w.heap.size w ((((w66.setCell ⟨gb366, 0, none⟩ (.slice Ao67 t358.length co67)).setCell ⟨gb366, 1, none⟩ (.slice Ao71 t361.length co71)).setCell ⟨gb366, 2, none⟩ (.int .i64 t364)).setCell ⟨gb366, 3, none⟩ (.bool false))) := ⟨by repeat (first | (with_reducible first | exact HB.out | apply below_alloc | apply pw_below_drewN | apply below_drew1 | refine below_set ?_ GE346.out | refine below_set ?_ GE347.out | refine below_set ?_ GE366.out) | exact HB.out)⟩
              (try clear HO360)
              (try clear HO363)
              (try clear BK346)
              (try clear BK347)
              (try clear BK366)
              (try clear HB)
              generalize ((((w66.setCell ⟨gb366, 0, none⟩ (.slice Ao67 t358.length co67)).setCell ⟨gb366, 1, none⟩ (.slice Ao71 t361.length co71)).setCell ⟨gb366, 2, none⟩ (.int .i64 t364)).setCell ⟨gb366, 3, none⟩ (.bool false)) = w72 at n0_ n1_ n2_ n3_ n4_ n5_ ⊢
              have HO360 := n0_
              have HO363 := n1_
              have BK346 := n2_
              have BK347 := n3_
              have BK366 := n4_
              have HB := n5_
              clear n0_ n1_ n2_ n3_ n4_ n5_
              have n0_ := Aside0.mk (Kd.R_drew HO360.out)
              have n1_ := Aside0.mk (Kd.S_drew HO363.out)
              have n2_ := Aside0.mk (blk_drew BK346.out)
              have n3_ := Aside0.mk (blk_drew BK347.out)
              have n4_ := Aside0.mk (blk_drew BK366.out)
              have n5_ := Aside0.mk (below_drew1 HB.out)
              clear HO360
              clear HO363
              clear BK346
              clear BK347
              clear BK366
              clear HB
              have HO360 := n0_
              have HO363 := n1_
              have BK346 := n2_
              have BK347 := n3_
              have BK366 := n4_
              have HB := n5_
              clear n0_ n1_ n2_ n3_ n4_ n5_
              refine start_ (n := 11) (S := fun w' => w'.cell? ⟨gb366, 0, none⟩ = some (.slice Ao67 t358.length co67) ∧ w'.cell? ⟨gb366, 1, none⟩ = some (.slice Ao71 t361.length co71) ∧ w'.cell? ⟨gb366, 2, none⟩ = some (.int .i64 t364) ∧ w'.cell? ⟨gb366, 3, none⟩ = some (.bool false)) (ds := [10]) #[false, false, false, false, false, false, false, false, false, false, false] (by kernel_rfl) rfl rfl ⟨(blk_cell BK366.out 0).trans rfl, (blk_cell BK366.out 1).trans rfl, (blk_cell BK366.out 2).trans rfl, (blk_cell BK366.out 3).trans rfl⟩ (fun hHeld => ?_); refine with_tabW spec_DiskWrite.tab5 spec_DiskWrite.bits5 (fun HT_ HW_ => ?_)
              generalize w72.drew = w73 at HO360 HO363 BK346 BK347 BK366 HB hHeld ⊢
              refine pure_ (i := 0) (N := some 43) (v := ?_) (a' := ?_) #[true, false, false, false, false, false, false, false, false, false, false] rfl rfl (any_of HT_.out (by kernel_rfl)) (fun _ _ _ h => h) (Or.inl ⟨by rfl, ?_⟩) ?_ ?_
              rotate_left
              · intro w'
                go_simp
                with_reducible rfl
              rotate_left
              · simp only [Act.put, List.setIfInBounds_toArray, List.set_cons_zero, List.set_cons_succ, i64_w, i32_w]
                rfl
              refine pure_ (i := 2) (N := some 45) (v := ?_) (a' := ?_) #[true, false, true, false, false, false, false, false, false, false, false] rfl rfl (any_of HT_.out (by kernel_rfl)) (fun _ _ _ h => h) (Or.inl ⟨by rfl, ?_⟩) ?_ ?_
              rotate_left
              · intro w'
                go_simp
                with_reducible rfl
              rotate_left
              · simp only [Act.put, List.setIfInBounds_toArray, List.set_cons_zero, List.set_cons_succ, i64_w, i32_w]
                rfl
              refine pure_ (i := 4) (N := some 47) (v := ?_) (a' := ?_) #[true, false, true, false, true, false, false, false, false, false, false] rfl rfl (any_of HT_.out (by kernel_rfl)) (fun _ _ _ h => h) (Or.inl ⟨by rfl, ?_⟩) ?_ ?_
              rotate_left
              · intro w'
                go_simp
                with_reducible rfl
              rotate_left
              · simp only [Act.put, List.setIfInBounds_toArray, List.set_cons_zero, List.set_cons_succ, i64_w, i32_w]
                rfl
              refine take_ (i := 1) (N := some 44) (v := ?_) (a' := ?_) #[true, true, true, false, true, false, false, false, false, false, false] rfl rfl (take_ofW HT_.out HW_.out (by kernel_rfl)) (fun _ _ _ h => h) (Or.inl ⟨by rfl, ?_⟩) hHeld ?_ ?_
              rotate_left
              · rintro w' ⟨s0, s1, s2, s3⟩
                go_simp
                with_reducible rfl
              rotate_left
              · simp only [Act.put, List.setIfInBounds_toArray, List.set_cons_zero, List.set_cons_succ, i64_w, i32_w]
                rfl
              refine one_ (i := 3) (N := some 46) #[true, true, true, true, true, false, false, false, false, false, false] rfl rfl (one_of HT_.out (by kernel_rfl)) (by decide) (fun K hK => ?_)
              refine Kd.R_lit_step (Kd.int .u8) _ 5 ?hg (N := 46) ?hd (xs := ([] : List Int)) (inner := []) (ok := fun _ => True) (okp := fun _ => True) ?hr ?hp (fun _ hk => hk) trivial (Below.refl _ _) (Nat.le_refl _) (by simp) ?_; (case hd => rfl); (case hg => rfl); (case hr => first | (go_simp; done) | (go_simp; rfl)); (case hp => exact (Reps.none _ _))
              intro v368 w74 ho75 hb hg_ hnew_
              clear hg_ hnew_
              (first | rw [← Ny367.out] at ho75 | (simp only [Int.reduceToNat] at ho75; rw [← Ny367.out] at ho75))
              have n0_ := Aside0.mk (Kd.R_elder' (by (with_reducible repeat (first | apply Kd.R_alloc | apply Kd.R_drewN | apply Kd.R_drew)); exact HO360.out) (Kd.R_base ho75) hb)
              have n1_ := Aside0.mk (Kd.S_elder' (by (with_reducible repeat (first | apply Kd.S_alloc | apply Kd.S_drewN | apply Kd.S_drew)); exact HO363.out) (Kd.R_base ho75) hb)
              have n2_ := Aside0.mk (Kd.R_lower (Kd.R_new' ho75 (Kd.R_lt (by (with_reducible repeat (first | apply Kd.R_alloc | apply Kd.R_drewN | apply Kd.R_drew)); exact HO360.out))) (below_size (by repeat (first | (with_reducible first | exact HB.out | apply below_alloc | apply pw_below_drewN | apply below_drew1 | refine below_set ?_ GE346.out | refine below_set ?_ GE347.out | refine below_set ?_ GE366.out) | exact HB.out))))
              have n3_ := Aside0.mk (blk_below (g := gb346) (o := .cells #[.slice A0_0 l0_0.length c0_0, .slice A0_1 l0_1.length c0_1, .int .i64 a0_2, .bool a0_3] 25 (0, 0)) (by (with_reducible repeat (first | refine blk_drewN ?_ _ | refine blk_drew ?_ | refine blk_alloc ?_ _)); exact BK346.out) hb)
              have n4_ := Aside0.mk (blk_below (g := gb347) (o := .cells #[.slice none 0 0, .slice none 0 0, .int .i64 0, .bool false] 25 (0, 0)) (by (with_reducible repeat (first | refine blk_drewN ?_ _ | refine blk_drew ?_ | refine blk_alloc ?_ _)); exact BK347.out) hb)
              have n5_ := Aside0.mk (blk_below (g := gb366) (o := .cells #[.slice Ao67 t358.length co67, .slice Ao71 t361.length co71, .int .i64 t364, .bool false] 25 (0, 0)) (by (with_reducible repeat (first | refine blk_drewN ?_ _ | refine blk_drew ?_ | refine blk_alloc ?_ _)); exact BK366.out) hb)
              have n6_ := Aside0.mk (below_step (by repeat (first | (with_reducible first | exact HB.out | apply below_alloc | apply pw_below_drewN | apply below_drew1 | refine below_set ?_ GE346.out | refine below_set ?_ GE347.out | refine below_set ?_ GE366.out) | exact HB.out)) hb)
              clear HO360
              clear HO363
              clear BK346
              clear BK347
              clear BK366
              clear HB
              have HO360 := n0_
              have HO363 := n1_
              have HO369 := n2_
              have BK346 := n3_
              have BK347 := n4_
              have BK366 := n5_
              have HB := n6_
              clear n0_ n1_ n2_ n3_ n4_ n5_ n6_
              clear hb ho75
              refine hK.out _ _ ⟨(blk_cell BK366.out 0).trans rfl, (blk_cell BK366.out 1).trans rfl, (blk_cell BK366.out 2).trans rfl, (blk_cell BK366.out 3).trans rfl⟩ (fun hHeld => ?_)
              clear hK K
              refine norm_ (a' := ?_) ?_ ?_
              rotate_left
              · show Act.put _ (some 46) _ = _
                simp only [Act.put, List.setIfInBounds_toArray, List.set_cons_zero, List.set_cons_succ, i64_w, i32_w]
                rfl
              refine one_ (i := 5) (N := some 48) #[true, true, true, true, true, true, false, false, false, false, false] rfl rfl (one_of HT_.out (by kernel_rfl)) (by decide) (fun K hK => ?_)
              refine Kd.R_append_rows_step (Kd.int .u8) (w0 := w) w.heap.size (by rfl) (.tmp 46) (.tmp 47) 22 5 (.int .u8 0) 1 rfl Try.underlying22 info5 rfl (by decide) (by omega) v368 y367 l2 _ _ _ (fun k_ => some k_ ≠ (.slice Ao67 t358.length co67 : Value).ownBlock) (fun _ => False) rfl rfl ?aO ?aR (fun _ _ h => h) (fun _ h => h.elim) ?aF ?aB ?aS ?aL ?_
              (case aR => repeat (first | exact (Kd.C_below HR2.out HB.out) | (with_reducible refine Kd.C_alloc ?_ _) | (with_reducible refine Kd.C_drewN ?_ _) | (with_reducible refine Kd.C_drew ?_)))
              (case aB => exact (by repeat (first | (with_reducible first | exact HB.out | apply below_alloc | apply pw_below_drewN | apply below_drew1 | refine below_set ?_ GE346.out | refine below_set ?_ GE347.out | refine below_set ?_ GE366.out) | exact HB.out)))
              (case aF => exact (fun k_ hk => Kd.fresh' (Kd.R_lt (by (with_reducible repeat (first | apply Kd.R_alloc | apply Kd.R_drewN | apply Kd.R_drew)); exact HO360.out)) k_ hk))
              (case aO => exact (by (with_reducible repeat (first | apply Kd.R_alloc | apply Kd.R_drewN | apply Kd.R_drew)); exact Kd.R_mono HO369.out (fun _ hk => hk.2)))
              (case aS => exact (below_size (by repeat (first | (with_reducible first | exact HB.out | apply below_alloc | apply pw_below_drewN | apply below_drew1 | refine below_set ?_ GE346.out | refine below_set ?_ GE347.out | refine below_set ?_ GE366.out) | exact HB.out))))
              (case aL => have := LMc61.out; omega)
              intro v371 w76 ho hb hg hat
              rw [← Ny370.out] at ho
              have n0_ := Aside0.mk (blk_grown (g := gb346) (o := .cells #[.slice A0_0 l0_0.length c0_0, .slice A0_1 l0_1.length c0_1, .int .i64 a0_2, .bool a0_3] 25 (0, 0)) (by (with_reducible repeat (first | refine blk_drewN ?_ _ | refine blk_drew ?_ | refine blk_alloc ?_ _)); exact BK346.out) hg (Kd.R_ne HO369.out BK346.out (by decide)))
              have n1_ := Aside0.mk (blk_grown (g := gb347) (o := .cells #[.slice none 0 0, .slice none 0 0, .int .i64 0, .bool false] 25 (0, 0)) (by (with_reducible repeat (first | refine blk_drewN ?_ _ | refine blk_drew ?_ | refine blk_alloc ?_ _)); exact BK347.out) hg (Kd.R_ne HO369.out BK347.out (by decide)))
              have n2_ := Aside0.mk (Kd.R_after (ok := (fun _ => True)) (by (with_reducible repeat (first | apply Kd.R_alloc | apply Kd.R_drewN | apply Kd.R_drew)); exact HO360.out) hg hat)
              have n3_ := Aside0.mk (Kd.S_after (ok := (fun k_ => some k_ ≠ (.slice Ao67 t358.length co67 : Value).ownBlock)) (by (with_reducible repeat (first | apply Kd.S_alloc | apply Kd.S_drewN | apply Kd.S_drew)); exact HO363.out) hg hat)
              have n4_ := Aside0.mk (blk_grown (g := gb366) (o := .cells #[.slice Ao67 t358.length co67, .slice Ao71 t361.length co71, .int .i64 t364, .bool false] 25 (0, 0)) (by (with_reducible repeat (first | refine blk_drewN ?_ _ | refine blk_drew ?_ | refine blk_alloc ?_ _)); exact BK366.out) hg (Kd.R_ne HO369.out BK366.out (by decide)))
              have n5_ := Aside0.mk (hb)
              have n6_ := Aside0.mk (ho)
              clear BK346
              clear BK347
              clear HO360
              clear HO363
              clear BK366
              clear HB
              clear HO369
              have BK346 := n0_
              have BK347 := n1_
              have HO360 := n2_
              have HO363 := n3_
              have BK366 := n4_
              have HB := n5_
              have HO372 := n6_
              clear n0_ n1_ n2_ n3_ n4_ n5_ n6_
              clear ho hb hg hat
              obtain ⟨Ao77, co77, eo77⟩ := Kd.R_slice HO372.out
              (first | subst eo77 | (injection eo77 with f1_ f2_ f3_; have f4_ := f1_.symm; have f5_ := f3_.symm; clear f1_ f2_ f3_; subst f4_; subst f5_))
              refine hK.out _ _ ⟨(blk_cell BK366.out 0).trans rfl, (blk_cell BK366.out 1).trans rfl, (blk_cell BK366.out 2).trans rfl, (blk_cell BK366.out 3).trans rfl⟩ (fun hHeld => ?_)
              clear hK K
              refine norm_ (a' := ?_) ?_ ?_
              rotate_left
              · show Act.put _ (some 48) _ = _
                simp only [Act.put, List.setIfInBounds_toArray, List.set_cons_zero, List.set_cons_succ, i64_w, i32_w]
                rfl
              refine pure_ (i := 6) (N := some 49) (v := ?_) (a' := ?_) #[true, true, true, true, true, true, true, false, false, false, false] rfl rfl (any_of HT_.out (by kernel_rfl)) (fun _ _ _ h => h) (Or.inl ⟨by rfl, ?_⟩) ?_ ?_
              rotate_left
              · intro w'
                go_simp
                with_reducible rfl
              rotate_left
              · simp only [Act.put, List.setIfInBounds_toArray, List.set_cons_zero, List.set_cons_succ, i64_w, i32_w]
                rfl
              refine one_ (i := 7) (N := some 50) #[true, true, true, true, true, true, true, true, false, false, false] rfl rfl (one_of HT_.out (by kernel_rfl)) (by decide) (fun K hK => ?_)
              refine value_ (w1 := ?_) (v := ?_) (by rfl) rfl ?_ ?_
              rotate_left 2
              · go_simp
                constructor
                · rfl
                · rfl
              refine hK.out _ _ ⟨(blk_cell (blk_alloc BK366.out _) 0).trans rfl, (blk_cell (blk_alloc BK366.out _) 1).trans rfl, (blk_cell (blk_alloc BK366.out _) 2).trans rfl, (blk_cell (blk_alloc BK366.out _) 3).trans rfl⟩ (fun hHeld => ?_)
              clear hK K
              refine norm_ (a' := ?_) ?_ ?_
              rotate_left
              · show Act.put _ (some 50) _ = _
                simp only [Act.put, List.setIfInBounds_toArray, List.set_cons_zero, List.set_cons_succ, i64_w, i32_w]
                rfl
              refine one_ (i := 8) (N := some 51) #[true, true, true, true, true, true, true, true, true, false, false] rfl rfl (one_of HT_.out (by kernel_rfl)) (by decide) (fun K hK => ?_)
              refine Kd.S_append_step k60 (w0 := w) w.heap.size (by rfl) (.tmp 44) (.tmp 50) 23 60 (.agg #[(.int .i64 0), (.slice none 0 0)]) 32 rfl Try.underlying23 info60 rfl (by decide) (by omega) (.slice Ao71 t361.length co71) t361 (⟨a1, y370⟩ : S60) [.int .i64 a1, .slice Ao77 y370.length co77] (fun k_ => some k_ ≠ (.slice Ao67 t358.length co67 : Value).ownBlock) (fun k_ => some k_ = (.slice Ao77 y370.length co77 : Value).ownBlock) rfl rfl ?aP (fun k_ hk_ => ((Kd.R_mono (ok' := fun k_ => ((fun k_ => some k_ ≠ (.slice Ao67 t358.length co67 : Value).ownBlock)) k_ ∧ some k_ ≠ (.slice Ao71 t361.length co71 : Value).ownBlock) (Kd.R_apart' (HO372.out) (Kd.S_typed HO363.out) (by decide)) (fun k_ hk => ⟨hk.1, hk.2⟩))).1 k_ hk_.symm) ?aF ?aO ?aB ?aS ?aL ?_
              (case aP => exact k60_mkM _ _ _ (⟨a1, y370⟩ : S60) (Kd.R_mono (Kd.R_tight rfl (Kd.R_mono (ok' := fun k_ => ((fun k_ => some k_ ≠ (.slice Ao67 t358.length co67 : Value).ownBlock)) k_ ∧ some k_ ≠ (.slice Ao71 t361.length co71 : Value).ownBlock) (Kd.R_apart' (HO372.out) (Kd.S_typed HO363.out) (by decide)) (fun k_ hk => ⟨hk.1, hk.2⟩))) (fun _ h_ => h_)))
              (case aB => exact (by repeat (first | (with_reducible first | exact HB.out | apply below_alloc | apply pw_below_drewN | apply below_drew1 | refine below_set ?_ GE346.out | refine below_set ?_ GE347.out | refine below_set ?_ GE366.out) | exact HB.out)))
              (case aF => exact (fun k_ hk => Kd.fresh' (Kd.R_lt (by (with_reducible repeat (first | apply Kd.R_alloc | apply Kd.R_drewN | apply Kd.R_drew)); exact HO360.out)) k_ hk))
              (case aO => exact (by (with_reducible repeat (first | apply Kd.S_alloc | apply Kd.S_drewN | apply Kd.S_drew)); exact Kd.S_mono HO363.out (fun k_ hk => ⟨hk.1, fun e_ => hk.2 e_⟩)))
              (case aS => exact (below_size (by repeat (first | (with_reducible first | exact HB.out | apply below_alloc | apply pw_below_drewN | apply below_drew1 | refine below_set ?_ GE346.out | refine below_set ?_ GE347.out | refine below_set ?_ GE366.out) | exact HB.out))))
              (case aL => have := LMc62.out; omega)
              intro v374 w78 ho hb hg hat
              rw [← Ny373.out] at ho
              have n0_ := Aside0.mk (blk_grown (g := gb346) (o := .cells #[.slice A0_0 l0_0.length c0_0, .slice A0_1 l0_1.length c0_1, .int .i64 a0_2, .bool a0_3] 25 (0, 0)) (by (with_reducible repeat (first | refine blk_drewN ?_ _ | refine blk_drew ?_ | refine blk_alloc ?_ _)); exact BK346.out) hg (Kd.S_ne HO363.out BK346.out (by decide)))
              have n1_ := Aside0.mk (blk_grown (g := gb347) (o := .cells #[.slice none 0 0, .slice none 0 0, .int .i64 0, .bool false] 25 (0, 0)) (by (with_reducible repeat (first | refine blk_drewN ?_ _ | refine blk_drew ?_ | refine blk_alloc ?_ _)); exact BK347.out) hg (Kd.S_ne HO363.out BK347.out (by decide)))
              have n2_ := Aside0.mk (Kd.R_over' (by (with_reducible repeat (first | apply Kd.R_alloc | apply Kd.R_drewN | apply Kd.R_drew)); exact HO360.out) (Kd.S_typed (by (with_reducible repeat (first | apply Kd.S_alloc | apply Kd.S_drewN | apply Kd.S_drew)); exact HO363.out)) (by decide) hg)
              have n3_ := Aside0.mk (blk_grown (g := gb366) (o := .cells #[.slice Ao67 t358.length co67, .slice Ao71 t361.length co71, .int .i64 t364, .bool false] 25 (0, 0)) (by (with_reducible repeat (first | refine blk_drewN ?_ _ | refine blk_drew ?_ | refine blk_alloc ?_ _)); exact BK366.out) hg (Kd.S_ne HO363.out BK366.out (by decide)))
              have n4_ := Aside0.mk (hb)
              have n5_ := Aside0.mk (ho)
              clear BK346
              clear BK347
              clear HO360
              clear BK366
              clear HB
              clear HO363
              clear HO372
              have BK346 := n0_
              have BK347 := n1_
              have HO360 := n2_
              have BK366 := n3_
              have HB := n4_
              have HO375 := n5_
              clear n0_ n1_ n2_ n3_ n4_ n5_
              clear ho hb hg hat
              obtain ⟨Ao79, co79, eo79⟩ := Kd.S_slice HO375.out
              (first | subst eo79 | (injection eo79 with f1_ f2_ f3_; have f4_ := f1_.symm; have f5_ := f3_.symm; clear f1_ f2_ f3_; subst f4_; subst f5_))
              refine hK.out _ _ ⟨(blk_cell BK366.out 0).trans rfl, (blk_cell BK366.out 1).trans rfl, (blk_cell BK366.out 2).trans rfl, (blk_cell BK366.out 3).trans rfl⟩ (fun hHeld => ?_)
              clear hK K
              refine norm_ (a' := ?_) ?_ ?_
              rotate_left
              · show Act.put _ (some 51) _ = _
                simp only [Act.put, List.setIfInBounds_toArray, List.set_cons_zero, List.set_cons_succ, i64_w, i32_w]
                rfl
              refine pure_ (i := 9) (N := some 52) (v := ?_) (a' := ?_) #[true, true, true, true, true, true, true, true, true, true, false] rfl rfl (any_of HT_.out (by kernel_rfl)) (fun _ _ _ h => h) (Or.inl ⟨by rfl, ?_⟩) ?_ ?_
              rotate_left
              · intro w'
                go_simp
                with_reducible rfl
              rotate_left
              · simp only [Act.put, List.setIfInBounds_toArray, List.set_cons_zero, List.set_cons_succ, i64_w, i32_w]
                rfl
              refine last_ (i := 10) (N := none) #[true, true, true, true, true, true, true, true, true, true, true] rfl rfl (one_of HT_.out (by kernel_rfl)) (by decide) (fun K hK => ?_)
              have hs80 : w78.cell? ⟨gb366, 1, none⟩ = some (.slice Ao71 t361.length co71) := (blk_cell BK366.out 1).trans rfl
              have hfs80 := blk_frozen BK366.out 1
              have hns80_0 := NB346_366.out
              have hns80_1 := NB347_366.out
              have hms80_0 := NB366_346.out
              have hms80_1 := NB366_347.out
              refine skip_ (w1 := ?_) (by rfl) rfl ?_ ?_
              rotate_left
              · go_simp
                rfl
              refine hK.out _ _ ?_
              clear hK K
              refine done_ (done_of HT_.out (by kernel_rfl)) ?_
              have hcz81_0 : w78.cell? ⟨gb366, 0, none⟩ = some (.slice Ao67 t358.length co67) := (blk_cell BK366.out 0).trans rfl
              have hcz81_1 : w78.cell? ⟨gb366, 1, none⟩ = some (.slice Ao71 t361.length co71) := (blk_cell BK366.out 1).trans rfl
              have hcz81_2 : w78.cell? ⟨gb366, 2, none⟩ = some (.int .i64 t364) := (blk_cell BK366.out 2).trans rfl
              have hcz81_3 : w78.cell? ⟨gb366, 3, none⟩ = some (.bool false) := (blk_cell BK366.out 3).trans rfl
              have hfz81_0 := blk_frozen BK366.out 0
              have hfz81_1 := blk_frozen BK366.out 1
              have hfz81_2 := blk_frozen BK366.out 2
              have hfz81_3 := blk_frozen BK366.out 3
              have hcz82_0 : w78.cell? ⟨gb347, 0, none⟩ = some (.slice none 0 0) := (blk_cell BK347.out 0).trans rfl
              have hcz82_1 : w78.cell? ⟨gb347, 1, none⟩ = some (.slice none 0 0) := (blk_cell BK347.out 1).trans rfl
              have hcz82_2 : w78.cell? ⟨gb347, 2, none⟩ = some (.int .i64 0) := (blk_cell BK347.out 2).trans rfl
              have hcz82_3 : w78.cell? ⟨gb347, 3, none⟩ = some (.bool false) := (blk_cell BK347.out 3).trans rfl
              have hfz82_0 := blk_frozen BK347.out 0
              have hfz82_1 := blk_frozen BK347.out 1
              have hfz82_2 := blk_frozen BK347.out 2
              have hfz82_3 := blk_frozen BK347.out 3
              try go_wp2
              refine bodyPost_ret (results_cell_row rfl _ _ gb347 25 #[.slice Ao67 t358.length co67, .slice Ao79 y373.length co79, .int .i64 t364, .bool false] (0, 0) _ rfl (by (with_reducible repeat (first | refine blk_drewN ?_ _ | refine blk_drew ?_ | refine blk_alloc ?_ _)); refine blk_put (cs := #[.slice Ao67 t358.length co67, .slice Ao79 y373.length co79, .int .i64 t364, .bool false]) ?_ 3 _ rfl; (with_reducible repeat (first | refine blk_drewN ?_ _ | refine blk_drew ?_ | refine blk_alloc ?_ _)); refine blk_put (cs := #[.slice Ao67 t358.length co67, .slice Ao79 y373.length co79, .int .i64 0, .bool false]) ?_ 2 _ rfl; (with_reducible repeat (first | refine blk_drewN ?_ _ | refine blk_drew ?_ | refine blk_alloc ?_ _)); refine blk_put (cs := #[.slice Ao67 t358.length co67, .slice none 0 0, .int .i64 0, .bool false]) ?_ 1 _ rfl; (with_reducible repeat (first | refine blk_drewN ?_ _ | refine blk_drew ?_ | refine blk_alloc ?_ _)); refine blk_put (cs := #[.slice none 0 0, .slice none 0 0, .int .i64 0, .bool false]) ?_ 0 _ rfl; (with_reducible repeat (first | refine blk_drewN ?_ _ | refine blk_drew ?_ | refine blk_alloc ?_ _)); refine blk_far ?_ NB347_366.out _; (with_reducible repeat (first | refine blk_drewN ?_ _ | refine blk_drew ?_ | refine blk_alloc ?_ _)); exact BK347.out) Try.underlying25 rfl (by kernel_rfl)) rfl ?_
              exact ⟨_, _, by first | rfl | (simp [errW_none, errW_some] <;> rfl) | (simp [*, errW_none, errW_some] <;> rfl), by (with_reducible repeat (first | apply Kd.R_alloc | apply Kd.R_drewN | apply Kd.R_drew)); exact Kd.R_mono (Kd.R_far (p := ⟨gb347, 3, none⟩) (Kd.R_far (p := ⟨gb347, 2, none⟩) (Kd.R_far (p := ⟨gb347, 1, none⟩) (Kd.R_far (p := ⟨gb347, 0, none⟩) (Kd.R_far (p := ⟨gb366, 1, none⟩) (Kd.R_types (Kd.R_types HO360.out BK366.out (by decide)) BK347.out (by decide)) (fun _ hk => hk.1.2) (.slice Ao79 y373.length co79)) (fun _ hk => hk.2) (.slice Ao67 t358.length co67)) (fun _ hk => hk.2) (.slice Ao79 y373.length co79)) (fun _ hk => hk.2) (.int .i64 t364)) (fun _ hk => hk.2) (.bool false)) (fun _ hk => trivial), by (with_reducible repeat (first | apply Kd.S_alloc | apply Kd.S_drewN | apply Kd.S_drew)); exact Kd.S_mono (Kd.S_far (p := ⟨gb347, 3, none⟩) (Kd.S_far (p := ⟨gb347, 2, none⟩) (Kd.S_far (p := ⟨gb347, 1, none⟩) (Kd.S_far (p := ⟨gb347, 0, none⟩) (Kd.S_far (p := ⟨gb366, 1, none⟩) (Kd.S_types (Kd.S_types HO375.out BK366.out (by decide)) BK347.out (by decide)) (fun _ hk => hk.1.2) (.slice Ao79 y373.length co79)) (fun _ hk => hk.2) (.slice Ao67 t358.length co67)) (fun _ hk => hk.2) (.slice Ao79 y373.length co79)) (fun _ hk => hk.2) (.int .i64 t364)) (fun _ hk => hk.2) (.bool false)) (fun _ hk => hk.1.1), by repeat (first | (with_reducible first | exact HB.out | apply below_alloc | apply pw_below_drewN | apply below_drew1 | refine below_set ?_ GE346.out | refine below_set ?_ GE347.out | refine below_set ?_ GE366.out) | exact HB.out)⟩
            · rw [if_neg c62] at H
              exact absurd H (by simp)
          · rw [if_neg c61] at H
            exact absurd H (by simp)

/-! ### L_ovr: a text by hand -/
def ovr (l : List Int) (s : Int) (d : List Int) : List Int := l.take (s * 64).toNat ++ (d ++ l.drop ((s * 64).toNat + d.length))
theorem ovr_len (l : List Int) (s : Int) (d : List Int) (h : (s * 64).toNat + d.length ≤ l.length) : (ovr l s d).length = l.length := by unfold ovr; simp; omega
theorem rdP_mem (l : List S60) (i : Nat) (h : i < l.length) : rd_T60 l (i : Int) ∈ l := by unfold rd_T60; rw [Int.toNat_natCast, List.getD_eq_getElem?_getD, List.getElem?_eq_getElem h]; exact List.getElem_mem _

/-! ### L_copy: a text by hand -/
-- import Derived.Laws.CopyOwn
theorem step_copy_at {P : Program} {ops : Array Oper} {o : Oper} {a : Act} {w : World} {K : Act → World → Prop} {Q : Exit → Act → World → Prop} {E : Prop} (hgd : o.guard = none) (d s : Operand) (dT sT : TypeId)
    (ho : o.op = .call { callee := .builtin .copy, args := #[d, s], argTypes := #[dT, sT] }) (elem : TypeId) (hu : P.underlying dT = some (.slice elem)) (hsz : (P.info? elem).map (·.size) = some 1)
    (g off dLen dCap : Nat) (ad : Addr) (sLen sCap : Nat) (hd : a.eval d = .slice (some ⟨g, off, none⟩) dLen dCap) (hs : a.eval s = .slice (some ad) sLen sCap)
    (cur : List Value) (t : TypeId) (hg : w.heap[g]? = some (.cells cur.toArray t (0, 0))) (cs : List Value) (hn : cs.length = Nat.min sLen dLen)
    (hsrc : ∀ j v, cs[j]? = some v → w.cell? (ad.add j) = some v) (hfit : off + cs.length ≤ cur.length) (h1 : ∀ v ∈ cs, v.oneCell' = true)
    (h : ∀ w', w' = w.setRow g (cur.take off ++ (cs ++ cur.drop (off + cs.length))).toArray → K (a.put o.dst (goInt cs.length)) w') :
    if Region.wanted o (yielded ops a.tmps) = true then Oper.wp P o a w K Q else E := by
  have hw : Region.wanted o (yielded ops a.tmps) = true := by simp [Region.wanted, hgd]
  rw [if_pos hw]
  have hrun := run_copy_row (P := P) w dT sT o.type elem g off dLen dCap ad sLen sCap cur.toArray t cs hu hsz hg hn hsrc (by simpa using hfit) h1
  unfold Oper.wp
  simp [execOp, ho, resolve, invoke, builtin, hd, hs, hrun, Result.andThen]
  exact h _ (by simp)
theorem ovr_cells (l : List Int) (s : Int) (d : List Int) (tail : List Value) (h : (s * 64).toNat + d.length ≤ l.length) :
    (l.map (Value.int .u8) ++ tail).take (s * 64).toNat ++ (d.map (Value.int .u8) ++ (l.map (Value.int .u8) ++ tail).drop ((s * 64).toNat + (d.map (Value.int .u8)).length)) = (ovr l s d).map (Value.int .u8) ++ tail := by
  unfold ovr
  rw [List.length_map, List.take_append_of_le_length (by simp; omega), List.drop_append_of_le_length (by simp; omega)]
  simp [List.map_take, List.map_drop]
theorem blk_new3 (w : World) (a b c : Obj) : (((w.alloc a).alloc b).alloc c).heap[w.heap.size + 1 + 1]? = some c := by
  have h := blk_new ((w.alloc a).alloc b) c
  rw [show ((w.alloc a).alloc b).heap.size = w.heap.size + 1 + 1 from by simp] at h
  exact h

/-! ### L_eqByteS: a text by hand -/
theorem eqByteS_loop (l : List Int) (hL : l.length ≤ 281474976710656) : ∀ (d i : Nat), i + d = l.length → Ev (fun k => laws_eqByteS.l0 k l l (i : Int)) true
  | 0, i, hd => Ev.step (fun k => by simp only [laws_eqByteS.l0]; rw [if_neg (by omega)]) (Ev.now _)
  | d + 1, i, hd => 
    Ev.step (fun k => by simp only [laws_eqByteS.l0]; rw [if_pos (by omega), if_pos (by omega), if_pos (by omega), if_true, show wrap64 ((i : Int) + 1) = ((i + 1 : Nat) : Int) by unfold wrap64; omega])
      (eqByteS_loop l hL d (i + 1) (by omega))
theorem eqByteS_ev (l : List Int) (hL : l.length ≤ 281474976710656) : Ev (fun k => laws_eqByteS.f k l l) true :=
  Ev.congr (fun k => by unfold laws_eqByteS.f; rw [if_pos rfl]; rfl) (eqByteS_loop l hL l.length 0 (by omega))

/-! ### L_toByteS: a text by hand -/
theorem toByteS_loop (l : List Int) (hL : l.length ≤ 281474976710656) : ∀ (d i : Nat) (x : List Int), i + d = l.length → x.length = l.length → (∀ j, j < i → x[j]? = l[j]?) →
    Ev (fun k => laws_toByteS.l0 k l x (i : Int)) l
  | 0, i, x, hd, hx, hj => by
    obtain rfl : x = l := List.ext_getElem? fun j => by
      by_cases h : j < i
      · exact hj j h
      · rw [List.getElem?_eq_none (by omega), List.getElem?_eq_none (by omega)]
    exact Ev.step (fun k => by simp only [laws_toByteS.l0]; rw [if_neg (by omega)]) (Ev.now _)
  | d + 1, i, x, hd, hx, hj => by
    refine Ev.step (fun k => by simp only [laws_toByteS.l0]; rw [if_pos (by omega), if_pos (by omega), if_pos (by omega), Int.toNat_natCast, show wrap64 ((i : Int) + 1) = ((i + 1 : Nat) : Int) by unfold wrap64; omega])
      (toByteS_loop l hL d (i + 1) (x.set i (rd l i)) (by omega) (by simpa using hx) fun j hlt => ?_)
    rcases Nat.lt_or_ge j i with h | h
    · rw [List.getElem?_set_ne (by omega)]; exact hj j h
    · obtain rfl : j = i := by omega
      rw [List.getElem?_set_self (by omega)]
      simp [rd, List.getD_eq_getElem?_getD, List.getElem?_eq_getElem (show j < l.length by omega)]
theorem toByteS_ev (l : List Int) (hL : l.length ≤ 281474976710656) : Ev (fun k => laws_toByteS.f k l) l := by
  refine Ev.congr (fun k => ?_) (toByteS_loop l hL l.length 0 (List.replicate l.length 0) (by omega) (by simp) (fun j h => by omega))
  unfold laws_toByteS.f
  rw [if_pos (by omega), Int.toNat_natCast, if_pos hL]
  rfl

/-! ### L_evDisk: a text by hand -/
def cvPend (l : List S78) : List S60 := l.map fun x => ⟨x.f0, x.f1⟩
def okPendS (l : List S60) : Prop := l.length ≤ 1048576 ∧ ∀ x ∈ l, x.f1.length ≤ 1048576
theorem szByteS_at (l : List Int) (a : Int) (h0 : 0 ≤ a) (h1 : a ≤ 1048576) (hL : l.length ≤ maxLen) : ∃ r, laws_szByteS.f l a = some r ∧ r ≤ a ∧ (0 ≤ r → l.length ≤ 1048576) := by
  unfold maxLen at hL
  have e : wrap64 (a - (l.length : Int)) = a - l.length := by unfold wrap64; omega
  unfold laws_szByteS.f
  rw [e]
  by_cases c : a - (l.length : Int) < 0
  · exact ⟨-1, by rw [if_pos c], by omega, by omega⟩
  · exact ⟨_, by rw [if_neg c], by omega, by omega⟩
theorem szPend_at (b : Int) (l : List Int) (a : Int) (h0 : 0 ≤ a) (h1 : a ≤ 1048576) (hL : l.length ≤ maxLen) : ∃ r, laws_szPend.f b l a = some r ∧ r ≤ a ∧ (0 ≤ r → l.length ≤ 1048576) := by
  obtain ⟨r, hr, h2, h3⟩ := szByteS_at l a h0 h1 hL
  unfold laws_szPend.f
  rw [hr]
  by_cases c : r < 0
  · exact ⟨-1, by simp [c], by omega, by omega⟩
  · exact ⟨r, by simp [c], h2, h3⟩
theorem szPendS_loop (l : List S78) (hL : l.length ≤ 1048576) (hF : ∀ x ∈ l, x.f1.length ≤ maxLen) : ∀ (d i : Nat) (a : Int), i + d = l.length → 0 ≤ a → a ≤ 1048576 → (∀ j, j < i → (l.getD j z78).f1.length ≤ 1048576) →
    ∃ r, Ev (fun k => laws_szPendS.l0 k l a (i : Int)) r ∧ r ≤ a ∧ (0 ≤ r → ∀ j, j < l.length → (l.getD j z78).f1.length ≤ 1048576)
  | 0, i, a, hd, h0, h1, hj => ⟨a, Ev.step (fun k => by simp only [laws_szPendS.l0]; rw [if_neg (by omega)]) (Ev.now _), by omega, fun _ j hlt => hj j (by omega)⟩
  | d + 1, i, a, hd, h0, h1, hj => by
    have hm : l.getD i z78 ∈ l := by
      rw [List.getD_eq_getElem?_getD, List.getElem?_eq_getElem (show i < l.length by omega)]
      exact List.getElem_mem _
    obtain ⟨r, hr, h2, h3⟩ := szPend_at (l.getD i z78).f0 (l.getD i z78).f1 a h0 h1 (hF _ hm)
    have hr' : laws_szPend.f (rd_T78 l (i : Int)).f0 (rd_T78 l (i : Int)).f1 a = some r := by unfold rd_T78; rw [Int.toNat_natCast]; exact hr
    by_cases c : r < 0
    · exact ⟨-1, Ev.step (fun k => by simp only [laws_szPendS.l0]; rw [if_pos (by omega), if_pos (by omega), hr']; simp only [Option.bind_some]; rw [if_pos c]) (Ev.now _), by omega, by omega⟩
    · obtain ⟨r2, he, h4, h5⟩ := szPendS_loop l hL hF d (i + 1) r (by omega) (by omega) (by omega) (fun j hlt => by
        rcases Nat.lt_or_ge j i with h | h
        · exact hj j h
        · obtain rfl : j = i := by omega
          exact h3 (by omega))
      exact ⟨r2, Ev.step (fun k => by simp only [laws_szPendS.l0]; rw [if_pos (by omega), if_pos (by omega), hr']; simp only [Option.bind_some]; rw [if_neg c, show wrap64 ((i : Int) + 1) = ((i + 1 : Nat) : Int) by unfold wrap64; omega]) he, by omega, h5⟩
theorem szPendS_ev (l : List S78) (a : Int) (h0 : 0 ≤ a) (h1 : a ≤ 1048576) (hL : l.length ≤ maxLen) (hF : ∀ x ∈ l, x.f1.length ≤ maxLen) :
    ∃ r, Ev (fun k => laws_szPendS.f k l a) r ∧ r ≤ a ∧ (0 ≤ r → l.length ≤ 1048576 ∧ ∀ x ∈ l, x.f1.length ≤ 1048576) := by
  unfold maxLen at hL
  have e : wrap64 (a - (l.length : Int)) = a - l.length := by unfold wrap64; omega
  by_cases c : a - (l.length : Int) < 0
  · exact ⟨-1, Ev.congr (fun k => by unfold laws_szPendS.f; rw [e, if_pos c]) (Ev.now _), by omega, by omega⟩
  · obtain ⟨r, he, h2, h3⟩ := szPendS_loop l (by omega) hF l.length 0 (a - l.length) (by omega) (by omega) (by omega) (fun j h => by omega)
    refine ⟨r, Ev.congr (fun k => by unfold laws_szPendS.f; rw [e, if_neg c]; rfl) he, by omega, fun h => ⟨by omega, fun x hx => ?_⟩⟩
    obtain ⟨j, hj, rfl⟩ := List.getElem_of_mem hx
    have := h3 h j hj
    rwa [List.getD_eq_getElem?_getD, List.getElem?_eq_getElem hj] at this
theorem szDisk_ev (l0 : List Int) (l1 : List S78) (a2 : Int) (a3 : Bool) (hL : l0.length ≤ maxLen) (hL1 : l1.length ≤ maxLen) (hF : ∀ x ∈ l1, x.f1.length ≤ maxLen) :
    ∃ r, Ev (fun k => laws_szDisk.f k l0 l1 a2 a3 1048576) r ∧ (0 ≤ r → l0.length ≤ 1048576 ∧ okPendS (cvPend l1)) := by
  obtain ⟨r, hr, h2, h3⟩ := szByteS_at l0 1048576 (by omega) (by omega) hL
  by_cases c : r < 0
  · exact ⟨-1, Ev.congr (fun k => by unfold laws_szDisk.f; rw [hr]; simp only [Option.bind_some]; rw [if_pos c]) (Ev.now _), by omega⟩
  · obtain ⟨q, hq, h4, h5⟩ := szPendS_ev l1 r (by omega) (by omega) hL1 hF
    by_cases c2 : q < 0
    · exact ⟨-1, Ev.congr (fun k => by unfold laws_szDisk.f; rw [hr]; simp only [Option.bind_some]; rw [if_neg c]) (Ev.bind hq (Ev.congr (fun k => by rw [if_pos c2]) (Ev.now _))), by omega⟩
    · refine ⟨q, Ev.congr (fun k => by unfold laws_szDisk.f; rw [hr]; simp only [Option.bind_some]; rw [if_neg c]) (Ev.bind hq (Ev.congr (fun k => by rw [if_neg c2]) (Ev.now _))), fun h => ⟨h3 (by omega), ?_⟩⟩
      obtain ⟨h6, h7⟩ := h5 (by omega)
      refine ⟨by simpa [cvPend] using h6, fun x hx => ?_⟩
      obtain ⟨y, hy, rfl⟩ := List.mem_map.1 hx
      exact h7 y hy
theorem toPendS_loop (l : List S78) (hL : okPendS (cvPend l)) : ∀ (d i : Nat) (x : List S60), i + d = l.length → x.length = l.length → (∀ j, j < i → x[j]? = (cvPend l)[j]?) →
    Ev (fun k => laws_toPendS.l0 k l x (i : Int)) (cvPend l)
  | 0, i, x, hd, hx, hj => by
    obtain rfl : x = cvPend l := List.ext_getElem? fun j => by
      by_cases h : j < i
      · exact hj j h
      · rw [List.getElem?_eq_none (by omega), List.getElem?_eq_none (by simp [cvPend]; omega)]
    exact Ev.step (fun k => by simp only [laws_toPendS.l0]; rw [if_neg (by omega)]) (Ev.now _)
  | d + 1, i, x, hd, hx, hj => by
    have hl : l.length ≤ 1048576 := by have := hL.1; simpa [cvPend] using this
    have hm : l.getD i z78 ∈ l := by
      rw [List.getD_eq_getElem?_getD, List.getElem?_eq_getElem (show i < l.length by omega)]
      exact List.getElem_mem _
    have he : Ev (fun k => laws_toPend.f k (rd_T78 l (i : Int)).f0 (rd_T78 l (i : Int)).f1) ((rd_T78 l (i : Int)).f0, (rd_T78 l (i : Int)).f1) := by
      have h2 : (l.getD i z78).f1.length ≤ 1048576 := hL.2 _ (List.mem_map.2 ⟨_, hm, rfl⟩)
      unfold laws_toPend.f rd_T78
      rw [Int.toNat_natCast]
      exact Ev.bind (toByteS_ev _ (by omega)) (Ev.now _)
    refine Ev.step (fun k => by simp only [laws_toPendS.l0]; rw [if_pos (by omega), if_pos (by omega)]) (Ev.bind he ?_)
    refine Ev.congr (fun k => by rw [if_pos (by omega), Int.toNat_natCast, show wrap64 ((i : Int) + 1) = ((i + 1 : Nat) : Int) by unfold wrap64; omega])
      (toPendS_loop l hL d (i + 1) (x.set i ⟨(rd_T78 l (i : Int)).f0, (rd_T78 l (i : Int)).f1⟩) (by omega) (by simpa using hx) fun j hlt => ?_)
    rcases Nat.lt_or_ge j i with h | h
    · rw [List.getElem?_set_ne (by omega)]; exact hj j h
    · obtain rfl : j = i := by omega
      rw [List.getElem?_set_self (by omega)]
      simp [rd_T78, cvPend, List.getD_eq_getElem?_getD, List.getElem?_eq_getElem (show j < l.length by omega)]
theorem toPendS_ev (l : List S78) (hL : okPendS (cvPend l)) : Ev (fun k => laws_toPendS.f k l) (cvPend l) := by
  have hl : l.length ≤ 1048576 := by have := hL.1; simpa [cvPend] using this
  refine Ev.congr (fun k => ?_) (toPendS_loop l hL l.length 0 (List.replicate l.length z60) (by omega) (by simp) (fun j h => by omega))
  unfold laws_toPendS.f
  rw [if_pos (by omega), Int.toNat_natCast, if_pos (by omega)]
  rfl
theorem toDisk_ev (l0 : List Int) (l1 : List S78) (a2 : Int) (a3 : Bool) (h0 : l0.length ≤ 1048576) (h1 : okPendS (cvPend l1)) : Ev (fun k => laws_toDisk.f k l0 l1 a2 a3) (l0, cvPend l1, a2, a3) :=
  Ev.bind (toByteS_ev l0 (by omega)) (Ev.bind (toPendS_ev l1 h1) (Ev.now _))
theorem eqPend_ev (a : Int) (l : List Int) (h : l.length ≤ 281474976710656) : Ev (fun k => laws_eqPend.f k a l a l) true :=
  Ev.congr (fun k => by unfold laws_eqPend.f; rw [if_pos rfl]) (Ev.bind (eqByteS_ev l h) (Ev.congr (fun k => by rw [if_pos rfl]) (Ev.now _)))
theorem eqPendS_loop (l : List S60) (hL : okPendS l) : ∀ (d i : Nat), i + d = l.length → Ev (fun k => laws_eqPendS.l0 k l l (i : Int)) true
  | 0, i, hd => Ev.step (fun k => by simp only [laws_eqPendS.l0]; rw [if_neg (by omega)]) (Ev.now _)
  | d + 1, i, hd => by
    have hl := hL.1
    have hm : rd_T60 l (i : Int) ∈ l := by
      unfold rd_T60
      rw [Int.toNat_natCast, List.getD_eq_getElem?_getD, List.getElem?_eq_getElem (show i < l.length by omega)]
      exact List.getElem_mem _
    exact Ev.step (fun k => by simp only [laws_eqPendS.l0]; rw [if_pos (by omega), if_pos (by omega), if_pos (by omega)])
      (Ev.bind (eqPend_ev _ _ (by have := hL.2 _ hm; omega)) (Ev.congr (fun k => by rw [if_pos rfl, show wrap64 ((i : Int) + 1) = ((i + 1 : Nat) : Int) by unfold wrap64; omega]) (eqPendS_loop l hL d (i + 1) (by omega))))
theorem eqPendS_ev (l : List S60) (hL : okPendS l) : Ev (fun k => laws_eqPendS.f k l l) true :=
  Ev.congr (fun k => by unfold laws_eqPendS.f; rw [if_pos rfl]; rfl) (eqPendS_loop l hL l.length 0 (by omega))
theorem eqDisk_ev (l0 : List Int) (l1 : List S60) (a2 : Int) (a3 : Bool) (h0 : l0.length ≤ 1048576) (h1 : okPendS l1) : Ev (fun k => laws_eqDisk.f k l0 l1 a2 a3 l0 l1 a2 a3) true := by
  unfold laws_eqDisk.f
  refine Ev.bind (eqByteS_ev l0 (by omega)) (Ev.congr (fun k => by rw [if_pos rfl]) (Ev.bind (eqPendS_ev l1 h1) (Ev.congr (fun k => by rw [if_pos rfl, if_pos rfl, bne_self_eq_false, if_neg (by decide)]) (Ev.now _))))

/-! ### impl_Disk_clone: a text by hand -/
-- import Derived.Deep.RegionLaw
set_option maxHeartbeats 4000000 in
set_option maxRecDepth 100000 in
theorem impl_Disk_clone.calls (A0 : Option Addr) (c0 : Nat) (l0 : List Int) (A1 : Option Addr) (c1 : Nat) (l1 : List S60) (a2 : Int) (a3 : Bool) (w : World) (hr0 : Kd.C (Kd.int .u8) w A0 l0.length l0) (hc0 : l0.length ≤ c0) (hr1 : Kd.C k60 w A1 l1.length l1) (hc1 : l1.length ≤ c1) (h0 : l0.length ≤ 1048576) (hok : okPendS l1) :
    Calls Try.prog 49 #[.agg #[.slice A0 l0.length c0, .slice A1 l1.length c1, .int .i64 a2, .bool a3]] w fun e w' => ∃ v0_ v1_ : Value, e = .returned (.agg #[v0_, v1_, .int .i64 a2, .bool a3]) ∧ Kd.R (Kd.int .u8) 5 w' w.heap.size (fun _ => True) v0_ l0 ∧ Kd.S k60 60 w' w.heap.size (fun k_ => some k_ ≠ (v0_ : Value).ownBlock) v1_ l1 ∧ Below w.heap.size w w' := by
  have HR0 := Aside0.mk hr0
  have HC0 := Aside0.mk hc0
  have HR1 := Aside0.mk hr1
  have HC1 := Aside0.mk hc1
  have HL := Aside0.mk h0
  have HOK := Aside0.mk hok
  clear hr0 hc0 hr1 hc1 h0 hok
  have hu25 := Try.underlying25
  have hu60 := Try.underlying60
  have HB := Aside0.mk (Below.refl w.heap.size w)
  go_enter Try.func49, Try.ntmps49
  go_wp2_with (first | ((with_reducible refine gate_builtin (b := .append) (xs := #[.tmp 12, .tmp 14]) rfl ?_); at_builtin; refine Kd.R_append_rows (Kd.int .u8) (w0 := w) w.heap.size rfl (.tmp 12) (.tmp 14) 22 5 (.int .u8 0) 1 rfl Try.underlying22 info5 rfl (by decide) (by omega) (.slice none 0 0) [] l0 _ _ _ (fun _ => True) (fun _ => False) rfl rfl (Kd.R_nil _ _ _ _ _) (Kd.C_alloc (Kd.C_alloc (Kd.C_alloc HR0.out _) _) _) (fun _ _ h => h) (fun _ h => h.elim) (fun _ _ => trivial) (below_alloc (below_alloc (below_alloc HB.out _) _) _) (by simp; omega) (by have := HL.out; simp; omega) ?_; intro v w2 ho hb hg hat; rw [List.nil_append] at ho; have N_K1 := Aside0.mk (blk_grown (blk_alloc (blk_alloc (blk_new w _) _) _) hg (by simp [Value.ownBlock])); have N_K2 := Aside0.mk (blk_grown (blk_alloc (blk_new2 w _ _) _) hg (by simp [Value.ownBlock])); have N_K3 := Aside0.mk (blk_grown (blk_new3 w _ _ _) hg (by simp [Value.ownBlock])); obtain ⟨DA, dc, rfl⟩ := Kd.R_slice ho; have HO := Aside0.mk ho; have HB2 := Aside0.mk hb; clear ho hb hg hat; obtain ⟨z0, z1, z2, z3, y0, y1, y2, y3⟩ := blk_cells4 N_K1.out; obtain ⟨x0, x1, x2, x3, u0, u1, u2, u3⟩ := blk_cells4 N_K3.out; have yl := blk_lt N_K1.out; have ul := blk_lt N_K3.out))
  go_loopg [5, 20] l1.length (fun kq v5 v20 w' => ∃ (i : Nat) (v1 : Value), v20 = .int .i64 i ∧ Aside0 (i ≤ l1.length ∧ kq = l1.length - i) ∧ Aside0 (w'.heap[w.heap.size + 1]? = some (.cells #[.slice none 0 0, .slice none 0 0, .int .i64 0, .bool false] 25 (0, 0))) ∧ Aside0 (w'.heap[w.heap.size + 1 + 1]? = some (.cells #[.slice DA l0.length dc, v1, .int .i64 a2, .bool a3] 25 (0, 0))) ∧ Aside0 (Kd.R (Kd.int .u8) 5 w' w.heap.size (fun _ => True) (.slice DA l0.length dc) l0) ∧ Aside0 (Kd.S k60 60 w' w.heap.size (fun k_ => some k_ ≠ (.slice DA l0.length dc : Value).ownBlock) v1 (l1.take i)) ∧ Aside0 (Below w.heap.size w w'))
  case atStart =>
    refine ⟨0, .slice none 0 0, rfl, ⟨by omega, rfl⟩, ⟨blk_far N_K2.out (by simp) _⟩, ⟨blk_put N_K3.out 0 _ rfl⟩, ⟨?_⟩, ⟨Kd.S_nil _ _ _ _ _⟩, ⟨below_setB HB2.out (by omega) _ _⟩⟩
    exact Kd.R_mono (Kd.R_far (p := ⟨w.heap.size + 1 + 1, 0, none⟩) (Kd.R_types HO.out N_K3.out (by decide)) (fun _ hk => hk.2) _) (fun _ _ => trivial)
  case round =>
    clear z0 z1 z2 z3 y0 y1 y2 y3 yl x0 x1 x2 x3 u0 u1 u2 u3 ul N_K1 N_K2 N_K3 HO HB HB2
    obtain ⟨i, v1, rfl, HI, K2, K3, HRo, HSo, HB⟩ := hrel
    obtain ⟨B1, b1, ev1⟩ := Kd.S_slice HSo.out
    generalize hn1 : (l1.take i).length = n1 at ev1
    have HN1 := Aside0.mk hn1
    clear hn1
    subst ev1
    obtain ⟨x0, x1, x2, x3, u0, u1, u2, u3⟩ := blk_cells4 K3.out
    have ul := blk_lt K3.out
    have hil : l1.length ≤ 1048576 := HOK.out.1
    by_cases ci : (i : Int) < (l1.length : Int)
    · obtain ⟨ad, A1', c1', e_, hx0, hx1, hl, hC⟩ := at_T60 (Kd.C_below HR1.out HB.out) (i : Int) (by omega) (by omega)
      cases e_
      rw [Int.toNat_natCast] at hx0 hx1
      have hp : l1.take (i + 1) = l1.take i ++ [rd_T60 l1 (i : Int)] := by
        unfold rd_T60
        rw [List.take_succ_eq_append_getElem (by omega), Int.toNat_natCast, List.getD_eq_getElem?_getD, List.getElem?_eq_getElem (by omega)]
        rfl
      have hm : (rd_T60 l1 (i : Int)).f1.length ≤ 1048576 := HOK.out.2 _ (by unfold rd_T60; rw [Int.toNat_natCast, List.getD_eq_getElem?_getD, List.getElem?_eq_getElem (by omega)]; exact List.getElem_mem _)
      have HP := Aside0.mk hp
      have HM := Aside0.mk hm
      have HC := Aside0.mk hC
      have HLp := Aside0.mk hl
      clear hp hm hC hl
      generalize rd_T60 l1 (i : Int) = p at *
      go_wp2_with fail
      have N_K2 := Aside0.mk (blk_alloc K2.out (.cells #[.int .i64 p.f0, .slice A1' p.f1.length c1'] 60))
      have N_K3 := Aside0.mk (blk_alloc K3.out (.cells #[.int .i64 p.f0, .slice A1' p.f1.length c1'] 60))
      have N_HB := Aside0.mk (below_alloc HB.out (.cells #[.int .i64 p.f0, .slice A1' p.f1.length c1'] 60))
      have N_HC := Aside0.mk (Kd.C_alloc HC.out (.cells #[.int .i64 p.f0, .slice A1' p.f1.length c1'] 60))
      have N_HR := Aside0.mk (Kd.R_alloc HRo.out (.cells #[.int .i64 p.f0, .slice A1' p.f1.length c1'] 60))
      have N_HS := Aside0.mk (Kd.S_bound (Kd.S_alloc HSo.out (.cells #[.int .i64 p.f0, .slice A1' p.f1.length c1'] 60)))
      have KP := Aside0.mk (blk_new wr (.cells #[.int .i64 p.f0, .slice A1' p.f1.length c1'] 60))
      clear K2 K3 HB HC HRo HSo x0 x1 x2 x3 u0 u1 u2 u3 ul hx0 hx1
      generalize hww : wr.alloc (.cells #[.int .i64 p.f0, .slice A1' p.f1.length c1'] 60) = ww at *
      have HWW := Aside0.mk hww
      clear hww
      generalize wr.heap.size = bp at *
      obtain ⟨x0, x1, x2, x3, u0, u1, u2, u3⟩ := blk_cells4 N_K3.out
      have ul := blk_lt N_K3.out
      have pl := blk_lt KP.out
      have pz0 : ww.cell? ⟨bp, 0, none⟩ = some (.int .i64 p.f0) := (blk_cell KP.out 0).trans rfl
      have pz1 : ww.cell? ⟨bp, 1, none⟩ = some (.slice A1' p.f1.length c1') := (blk_cell KP.out 1).trans rfl
      go_region_law (first
        | (refine Kd.R_append_rows_step (Kd.int .u8) (w0 := ww.drew) (W := ww.drew) ww.drew.heap.size (by rfl) (.const (.slice none 0 0)) (.tmp 29) 22 5 (.int .u8 0) 1 rfl Try.underlying22 info5 rfl (by decide) (by omega) (.slice none 0 0) [] p.f1 _ _ _ (fun _ => True) (fun _ => False) rfl rfl (Kd.R_nil _ _ _ _ _) (Kd.C_drew N_HC.out) (fun _ _ h => h) (fun _ h => h.elim) (fun _ _ => trivial) (Below.refl _ _) (Nat.le_refl _) (by have := HM.out; simp; omega) ?_
           intro v30 w3 ho hb hg hat
           rw [List.nil_append] at ho
           obtain ⟨EA, ec, ev30⟩ := Kd.R_slice ho
           subst ev30
           have HE := Aside0.mk ho
           have HB3 := Aside0.mk hb
           clear ho hb hg hat
           have K3d := Aside0.mk (blk_below (blk_drew N_K3.out) HB3.out)
           have KPd := Aside0.mk (blk_below (blk_drew KP.out) HB3.out)
           clear x0 x1 x2 x3 u0 u1 u2 u3 ul pl pz0 pz1
           obtain ⟨x0, x1, x2, x3, u0, u1, u2, u3⟩ := blk_cells4 K3d.out
           have ul := blk_lt K3d.out
           have pl := blk_lt KPd.out
           have pz0 : w3.cell? ⟨bp, 0, none⟩ = some (.int .i64 p.f0) := (blk_cell KPd.out 0).trans rfl
           have pz1 : w3.cell? ⟨bp, 1, none⟩ = some (.slice A1' p.f1.length c1') := (blk_cell KPd.out 1).trans rfl)
        | (have hle : w.heap.size ≤ ww.drew.heap.size := N_HB.out.size
           have HR3 := Aside0.mk (Kd.R_below (Kd.R_drew N_HR.out) HB3.out)
           have HS3 := Aside0.mk (Kd.S_below (Kd.S_drew N_HS.out) HB3.out)
           have HBB := Aside0.mk (below_step (below_drew N_HB.out) HB3.out)
           have hE0 := Kd.R_base HE.out
           have hD0 := Kd.R_lt N_HR.out
           have hS0 := Kd.S_lt N_HS.out
           have dE := Aside0.mk hE0
           have dD := Aside0.mk hD0
           have dS := Aside0.mk hS0
           clear hE0 hD0 hS0
           refine Kd.S_append_step k60 (w0 := w) (W := w3) w.heap.size (by rfl) (.tmp 25) (.tmp 32) 23 60 (.agg #[(.int .i64 0), (.slice none 0 0)]) 32 rfl Try.underlying23 info60 rfl (by decide) (by omega) (.slice B1 n1 b1) (l1.take i) p [.int .i64 p.f0, .slice EA p.f1.length ec] (fun k_ => some k_ ≠ (.slice DA l0.length dc : Value).ownBlock) (fun k_ => some k_ = (.slice EA p.f1.length ec : Value).ownBlock) rfl rfl ?aP ?aK ?aF ?aO ?aB ?aS ?aL ?_
           case aP => exact k60_mkM _ _ _ p (Kd.R_tight rfl (Kd.R_lower HE.out hle))
           case aK => exact fun k hk => ⟨fun he => by have h1 := dE.out k hk.symm; have h2 := dD.out k he.symm; exact absurd h2 (Nat.not_lt.2 h1), fun he => by have h1 := dE.out k hk.symm; have h2 := dS.out k he.symm; exact absurd h2 (Nat.not_lt.2 h1)⟩
           case aF => exact fun k hk => Kd.fresh' (Kd.R_lt HR3.out) k hk
           case aO => exact Kd.S_mono HS3.out (fun k hk => ⟨hk.1, fun he => by have h1 := dE.out k he.symm; exact absurd hk.2.2.1 (Nat.not_lt.2 h1)⟩)
           case aB => exact HBB.out
           case aS => exact HBB.out.size
           case aL => (have := HN1.out; simp only [List.length_take]; omega)
           intro v33 w5 ho hb hg hat
           have HS5 := Aside0.mk ho
           have HB5 := Aside0.mk hb
           have HR5 := Aside0.mk (Kd.R_over' HR3.out (Kd.S_typed HS3.out) (by decide) hg)
           have K3e := Aside0.mk (blk_grown K3d.out hg (Kd.S_ne HS3.out K3d.out (by decide)))
           have K2d := blk_below (blk_drew N_K2.out) HB3.out
           have K2e := Aside0.mk (blk_grown K2d hg (Kd.S_ne HS3.out K2d (by decide)))
           clear ho hb hg hat K2d
           obtain ⟨GA, gc, ev33⟩ := Kd.S_slice HS5.out
           generalize hn5 : (l1.take i ++ [p]).length = n5 at ev33
           have HN5 := Aside0.mk hn5
           clear hn5
           subst ev33
           clear x0 x1 x2 x3 u0 u1 u2 u3 ul pl pz0 pz1
           obtain ⟨x0, x1, x2, x3, u0, u1, u2, u3⟩ := blk_cells4 K3e.out
           have ul := blk_lt K3e.out))
      all_goals
        go_wp2_with fail
        go_roundg (l1.length - (i + 1))
        case measure => have := HI.out; omega
        case rel =>
          refine ⟨i + 1, .slice GA n5 gc, by first | rfl | simp, ⟨by omega, rfl⟩, ⟨blk_far K2e.out (by simp) _⟩, ⟨blk_put K3e.out 1 _ rfl⟩, ⟨?_⟩, ⟨?_⟩, ⟨below_setB HB5.out (by omega) _ _⟩⟩
          · exact Kd.R_mono (Kd.R_far (p := ⟨w.heap.size + 1 + 1, 1, none⟩) (Kd.R_types HR5.out K3e.out (by decide)) (fun _ hk => hk.2) _) (fun _ _ => trivial)
          · rw [HP.out]
            exact Kd.S_mono (Kd.S_far (p := ⟨w.heap.size + 1 + 1, 1, none⟩) (Kd.S_types HS5.out K3e.out (by decide)) (fun _ hk => hk.2) _) (fun _ hk => hk.1)
    · have hi : i = l1.length := by have := HI.out; omega
      subst hi
      obtain ⟨z0, z1, z2, z3, y0, y1, y2, y3⟩ := blk_cells4 K2.out
      have yl := blk_lt K2.out
      go_wp2_with fail
      rw [List.take_length] at HSo
      refine bodyPost_ret (results_cell_row rfl _ _ (w.heap.size + 1) 25 #[.slice DA l0.length dc, .slice B1 n1 b1, .int .i64 a2, .bool a3] (0, 0) _ rfl (blk_set4 K2.out) Try.underlying25 rfl (by kernel_rfl)) rfl ⟨_, _, rfl, ?_, ?_, ?_⟩
      · exact Kd.R_mono (Kd.R_far (p := ⟨w.heap.size + 1, 3, none⟩) (Kd.R_far (p := ⟨w.heap.size + 1, 2, none⟩) (Kd.R_far (p := ⟨w.heap.size + 1, 1, none⟩) (Kd.R_far (p := ⟨w.heap.size + 1, 0, none⟩) (Kd.R_types HRo.out K2.out (by decide)) (fun _ hk => hk.2) _) (fun _ hk => hk.2) _) (fun _ hk => hk.2) _) (fun _ hk => hk.2) _) (fun _ _ => trivial)
      · exact Kd.S_mono (Kd.S_far (p := ⟨w.heap.size + 1, 3, none⟩) (Kd.S_far (p := ⟨w.heap.size + 1, 2, none⟩) (Kd.S_far (p := ⟨w.heap.size + 1, 1, none⟩) (Kd.S_far (p := ⟨w.heap.size + 1, 0, none⟩) (Kd.S_types HSo.out K2.out (by decide)) (fun _ hk => hk.2) _) (fun _ hk => hk.2) _) (fun _ hk => hk.2) _) (fun _ hk => hk.2) _) (fun _ hk => hk.1)
      · exact below_setB (below_setB (below_setB (below_setB HB.out (by omega) _ _) (by omega) _ _) (by omega) _ _) (by omega) _ _

/-! ### impl_Disk_powered: a text by hand -/
-- import Derived.Recover
-- import Derived.Defers
def lostP : PanicEntry := { v := .iface 81 (.agg #[]), recovered := false }
theorem ne_lost (W : World) : (binOp .neq 20 (.iface 81 (.agg #[])) (.iface 81 (.agg #[]))).run Try.prog W = .ok (.bool false) W := by
  rfl
set_option maxRecDepth 100000 in
theorem pow_catch (b : Nat) (v0 v1 : Value) (f : Int) (d : Bool) (w : World) (K : w.heap[b]? = some (.cells #[v0, v1, .int .i64 f, .bool d] 25 (0, 0))) :
    CallsD Try.prog 62 #[.pointer (some ⟨b, 0, none⟩)] (.panicking [{ v := .iface 81 (.agg #[]), recovered := false }]) w fun e u' w' =>
      e = .returned (.tuple #[]) ∧ u' = .panicking [{ v := .iface 81 (.agg #[]), recovered := true }] ∧ w' = w.setCell ⟨b, 3, none⟩ (.bool true) := by
  obtain ⟨z0, z1, z2, z3, y0, y1, y2, y3⟩ := blk_cells4 K
  have hu25 := Try.underlying25
  refine callsD_of_wpS Try.func62 rfl fun c₀ cs hu => ?_
  apply wpS_seq
  apply wpS_region
  simp [wpOpsS, go_sem, recoverD, hu, Try.ntmps62, Exit.thenS]
  refine wpS_of_wp ?_
  simp only [List.size_toArray, List.length_cons, List.length_nil, Array.replicate_succ, Array.replicate_zero, List.push_toArray, List.append_toArray, List.nil_append, List.cons_append, List.setIfInBounds_toArray, List.set_cons_zero, List.set_cons_succ]
  clear hu
  have hne := ne_lost
  have yl := blk_lt K
  clear K
  go_wp2_with fail
  simp [bodyPostS, results, Try.results62]
set_option maxRecDepth 100000 in
theorem pow_idle (b : Nat) (w : World) :
    CallsD Try.prog 62 #[.pointer (some ⟨b, 0, none⟩)] .returning w fun e u' w' =>
      e = .returned (.tuple #[]) ∧ u' = .returning ∧ w' = w := by
  refine callsD_of_wpS Try.func62 rfl fun c₀ cs hu => ?_
  apply wpS_seq
  apply wpS_region
  simp [wpOpsS, go_sem, recoverD, hu, Try.ntmps62, Exit.thenS]
  refine wpS_of_wp ?_
  simp only [List.size_toArray, List.length_cons, List.length_nil, Array.replicate_succ, Array.replicate_zero, List.push_toArray, List.append_toArray, List.nil_append, List.cons_append, List.setIfInBounds_toArray, List.set_cons_zero, List.set_cons_succ]
  go_wp2_with fail
  cases c₀
  simp_all [bodyPostS, results, Try.results62]

/-! ### impl_Disk_powered1: a text by hand -/
-- import Derived.Recover
-- import Derived.Defers
set_option maxRecDepth 100000 in
theorem pow1_dies (b bf g : Nat) (cap : Array Value) (w : World) (X : World → Prop) (hcf : ∀ (args : Array Value) (W : World), (callFunc g args).run Try.prog W = .ok (.enter g args) W) (hf : w.cell? ⟨bf, 0, none⟩ = some (.func (.func g) #[] cap))
    (HC : Calls Try.prog g (#[.pointer (some ⟨b, 0, none⟩)] ++ cap) w fun e w' => e = .panicked [{ v := .iface 81 (.agg #[]), recovered := false }] ∧ X w')
    (hX : ∀ w', X w' → ∃ v0 v1 f d, w'.heap[b]? = some (.cells #[v0, v1, .int .i64 f, .bool d] 25 (0, 0))) :
    Calls Try.prog 61 #[.pointer (some ⟨b, 0, none⟩), .pointer (some ⟨bf, 0, none⟩)] w fun e w' => e = .returned (.tuple #[]) ∧ ∃ w1, X w1 ∧ w' = w1.setCell ⟨b, 3, none⟩ (.bool true) := by
  have hmf : ∀ (fn : Fn) (first cap : Array Value) (w : World), (Instr.makeFunc fn first cap).run Try.prog w = .ok (.func fn first cap) w := fun _ _ _ _ => rfl
  go_enter_defers Try.func61, Try.ntmps61
  go_wp2_with fail
  refine HC.mono ?_
  rintro e w1 ⟨rfl, hx⟩
  obtain ⟨v0, v1, f, d, hb⟩ := hX w1 hx
  go_wp2_with fail
  refine leaves_cons (f := 62) (args := #[.pointer (some ⟨b, 0, none⟩)]) (by simp) (by simp [go_sem]) ?_
  refine (pow_catch b v0 v1 f d w1 hb).mono ?_
  rintro e u' w2 ⟨rfl, rfl, rfl⟩
  simp [Leaves, settle, results, Try.results61, go_sem]
  exact ⟨w1, hx, rfl⟩
set_option maxRecDepth 100000 in
theorem pow1_lives (b bf g : Nat) (cap : Array Value) (w : World) (X : World → Prop) (hcf : ∀ (args : Array Value) (W : World), (callFunc g args).run Try.prog W = .ok (.enter g args) W) (hf : w.cell? ⟨bf, 0, none⟩ = some (.func (.func g) #[] cap))
    (HC : Calls Try.prog g (#[.pointer (some ⟨b, 0, none⟩)] ++ cap) w fun e w' => e = .returned (.tuple #[]) ∧ X w') :
    Calls Try.prog 61 #[.pointer (some ⟨b, 0, none⟩), .pointer (some ⟨bf, 0, none⟩)] w fun e w' => e = .returned (.tuple #[]) ∧ X w' := by
  have hmf : ∀ (fn : Fn) (first cap : Array Value) (w : World), (Instr.makeFunc fn first cap).run Try.prog w = .ok (.func fn first cap) w := fun _ _ _ _ => rfl
  go_enter_defers Try.func61, Try.ntmps61
  go_wp2_with fail
  refine HC.mono ?_
  rintro e w1 ⟨rfl, hx⟩
  go_wp2_with fail
  refine leaves_cons (f := 62) (args := #[.pointer (some ⟨b, 0, none⟩)]) (by simp) (by simp [go_sem]) ?_
  refine (pow_idle b w1).mono ?_
  rintro e u' w2 ⟨rfl, rfl, rfl⟩
  simp [Leaves, settle, results, Try.results61, go_sem]
  exact hx

/-! ### impl_Disk_powered2: a text by hand -/
def PowX (lo b : Nat) (W : World) (r1 : List Int) (r2 : List S60) (r3 : Int) (r4 : Bool) (W' : World) : Prop :=
  ∃ (A B : Option Addr) (n c m d : Nat), W'.heap[b]? = some (.cells #[.slice A n c, .slice B m d, .int .i64 r3, .bool r4] 25 (0, 0)) ∧ Kd.R (Kd.int .u8) 5 W' lo (fun _ => True) (.slice A n c) r1 ∧ Kd.S k60 60 W' lo (fun k => some k ≠ (.slice A n c : Value).ownBlock) (.slice B m d) r2 ∧ Below lo W W'
set_option maxHeartbeats 4000000 in
set_option maxRecDepth 100000 in
theorem impl_Disk_powered.calls (g : Nat) (cap : Array Value) (hcf : ∀ (args : Array Value) (W : World), (callFunc g args).run Try.prog W = .ok (.enter g args) W) (A0 : Option Addr) (c0 : Nat) (l0 : List Int) (A1 : Option Addr) (c1 : Nat) (l1 : List S60) (a2 : Int) (a3 : Bool) (w : World) (hr0 : Kd.C (Kd.int .u8) w A0 l0.length l0) (hc0 : l0.length ≤ c0) (hr1 : Kd.C k60 w A1 l1.length l1) (hc1 : l1.length ≤ c1) (h0 : l0.length ≤ 1048576) (hok : okPendS l1)
    (die : Bool) (r1 : List Int) (r2 : List S60) (r3 : Int) (r4 : Bool)
    (HC : ∀ (lo b : Nat) (W : World), w.heap.size ≤ lo → lo ≤ b → Below w.heap.size w W → PowX lo b W l0 l1 a2 a3 W →
      Calls Try.prog g (#[.pointer (some ⟨b, 0, none⟩)] ++ cap) W fun e W' => e = (if die = true then .panicked [{ v := .iface 81 (.agg #[]), recovered := false }] else .returned (.tuple #[])) ∧ PowX lo b W r1 r2 r3 r4 W') :
    Calls Try.prog 50 #[.agg #[.slice A0 l0.length c0, .slice A1 l1.length c1, .int .i64 a2, .bool a3], .func (.func g) #[] cap] w fun e w' => ∃ v0_ v1_ : Value, e = .returned (.agg #[v0_, v1_, .int .i64 r3, .bool (r4 || die)]) ∧ Kd.R (Kd.int .u8) 5 w' w.heap.size (fun _ => True) v0_ r1 ∧ Kd.S k60 60 w' w.heap.size (fun k_ => some k_ ≠ (v0_ : Value).ownBlock) v1_ r2 ∧ Below w.heap.size w w' := by
  have HR0 := Aside0.mk hr0
  have HC0 := Aside0.mk hc0
  have HR1 := Aside0.mk hr1
  have HC1 := Aside0.mk hc1
  have HCB := Aside0.mk HC
  have HCF := Aside0.mk hcf
  have HOK := Aside0.mk hok
  have HL0 := Aside0.mk h0
  clear hr0 hc0 hr1 hc1 HC hcf hok h0
  have hu25 := Try.underlying25
  have hmf : ∀ (fn : Fn) (first cap : Array Value) (w : World), (Instr.makeFunc fn first cap).run Try.prog w = .ok (.func fn first cap) w := fun _ _ _ _ => rfl
  have HB := Aside0.mk (Below.refl w.heap.size w)
  go_enter Try.func50, Try.ntmps50
  go_wp2_with fail
  refine (impl_Disk_clone.calls _ _ l0 _ _ l1 a2 a3 _ (Kd.C_alloc (Kd.C_alloc (Kd.C_alloc HR0.out _) _) _) HC0.out (Kd.C_alloc (Kd.C_alloc (Kd.C_alloc HR1.out _) _) _) HC1.out HL0.out HOK.out).mono ?_
  rintro e w1 ⟨v0, v1, rfl, hR, hS, gb⟩
  obtain ⟨DA, dc, rfl⟩ := Kd.R_slice hR
  obtain ⟨EA, ec, rfl⟩ := Kd.S_slice hS
  have K3 := Aside0.mk (blk_below (blk_alloc (blk_new2 w _ _) _) gb)
  have K4 := Aside0.mk (blk_below (blk_new3 w _ _ _) gb)
  have N_HB := Aside0.mk (below_step (below_alloc (below_alloc (below_alloc HB.out _) _) _) gb)
  clear HB
  have HB := N_HB
  clear N_HB
  simp only [World.size_alloc] at hR hS gb
  have hsz := gb.size
  have k4 := blk_lt K4.out
  have k3 := blk_lt K3.out
  clear gb
  go_wp2_with fail
  have W0 := below_alloc HB.out (.cells #[.slice DA l0.length dc, .slice EA l1.length ec, .int .i64 a2, .bool a3] 25)
  have hX0 : PowX (w.heap.size + 1 + 1 + 1) w1.heap.size (w1.alloc (.cells #[.slice DA l0.length dc, .slice EA l1.length ec, .int .i64 a2, .bool a3] 25)) l0 l1 a2 a3 (w1.alloc (.cells #[.slice DA l0.length dc, .slice EA l1.length ec, .int .i64 a2, .bool a3] 25)) :=
    ⟨DA, EA, _, dc, _, ec, blk_new _ _, Kd.R_alloc hR _, Kd.S_alloc hS _, ⟨rfl, rfl, rfl, Nat.le_refl _, fun _ _ => rfl⟩⟩
  have hC := HCB.out (w.heap.size + 1 + 1 + 1) w1.heap.size _ (by omega) (by have := HB.out.size; simpa using hsz) W0 hX0
  have hcell : (w1.alloc (.cells #[.slice DA l0.length dc, .slice EA l1.length ec, .int .i64 a2, .bool a3] 25)).cell? ⟨w.heap.size + 1, 0, none⟩ = some (.func (.func g) #[] cap) := (blk_cell (blk_alloc K3.out _) 0).trans rfl
  have K4a := Aside0.mk (blk_alloc K4.out (.cells #[.slice DA l0.length dc, .slice EA l1.length ec, .int .i64 a2, .bool a3] 25))
  generalize hW : w1.alloc (.cells #[.slice DA l0.length dc, .slice EA l1.length ec, .int .i64 a2, .bool a3] 25) = W at *
  have HW := Aside0.mk hW
  have HWB := Aside0.mk W0
  clear hW hX0 W0 hR hS K3 K4 k3 k4
  have hb5 : w.heap.size + 1 + 1 + 1 ≤ w1.heap.size := by simpa using hsz
  clear hsz
  generalize w1.heap.size = b5 at *
  cases die with
  | true =>
    refine (pow1_dies b5 (w.heap.size + 1) g cap W (PowX (w.heap.size + 1 + 1 + 1) b5 W r1 r2 r3 r4) HCF.out hcell (by simpa using hC) (fun w' hx => by obtain ⟨A, B, n, c, m, d, hb, _⟩ := hx; exact ⟨_, _, _, _, hb⟩)).mono ?_
    rintro e w3 ⟨rfl, w2, ⟨A, B, n, c, m, d, hb, hR, hS, hbb⟩, rfl⟩
    have K5 := Aside0.mk (blk_put hb 3 (.bool true) rfl)
    have K4c := Aside0.mk (show (w2.setCell ⟨b5, 3, none⟩ (.bool true)).heap[w.heap.size + 1 + 1]? = _ from blk_far ((hbb.block _ (by omega)).trans K4a.out) (by show w.heap.size + 1 + 1 ≠ b5; omega) _)
    have HR5 := Aside0.mk (Kd.R_mono (Kd.R_far (p := ⟨b5, 3, none⟩) (Kd.R_types hR hb (by decide)) (fun _ hk => hk.2) (.bool true)) (ok' := fun _ => True) (fun _ _ => trivial))
    have HS5 := Aside0.mk (Kd.S_mono (Kd.S_far (p := ⟨b5, 3, none⟩) (Kd.S_types hS hb (by decide)) (fun _ hk => hk.2) (.bool true)) (ok' := fun k => some k ≠ (.slice A n c : Value).ownBlock) (fun _ hk => hk.1))
    have HB5 := Aside0.mk (show Below (w.heap.size + 1 + 1 + 1) W (w2.setCell ⟨b5, 3, none⟩ (.bool true)) from hbb.setCell hb5 _)
    clear hb hR hS hbb hcell hC
    generalize w2.setCell ⟨b5, 3, none⟩ (.bool true) = w3 at *
    obtain ⟨z0, z1, z2, z3, y0, y1, y2, y3⟩ := blk_cells4 K5.out
    obtain ⟨x0, x1, x2, x3, u0, u1, u2, u3⟩ := blk_cells4 K4c.out
    have yl := blk_lt K5.out
    have ul := blk_lt K4c.out
    go_wp2_with fail
    refine bodyPost_ret (results_cell_row rfl _ _ (w.heap.size + 1 + 1) 25 #[.slice A n c, .slice B m d, .int .i64 r3, .bool true] (0, 0) _ rfl (blk_set4 K4c.out) Try.underlying25 rfl (by kernel_rfl)) rfl ⟨.slice A n c, .slice B m d, by simp, ?_, ?_, ?_⟩
    · exact Kd.R_lower (R_farB (R_farB (R_farB (R_farB HR5.out (by omega) _ _) (by omega) _ _) (by omega) _ _) (by omega) _ _) (by omega)
    · exact Kd.S_lower (S_farB (S_farB (S_farB (S_farB HS5.out (by omega) _ _) (by omega) _ _) (by omega) _ _) (by omega) _ _) (by omega)
    · exact below_setB (below_setB (below_setB (below_setB (below_weaken HWB.out (by omega) HB5.out) (by omega) _ _) (by omega) _ _) (by omega) _ _) (by omega) _ _
  | false =>
    refine (pow1_lives b5 (w.heap.size + 1) g cap W (PowX (w.heap.size + 1 + 1 + 1) b5 W r1 r2 r3 r4) HCF.out hcell (by simpa using hC)).mono ?_
    rintro e w3 ⟨rfl, A, B, n, c, m, d, hb, hR, hS, hbb⟩
    have K5 := Aside0.mk hb
    have K4c := Aside0.mk ((hbb.block _ (by omega)).trans K4a.out)
    have HR5 := Aside0.mk hR
    have HS5 := Aside0.mk hS
    have HB5 := Aside0.mk hbb
    clear hb hR hS hbb hcell hC
    obtain ⟨z0, z1, z2, z3, y0, y1, y2, y3⟩ := blk_cells4 K5.out
    obtain ⟨x0, x1, x2, x3, u0, u1, u2, u3⟩ := blk_cells4 K4c.out
    have yl := blk_lt K5.out
    have ul := blk_lt K4c.out
    go_wp2_with fail
    refine bodyPost_ret (results_cell_row rfl _ _ (w.heap.size + 1 + 1) 25 #[.slice A n c, .slice B m d, .int .i64 r3, .bool r4] (0, 0) _ rfl (blk_set4 K4c.out) Try.underlying25 rfl (by kernel_rfl)) rfl ⟨.slice A n c, .slice B m d, by simp, ?_, ?_, ?_⟩
    · exact Kd.R_lower (R_farB (R_farB (R_farB (R_farB HR5.out (by omega) _ _) (by omega) _ _) (by omega) _ _) (by omega) _ _) (by omega)
    · exact Kd.S_lower (S_farB (S_farB (S_farB (S_farB HS5.out (by omega) _ _) (by omega) _ _) (by omega) _ _) (by omega) _ _) (by omega)
    · exact below_setB (below_setB (below_setB (below_setB (below_weaken HWB.out (by omega) HB5.out) (by omega) _ _) (by omega) _ _) (by omega) _ _) (by omega) _ _

/-! ### impl_Disk_spend: a text by hand -/
set_option maxRecDepth 100000 in
theorem spend_dies (b : Nat) (v0 v1 : Value) (d : Bool) (w : World) (K : w.heap[b]? = some (.cells #[v0, v1, .int .i64 0, .bool d] 25 (0, 0))) :
    Calls Try.prog 63 #[.pointer (some ⟨b, 0, none⟩)] w fun e w' => e = .panicked [{ v := .iface 81 (.agg #[]), recovered := false }] ∧ w' = w := by
  have hu25 := Try.underlying25
  obtain ⟨z0, z1, z2, z3, y0, y1, y2, y3⟩ := blk_cells4 K
  have yl := blk_lt K
  clear K
  have hpn : ∀ (t : TypeId) (v : Value) (W : World), (Instr.panic (.iface t v)).run Try.prog W = .halt (.panic (.iface t v)) W := fun _ _ _ => rfl
  go_enter Try.func63, Try.ntmps63
  go_wp2_with fail
  exact ⟨rfl, rfl, rfl⟩
set_option maxRecDepth 100000 in
theorem spend_ok (b : Nat) (v0 v1 : Value) (f : Int) (d : Bool) (w : World) (hf : f ≠ 0) (h1 : -1 ≤ f) (h2 : f ≤ 1000000) (K : w.heap[b]? = some (.cells #[v0, v1, .int .i64 f, .bool d] 25 (0, 0))) :
    Calls Try.prog 63 #[.pointer (some ⟨b, 0, none⟩)] w fun e w' => e = .returned (.tuple #[]) ∧ w' = if 0 < f then w.setCell ⟨b, 2, none⟩ (.int .i64 (f - 1)) else w := by
  have hu25 := Try.underlying25
  obtain ⟨z0, z1, z2, z3, y0, y1, y2, y3⟩ := blk_cells4 K
  have yl := blk_lt K
  clear K
  go_enter Try.func63, Try.ntmps63
  have c0 : (f == 0) = false := beq_eq_false_iff_ne.2 hf
  by_cases hp : 0 < f
  · rw [if_pos hp]
    go_wp2_with fail
    go_end0
    exact ⟨rfl, rfl⟩
  · rw [if_neg hp]
    go_wp2_with fail
    go_end0
    exact ⟨rfl, rfl⟩

/-! ### impl_Disk_sync: a text by hand -/
-- import Derived.Laws.CopyOwn
-- import Derived.Deep.RegionLaw
def syF (l0 : List Int) (l1 : List S60) : Nat → List Int
  | 0 => l0
  | i + 1 => ovr (syF l0 l1 i) (rd_T60 l1 (i : Int)).f0 (rd_T60 l1 (i : Int)).f1
theorem syF_len (l0 : List Int) (l1 : List S60) (h : ∀ x ∈ l1, 0 ≤ x.f0 ∧ x.f0 < ((l0.length / 64 : Nat) : Int) ∧ x.f1.length = 64) : ∀ i, i ≤ l1.length → (syF l0 l1 i).length = l0.length := by
  intro i
  induction i with
  | zero => intro _; rfl
  | succ i ih =>
    intro hi
    have h1 := ih (by omega)
    have hx := h _ (rdP_mem l1 i (by omega))
    unfold syF
    rw [ovr_len _ _ _ (by rw [h1, hx.2.2]; omega), h1]
def fuelD (f : Int) : Int := if 0 < f then f - 1 else f
set_option maxHeartbeats 4000000 in
set_option maxRecDepth 100000 in
theorem sync_dies (lo b : Nat) (W : World) (l0 : List Int) (l1 : List S60) (a3 : Bool) (h : PowX lo b W l0 l1 0 a3 W) :
    Calls Try.prog 54 #[.pointer (some ⟨b, 0, none⟩)] W fun e W' => e = .panicked [{ v := .iface 81 (.agg #[]), recovered := false }] ∧ PowX lo b W l0 l1 0 a3 W' := by
  obtain ⟨A, B, n, c, m, d, hb, hR, hS, hB⟩ := h
  go_enter Try.func54, Try.ntmps54
  go_wp2_with fail
  refine (spend_dies b _ _ _ _ hb).mono ?_
  rintro e w' ⟨rfl, rfl⟩
  go_wp2_with fail
  exact ⟨rfl, rfl, A, B, n, c, m, d, hb, hR, hS, hB⟩
set_option maxHeartbeats 4000000 in
set_option maxRecDepth 100000 in
theorem sync_lives (lo b : Nat) (W : World) (l0 : List Int) (l1 : List S60) (a2 : Int) (a3 : Bool) (hv : vD l0 l1 a2 = true) (hf : a2 ≠ 0) (hlo : lo ≤ b) (h : PowX lo b W l0 l1 a2 a3 W) :
    Calls Try.prog 54 #[.pointer (some ⟨b, 0, none⟩)] W fun e W' => e = .returned (.tuple #[]) ∧ PowX lo b W (syF l0 l1 l1.length) [] (fuelD a2) a3 W' := by
  have HP := Aside0.mk (vD_facts hv)
  obtain ⟨A, B, n, c, m, d, hb, hR, hS, hB⟩ := h
  have hn := (Kd.R_reads' hR).1
  have hm := (Kd.S_reads' hS).1
  subst hn hm
  obtain ⟨g, c', tail, e_, hlg, _, hcm, hg, hcc⟩ := R_row hR (by have := HP.out.2.1; omega)
  cases e_
  have HLG := Aside0.mk hlg
  have HCM := Aside0.mk hcm
  have HCC := Aside0.mk hcc
  have HG0 := Aside0.mk hg
  have HS0 := Aside0.mk hS
  have HB0 := Aside0.mk hB
  have K0 := Aside0.mk hb
  have HF := Aside0.mk hf
  have hgb : g ≠ b := blk_ne hg hb (by decide)
  clear hR hS hB hb hlg hcm hcc hg hv hf
  have hu25 := Try.underlying25
  have hu60 := Try.underlying60
  go_enter Try.func54, Try.ntmps54
  go_wp2_with fail
  refine (spend_ok b _ _ a2 a3 _ HF.out HP.out.2.2.2.2.1 HP.out.2.2.2.2.2.1 K0.out).mono ?_
  rintro e w1 ⟨rfl, hw1⟩
  have K1 := Aside0.mk (show w1.heap[b]? = some (.cells #[.slice (some ⟨g, 0, none⟩) l0.length c, .slice B l1.length d, .int .i64 (fuelD a2), .bool a3] 25 (0, 0)) by
    rw [hw1]; unfold fuelD; split
    · exact blk_put K0.out 2 _ rfl
    · exact K0.out)
  have HG1 := Aside0.mk (show w1.heap[g]? = some (.cells (l0.map (Value.int .u8) ++ tail).toArray 5 (0, 0)) by
    rw [hw1]; split
    · exact blk_far HG0.out hgb _
    · exact HG0.out)
  have HS1 := Aside0.mk (show Kd.S k60 60 w1 lo (fun k => some k ≠ (.slice (some ⟨g, 0, none⟩) l0.length c : Value).ownBlock) (.slice B l1.length d) l1 by
    rw [hw1]; split
    · exact Kd.S_mono (Kd.S_far (p := ⟨b, 2, none⟩) (Kd.S_types HS0.out K0.out (by decide)) (fun _ hk => hk.2) _) (fun _ hk => hk.1)
    · exact HS0.out)
  have HB1 := Aside0.mk (show Below lo W w1 by
    rw [hw1]; split
    · exact HB0.out.setCell hlo _
    · exact HB0.out)
  clear K0 HG0 HS0 HB0 hw1
  obtain ⟨z0, z1, z2, z3, y0, y1, y2, y3⟩ := blk_cells4 K1.out
  have yl := blk_lt K1.out
  go_wp2_with fail
  go_loopg [11] l1.length (fun kq v11 w' => ∃ (i : Nat), v11 = .int .i64 i ∧ Aside0 (i ≤ l1.length ∧ kq = l1.length - i) ∧ Aside0 (w'.heap[g]? = some (.cells ((syF l0 l1 i).map (Value.int .u8) ++ tail).toArray 5 (0, 0))) ∧ Aside0 (w'.heap[b]? = some (.cells #[.slice (some ⟨g, 0, none⟩) l0.length c, .slice B l1.length d, .int .i64 (fuelD a2), .bool a3] 25 (0, 0))) ∧ Aside0 (Kd.S k60 60 w' lo (fun k => some k ≠ (.slice (some ⟨g, 0, none⟩) l0.length c : Value).ownBlock) (.slice B l1.length d) l1) ∧ Aside0 (Below lo W w'))
  case atStart => exact ⟨0, rfl, ⟨by omega, rfl⟩, ⟨HG1.out⟩, ⟨K1.out⟩, ⟨HS1.out⟩, ⟨HB1.out⟩⟩
  case round =>
    clear z0 z1 z2 z3 y0 y1 y2 y3 yl K1 HG1 HS1 HB1
    obtain ⟨i, rfl, HI, HG, K5, HS, HBr⟩ := hrel
    by_cases ci : (i : Int) < (l1.length : Int)
    · obtain ⟨ad, A1', c1', e_, hx0, hx1, hl, hC⟩ := at_T60 (Kd.S_reads' HS.out).2.2 (i : Int) (by omega) (by omega)
      subst e_
      rw [Int.toNat_natCast] at hx0 hx1
      have HM := Aside0.mk (HP.out.2.2.2.2.2.2 _ (rdP_mem l1 i (by omega)))
      have HCL := Aside0.mk (syF_len l0 l1 HP.out.2.2.2.2.2.2 i (by omega))
      have HCR := Aside0.mk (show syF l0 l1 (i + 1) = ovr (syF l0 l1 i) (rd_T60 l1 (i : Int)).f0 (rd_T60 l1 (i : Int)).f1 from rfl)
      have HC := Aside0.mk hC
      clear hC hl
      rw [HM.out.2.2] at hx1
      generalize rd_T60 l1 (i : Int) = p at *
      have hil : l1.length ≤ 2000 := HP.out.2.2.2.1
      obtain ⟨z0, z1, z2, z3, y0, y1, y2, y3⟩ := blk_cells4 K5.out
      have yl := blk_lt K5.out
      go_wp2_with fail
      have N_K5 := Aside0.mk (blk_alloc K5.out (.cells #[.int .i64 p.f0, .slice A1' 64 c1'] 60))
      have N_HG := Aside0.mk (blk_alloc HG.out (.cells #[.int .i64 p.f0, .slice A1' 64 c1'] 60))
      have N_HB := Aside0.mk (HBr.out.alloc (by have := blk_lt K5.out; omega) (.cells #[.int .i64 p.f0, .slice A1' 64 c1'] 60))
      have N_HC := Aside0.mk (Kd.C_alloc HC.out (.cells #[.int .i64 p.f0, .slice A1' 64 c1'] 60))
      have N_HS := Aside0.mk (Kd.S_alloc HS.out (.cells #[.int .i64 p.f0, .slice A1' 64 c1'] 60))
      have KP := Aside0.mk (blk_new wr (.cells #[.int .i64 p.f0, .slice A1' 64 c1'] 60))
      clear K5 HG HBr HC HS z0 z1 z2 z3 y0 y1 y2 y3 yl hx0 hx1
      generalize hww : wr.alloc (.cells #[.int .i64 p.f0, .slice A1' 64 c1'] 60) = ww at *
      have HWW := Aside0.mk hww
      clear hww
      obtain ⟨z0, z1, z2, z3, y0, y1, y2, y3⟩ := blk_cells4 N_K5.out
      have yl := blk_lt N_K5.out
      have pz0 : ww.cell? ⟨wr.heap.size, 0, none⟩ = some (.int .i64 p.f0) := (blk_cell KP.out 0).trans rfl
      have pz1 : ww.cell? ⟨wr.heap.size, 1, none⟩ = some (.slice A1' 64 c1') := (blk_cell KP.out 1).trans rfl
      have b0 : 0 ≤ p.f0 := HM.out.1
      have b1 : p.f0 * 64 + 64 ≤ (l0.length : Int) := by have := HM.out.2.1; omega
      have b2 : l0.length ≤ c := by have := HCC.out; omega
      have b3 : l0.length ≤ 65599 := HP.out.2.2.1
      have b4 : ¬ c = (p.f0 * 64).toNat := by omega
      have b5 : IntKind.i64.wrap (p.f0 * 64) = p.f0 * 64 := by rw [i64_w]; unfold wrap64; omega
      have b6 : p.f0 * 64 ≤ (l0.length : Int) := by omega
      have b7 : 0 ≤ p.f0 * 64 := by omega
      obtain ⟨aq, ea, hcs⟩ := C_cells N_HC.out (by rw [HM.out.2.2]; decide)
      have HCS := Aside0.mk hcs
      clear hcs
      subst ea
      have HCL2 := HCL.out
      go_region_law (refine step_copy_at rfl (.tmp 22) (.tmp 24) 22 22 rfl 5 Try.underlying22 (by kernel_rfl) g (p.f0 * 64).toNat _ _ aq _ _ (by first | rfl | (simp [Act.eval, Act.put]; done)) (by first | rfl | (simp [Act.eval, Act.put]; done)) ((syF l0 l1 i).map (Value.int .u8) ++ tail) 5 N_HG.out (p.f1.map (Value.int .u8)) ?hn ?hsrc ?hfit ?h1 ?_; (case hn => (rw [List.length_map, HM.out.2.2]; show 64 = min 64 _; omega)); (case hsrc => exact HCS.out); (case hfit => (have := HM.out.2.2; simp; omega)); (case h1 => (simp [Value.oneCell'])); intro w4 hw4; have HW4 := Aside0.mk hw4; clear hw4)
      all_goals go_wp2_with fail
      all_goals
        go_roundg (l1.length - (i + 1))
        case measure => have := HI.out; omega
        case rel =>
          rw [HW4.out, ovr_cells _ _ _ _ (by have := HM.out.2.2; omega), ← HCR.out]
          exact ⟨i + 1, by first | rfl | simp, ⟨by omega, rfl⟩, ⟨setRow_heap _ _ _ _ _ _ N_HG.out⟩, ⟨(setRow_other _ _ _ _ (Ne.symm hgb)).trans N_K5.out⟩, ⟨Kd.S_step (Kd.S_drew N_HS.out) (fun k hk _ => setRow_other _ _ _ _ (fun he => hk (by rw [he]; rfl)))⟩, ⟨below_row N_HB.out.drew HLG.out _⟩⟩
    · have hi : i = l1.length := by have := HI.out; omega
      subst hi
      obtain ⟨z0, z1, z2, z3, y0, y1, y2, y3⟩ := blk_cells4 K5.out
      have yl := blk_lt K5.out
      go_wp2_with fail
      go_end0
      have hcl := syF_len l0 l1 HP.out.2.2.2.2.2.2 l1.length (Nat.le_refl _)
      have hR := R_of_row (base := lo) (ok := fun k => k ≠ b) (cap := c) HG.out HLG.out hgb HCM.out (by rw [hcl]; exact HCC.out)
      rw [hcl] at hR
      exact ⟨rfl, some ⟨g, 0, none⟩, none, l0.length, c, 0, 0, blk_put K5.out 1 _ rfl, Kd.R_mono (Kd.R_far (p := ⟨b, 1, none⟩) hR (fun k hk => hk) _) (fun _ _ => trivial), Kd.S_nil _ _ _ _ _, HBr.out.setCell hlo _⟩

/-! ### impl_Disk_write: a text by hand -/
-- import Derived.Deep.RegionLaw
set_option maxHeartbeats 4000000 in
set_option maxRecDepth 100000 in
theorem write_dies (lo b : Nat) (W : World) (l0 : List Int) (l1 : List S60) (a3 : Bool) (s : Int) (xs : List Int) (hlo : lo ≤ b) (h : PowX lo b W l0 l1 0 a3 W) :
    Calls Try.prog 52 #[.pointer (some ⟨b, 0, none⟩), .int .i64 s, .agg (xs.map (Value.int .u8)).toArray] W fun e W' => e = .panicked [{ v := .iface 81 (.agg #[]), recovered := false }] ∧ PowX lo b W l0 l1 0 a3 W' := by
  obtain ⟨A, B, n, c, m, d, hb, hR, hS, hB⟩ := h
  have hl := blk_lt hb
  go_enter Try.func52, Try.ntmps52
  go_wp2_with fail
  refine (spend_dies b _ _ _ _ (blk_alloc hb _)).mono ?_
  rintro e w' ⟨rfl, rfl⟩
  go_wp2_with fail
  exact ⟨rfl, rfl, A, B, n, c, m, d, blk_alloc hb _, Kd.R_alloc hR _, Kd.S_alloc hS _, hB.alloc (by omega) _⟩
set_option maxHeartbeats 4000000 in
set_option maxRecDepth 100000 in
theorem write_lives (lo b : Nat) (W : World) (l0 : List Int) (l1 : List S60) (a2 : Int) (a3 : Bool) (s : Int) (xs : List Int) (hx : xs.length = 64) (hv : vD l0 l1 a2 = true) (hf : a2 ≠ 0) (hlo : lo ≤ b) (h : PowX lo b W l0 l1 a2 a3 W) :
    Calls Try.prog 52 #[.pointer (some ⟨b, 0, none⟩), .int .i64 s, .agg (xs.map (Value.int .u8)).toArray] W fun e W' => e = .returned (.tuple #[]) ∧ PowX lo b W l0 (l1 ++ [⟨s, xs⟩]) (fuelD a2) a3 W' := by
  have HP := Aside0.mk (vD_facts hv)
  have HX := Aside0.mk hx
  obtain ⟨A, B, n, c, m, d, hb, hR, hS, hB⟩ := h
  have hn := (Kd.R_reads' hR).1
  have hm := (Kd.S_reads' hS).1
  subst hn hm
  have HR0 := Aside0.mk (Kd.R_bound hR)
  have HS0 := Aside0.mk (Kd.S_bound hS)
  have HB0 := Aside0.mk hB
  have K0 := Aside0.mk hb
  have HF := Aside0.mk hf
  clear hR hS hB hb hv hf hx
  have hu25 := Try.underlying25
  have hu60 := Try.underlying60
  go_enter Try.func52, Try.ntmps52
  go_wp2_with fail
  refine (spend_ok b _ _ a2 a3 _ HF.out HP.out.2.2.2.2.1 HP.out.2.2.2.2.2.1 (blk_alloc K0.out _)).mono ?_
  rintro e w1 ⟨rfl, hw1⟩
  have KB := Aside0.mk (show w1.heap[W.heap.size]? = some (.cells (xs.map (Value.int .u8)).toArray 64 (0, 0)) by
    have hl := blk_lt K0.out
    rw [hw1]; split
    · exact blk_far (blk_new _ _) (show W.heap.size ≠ b by omega) _
    · exact blk_new _ _)
  have K1 := Aside0.mk (show w1.heap[b]? = some (.cells #[.slice A l0.length c, .slice B l1.length d, .int .i64 (fuelD a2), .bool a3] 25 (0, 0)) by
    rw [hw1]; unfold fuelD; split
    · exact blk_put (blk_alloc K0.out _) 2 _ rfl
    · exact blk_alloc K0.out _)
  have HR1 := Aside0.mk (show Kd.R (Kd.int .u8) 5 w1 lo (fun _ => True) (.slice A l0.length c) l0 by
    have hR := Kd.R_alloc HR0.out (.cells (xs.map (Value.int .u8)).toArray 64)
    rw [hw1]; split
    · exact Kd.R_mono (Kd.R_far (p := ⟨b, 2, none⟩) (Kd.R_types hR (blk_alloc K0.out _) (by decide)) (fun _ hk => hk.2) _) (fun _ _ => trivial)
    · exact Kd.R_mono hR (fun _ _ => trivial))
  have HS1 := Aside0.mk (show Kd.S k60 60 w1 lo (fun k => some k ≠ (.slice A l0.length c : Value).ownBlock) (.slice B l1.length d) l1 by
    have hS := Kd.S_alloc HS0.out (.cells (xs.map (Value.int .u8)).toArray 64)
    rw [hw1]; split
    · exact Kd.S_mono (Kd.S_far (p := ⟨b, 2, none⟩) (Kd.S_types hS (blk_alloc K0.out _) (by decide)) (fun _ hk => hk.2) _) (fun _ hk => hk.1.1)
    · exact Kd.S_mono hS (fun _ hk => hk.1))
  have HB1 := Aside0.mk (show Below lo W w1 by
    have hl := blk_lt K0.out
    rw [hw1]; split
    · exact (HB0.out.alloc (by omega) _).setCell hlo _
    · exact HB0.out.alloc (by omega) _)
  clear K0 HR0 HS0 HB0 hw1
  obtain ⟨x0, x1, x2, x3, u0, u1, u2, u3⟩ := blk_cells4 K1.out
  have ul := blk_lt K1.out
  have pl := blk_lt KB.out
  have hbB : lo ≤ w1.heap.size := by omega
  have hm5 : l1.length ≤ 2000 := HP.out.2.2.2.1
  have hC := Aside0.mk (show Kd.C (Kd.int .u8) w1 (some ⟨W.heap.size, 0, none⟩) xs.length xs from (Kd.R_reads' (R_of_row (e := 64) (base := 0) (ok := fun _ => True) (cap := xs.length) (tail := []) (by rw [List.append_nil]; exact KB.out) (Nat.zero_le _) trivial (by rw [HX.out]; decide) (by simp))).2.2)
  generalize W.heap.size = bp at *
  go_wp2_with fail
  go_region_law (first
    | (refine Kd.R_append_rows_step (Kd.int .u8) (w0 := w1.drew) (W := w1.drew) w1.drew.heap.size (by rfl) (.const (.slice none 0 0)) (.tmp 14) 22 5 (.int .u8 0) 1 rfl Try.underlying22 info5 rfl (by decide) (by omega) (.slice none 0 0) [] xs _ _ _ (fun _ => True) (fun _ => False) rfl (by rw [HX.out]; rfl) (Kd.R_nil _ _ _ _ _) (Kd.C_drew hC.out) (fun _ _ h => h) (fun _ h => h.elim) (fun _ _ => trivial) (Below.refl _ _) (Nat.le_refl _) (by have := HX.out; simp; omega) ?_
       intro v30 w3 ho hb hg hat
       rw [List.nil_append] at ho
       obtain ⟨EA, ec, ev30⟩ := Kd.R_slice ho
       subst ev30
       have HE := Aside0.mk ho
       have HB3 := Aside0.mk hb
       clear ho hb hg hat
       have K3d := Aside0.mk (blk_below (blk_drew K1.out) HB3.out)
       clear x0 x1 x2 x3 u0 u1 u2 u3 ul pl
       obtain ⟨x0, x1, x2, x3, u0, u1, u2, u3⟩ := blk_cells4 K3d.out
       have ul := blk_lt K3d.out)
    | (have hle : lo ≤ w1.drew.heap.size := hbB
       have HR3 := Aside0.mk (Kd.R_below (Kd.R_drew HR1.out) HB3.out)
       have HS3 := Aside0.mk (Kd.S_below (Kd.S_drew (Kd.S_bound HS1.out)) HB3.out)
       have HBB := Aside0.mk (below_then (below_drew HB1.out) hle HB3.out)
       have hE0 := Kd.R_base HE.out
       have hS0 := Kd.S_lt HS1.out
       have hD0 := Kd.R_lt HR1.out
       have dE := Aside0.mk hE0
       have dD := Aside0.mk hD0
       have dS := Aside0.mk hS0
       clear hE0 hD0 hS0
       refine Kd.S_append_step k60 (w0 := W) (W := w3) lo (by rfl) (.tmp 12) (.tmp 17) 23 60 (.agg #[(.int .i64 0), (.slice none 0 0)]) 32 rfl Try.underlying23 info60 rfl (by decide) (by omega) (.slice B l1.length d) l1 ⟨s, xs⟩ [.int .i64 s, .slice EA xs.length ec] (fun k_ => some k_ ≠ (.slice A l0.length c : Value).ownBlock) (fun k_ => some k_ = (.slice EA xs.length ec : Value).ownBlock) rfl rfl ?aP ?aK ?aF ?aO ?aB ?aS ?aL ?_
       case aP => exact k60_mkM _ _ _ (⟨s, xs⟩ : S60) (Kd.R_tight rfl (Kd.R_lower HE.out hle))
       case aK => exact fun k hk => ⟨fun he => by have h1 := dE.out k hk.symm; have h2 := dD.out k he.symm; exact absurd h2 (Nat.not_lt.2 h1), fun he => by have h1 := dE.out k hk.symm; have h2 := dS.out k he.symm; exact absurd h2 (Nat.not_lt.2 h1)⟩
       case aF => exact fun k hk => Kd.fresh' (Kd.R_lt HR3.out) k hk
       case aO => exact Kd.S_mono HS3.out (fun k hk => ⟨hk.1, fun he => by have h1 := dE.out k he.symm; exact absurd hk.2.2.1 (Nat.not_lt.2 h1)⟩)
       case aB => exact HBB.out
       case aS => exact Nat.le_trans hle HB3.out.size
       case aL => omega
       intro v33 w5 ho hb hg hat
       have HS5 := Aside0.mk ho
       have HB5 := Aside0.mk hb
       have HR5 := Aside0.mk (Kd.R_over' HR3.out (Kd.S_typed HS3.out) (by decide) hg)
       have K3e := Aside0.mk (blk_grown K3d.out hg (Kd.S_ne HS3.out K3d.out (by decide)))
       clear ho hb hg hat
       obtain ⟨GA, gc, ev33⟩ := Kd.S_slice HS5.out
       generalize hn5 : (l1 ++ [(⟨s, xs⟩ : S60)]).length = n5 at ev33
       subst ev33
       clear x0 x1 x2 x3 u0 u1 u2 u3 ul
       obtain ⟨x0, x1, x2, x3, u0, u1, u2, u3⟩ := blk_cells4 K3e.out
       have ul := blk_lt K3e.out))
  all_goals
    go_wp2_with fail
    go_end0
    refine ⟨rfl, A, GA, _, c, _, gc, blk_put K3e.out 1 _ rfl, ?_, ?_, HB5.out.setCell hlo _⟩
    · exact Kd.R_mono (Kd.R_far (p := ⟨b, 1, none⟩) (Kd.R_types HR5.out K3e.out (by decide)) (fun _ hk => hk.2) _) (fun _ _ => trivial)
    · exact Kd.S_mono (Kd.S_far (p := ⟨b, 1, none⟩) (Kd.S_types HS5.out K3e.out (by decide)) (fun _ hk => hk.2) _) (fun _ hk => hk.1)

/-! ### L_still: a text by hand -/
-- import Derived.StillTailTactics
theorem still_val {P : Program} {ops : Array Oper} {w : World} {Q : Act → Prop} {a : Act} {o : Oper} {rest : List Oper} {v : Value} (hg : o.guard = none) (h : (execOp a.eval o).run P w = .ok (.value v) w) (hK : wpStill P ops w Q rest (a.put o.dst v)) : wpStill P ops w Q (o :: rest) a := by
  refine wpStill_step (fun K hk => ?_)
  have hw : Region.wanted o (yielded ops a.tmps) = true := by simp [Region.wanted, hg]
  rw [if_pos hw]
  unfold Oper.still
  rw [h, Oper.stillUpon_value]
  exact hk _ hK

/-! ### impl_Disk_write2: a text by hand -/
theorem powX_drew {lo b : Nat} {W : World} {l0 : List Int} {l1 : List S60} {a2 : Int} {a3 : Bool} (h : PowX lo b W l0 l1 a2 a3 W) : PowX lo b W.drew l0 l1 a2 a3 W.drew := by
  obtain ⟨A, B, n, c, m, d, hb, hR, hS, hB⟩ := h
  exact ⟨A, B, n, c, m, d, hb, Kd.R_drew hR, Kd.S_drew hS, ⟨rfl, rfl, rfl, Nat.le_refl _, fun _ _ => rfl⟩⟩
theorem powX_undrew {lo b : Nat} {W W' : World} {l0 : List Int} {l1 : List S60} {a2 : Int} {a3 : Bool} (h : PowX lo b W.drew l0 l1 a2 a3 W') : PowX lo b W l0 l1 a2 a3 W' := by
  obtain ⟨A, B, n, c, m, d, hb, hR, hS, hB⟩ := h
  exact ⟨A, B, n, c, m, d, hb, hR, hS, ⟨hB.os, hB.tape, hB.output, hB.size, hB.block⟩⟩
set_option maxHeartbeats 4000000 in
set_option maxRecDepth 100000 in
theorem clos_write (b p1 p2 : Nat) (W : World) (s : Int) (A2 : Option Addr) (c2 : Nat) (xs : List Int) (hx : xs.length = 64) (h1 : W.cell? ⟨p1, 0, none⟩ = some (.int .i64 s)) (h2 : W.cell? ⟨p2, 0, none⟩ = some (.slice A2 64 c2)) (hC : Kd.C (Kd.int .u8) W A2 64 xs) (X : World → Prop) (die : Bool)
    (HC : Calls Try.prog 52 #[.pointer (some ⟨b, 0, none⟩), .int .i64 s, .agg (xs.map (Value.int .u8)).toArray] W.drew fun e W' => e = (if die = true then .panicked [{ v := .iface 81 (.agg #[]), recovered := false }] else .returned (.tuple #[])) ∧ X W') :
    Calls Try.prog 51 #[.pointer (some ⟨b, 0, none⟩), .pointer (some ⟨p1, 0, none⟩), .pointer (some ⟨p2, 0, none⟩)] W fun e W' => e = (if die = true then .panicked [{ v := .iface 81 (.agg #[]), recovered := false }] else .returned (.tuple #[])) ∧ X W' := by
  have HX := Aside0.mk hx
  obtain ⟨ad, rfl, hcs⟩ := C_cells hC (by decide)
  have har : ∀ V, (Instr.arrayAt 64 (.slice (some ad) 64 c2)).run Try.prog V = .ok (.pointer (some ad)) V := fun V => arr_at _ 5 64 _ _ _ (by kernel_rfl) (by omega) V
  have hld : (Instr.loadAt 64 (.pointer (some ad))).run Try.prog W.drew = .ok (.agg (xs.map (Value.int .u8)).toArray) W.drew := load_arr W.drew ad _ _ 64 5 hcs (by kernel_rfl) (by rw [List.length_map, hx]; kernel_rfl)
  have HLD := Aside0.mk hld
  have HCC := Aside0.mk HC
  clear hld hcs hC hx HC
  go_enter Try.func51, Try.ntmps51
  go_wp2_with fail
  refine wp_region_still_tail 5 (by kernel_rfl) (by kernel_rfl) ?_
  simp only [List.take_succ_cons, List.take_zero, List.drop_succ_cons, List.drop_zero]
  repeat still_step
  refine still_val rfl (exec_load _ _ rfl rfl HLD.out) ?_
  refine wpStill_nil ?_
  go_wp2_with fail
  refine HCC.out.mono ?_
  cases die with
  | true =>
    rintro e w1 ⟨rfl, hX⟩
    rw [if_pos rfl]
    go_wp2_with fail
    exact ⟨rfl, rfl, hX⟩
  | false =>
    rintro e w1 ⟨rfl, hX⟩
    rw [if_neg (by decide)]
    go_wp2_with fail
    go_end0
    exact ⟨rfl, hX⟩

/-! ### impl_DiskWrite: function 26, proved by hand -/
def dWrite (l0 : List Int) (l1 : List S60) (a2 : Int) (a3 : Bool) (s : Int) (xs : List Int) : List Int × List S60 × Int × Bool :=
  if vD l0 l1 a2 = true ∧ a3 = false ∧ inD l0 s = true ∧ xs.length = 64 ∧ l1.length ≠ 2000 then (if a2 = 0 then (l0, l1, 0, true) else (l0, l1 ++ [⟨s, xs⟩], fuelD a2, a3)) else (l0, l1, a2, a3)
def m_DiskWrite.f (l0 : List Int) (l1 : List S60) (a2 : Int) (a3 : Bool) (s : Int) (xs : List Int) : Option (List Int × List S60 × Int × Bool) :=
  if l0.length ≤ 1048576 ∧ l1.length ≤ 1048576 ∧ l1.all (fun x => decide (x.f1.length ≤ 1048576)) = true then some (dWrite l0 l1 a2 a3 s xs) else none
theorem fin_disk {w w1 w2 : World} {g : Nat} {v0 v1 : Value} {r1 : List Int} {r2 : List S60} {r3 : Int} {r4 : Bool} (hB : Below w.heap.size w w1) (hg : w.heap.size ≤ g) (K : w1.heap[g]? = some (.cells #[.slice none 0 0, .slice none 0 0, .int .i64 0, .bool false] 25 (0, 0)))
    (hR : Kd.R (Kd.int .u8) 5 w2 w1.heap.size (fun _ => True) v0 r1) (hS : Kd.S k60 60 w2 w1.heap.size (fun k_ => some k_ ≠ (v0 : Value).ownBlock) v1 r2) (hb : Below w1.heap.size w1 w2) :
    w2.heap[g]? = some (.cells #[.slice none 0 0, .slice none 0 0, .int .i64 0, .bool false] 25 (0, 0)) ∧ ((((w2.setCell ⟨g, 0, none⟩ v0).setCell ⟨g, 1, none⟩ v1).setCell ⟨g, 2, none⟩ (.int .i64 r3)).setCell ⟨g, 3, none⟩ (.bool r4)).heap[g]? = some (.cells #[v0, v1, .int .i64 r3, .bool r4] 25 (0, 0)) ∧
    Kd.R (Kd.int .u8) 5 ((((w2.setCell ⟨g, 0, none⟩ v0).setCell ⟨g, 1, none⟩ v1).setCell ⟨g, 2, none⟩ (.int .i64 r3)).setCell ⟨g, 3, none⟩ (.bool r4)) w.heap.size (fun _ => True) v0 r1 ∧ Kd.S k60 60 ((((w2.setCell ⟨g, 0, none⟩ v0).setCell ⟨g, 1, none⟩ v1).setCell ⟨g, 2, none⟩ (.int .i64 r3)).setCell ⟨g, 3, none⟩ (.bool r4)) w.heap.size (fun k_ => some k_ ≠ (v0 : Value).ownBlock) v1 r2 ∧ Below w.heap.size w ((((w2.setCell ⟨g, 0, none⟩ v0).setCell ⟨g, 1, none⟩ v1).setCell ⟨g, 2, none⟩ (.int .i64 r3)).setCell ⟨g, 3, none⟩ (.bool r4)) := by
  have hl := blk_lt K
  have hs := hB.size
  refine ⟨blk_below K hb, blk_set4 (blk_below K hb), ?_, ?_, ?_⟩
  · exact Kd.R_lower (R_farB (R_farB (R_farB (R_farB hR (by omega) _ _) (by omega) _ _) (by omega) _ _) (by omega) _ _) (by omega)
  · exact Kd.S_lower (S_farB (S_farB (S_farB (S_farB hS (by omega) _ _) (by omega) _ _) (by omega) _ _) (by omega) _ _) (by omega)
  · exact below_setB (below_setB (below_setB (below_setB (below_step hB hb) (by omega) _ _) (by omega) _ _) (by omega) _ _) (by omega) _ _
set_option maxHeartbeats 4000000 in
set_option maxRecDepth 100000 in
theorem impl_DiskWrite.calls (A0 : Option Addr) (c0 : Nat) (l0 : List Int) (A1 : Option Addr) (c1 : Nat) (l1 : List S60) (a2 : Int) (a3 : Bool) (s : Int) (A2 : Option Addr) (c2 : Nat) (xs : List Int) (r1 : List Int) (r2 : List S60) (r3 : Int) (r4 : Bool) (w : World) (hr0 : Kd.C (Kd.int .u8) w A0 l0.length l0) (hc0 : l0.length ≤ c0) (hr1 : Kd.C k60 w A1 l1.length l1) (hc1 : l1.length ≤ c1) (hr2 : Kd.C (Kd.int .u8) w A2 xs.length xs) (hc2 : xs.length ≤ c2) (h : m_DiskWrite.f l0 l1 a2 a3 s xs = some (r1, r2, r3, r4)) :
    Calls Try.prog 26 #[.agg #[.slice A0 l0.length c0, .slice A1 l1.length c1, .int .i64 a2, .bool a3], .int .i64 s, .slice A2 xs.length c2] w fun e w' => ∃ v0_ v1_ : Value, e = .returned (.agg #[v0_, v1_, .int .i64 r3, .bool r4]) ∧ Kd.R (Kd.int .u8) 5 w' w.heap.size (fun _ => True) v0_ r1 ∧ Kd.S k60 60 w' w.heap.size (fun k_ => some k_ ≠ (v0_ : Value).ownBlock) v1_ r2 ∧ Below w.heap.size w w' := by
  unfold m_DiskWrite.f at h
  by_cases hL : l0.length ≤ 1048576 ∧ l1.length ≤ 1048576 ∧ l1.all (fun x => decide (x.f1.length ≤ 1048576)) = true
  case neg => rw [if_neg hL] at h; cases h
  rw [if_pos hL] at h
  have hok : okPendS l1 := ⟨hL.2.1, fun x hx => by have := List.all_eq_true.1 hL.2.2 x hx; simpa using this⟩
  obtain ⟨kv, hv⟩ := (implValid_ev l0 l1 a2 a3 hL.1 hL.2.1).rounds
  have HH := Aside0.mk (has_eq l0 l1 a2 a3 s hL.1)
  have HL := Aside0.mk hL.1
  have HOK := Aside0.mk hok
  have HV := Aside0.mk hv
  have HR0 := Aside0.mk hr0
  have HC0 := Aside0.mk hc0
  have HR1 := Aside0.mk hr1
  have HC1 := Aside0.mk hc1
  have HR2 := Aside0.mk hr2
  have HC2 := Aside0.mk hc2
  clear hr0 hc0 hr1 hc1 hr2 hc2 hv hL hok
  have ER := Aside0.mk (Option.some.inj h)
  clear h
  have hu25 := Try.underlying25
  have HB := Aside0.mk (Below.refl w.heap.size w)
  have hmf : ∀ (fn : Fn) (first cap : Array Value) (w : World), (Instr.makeFunc fn first cap).run Try.prog w = .ok (.func fn first cap) w := fun _ _ _ _ => rfl
  go_enter Try.func26, Try.ntmps26
  go_wp2_with fail
  refine (impl_ValidDisk.calls kv _ _ l0 _ _ l1 a2 a3 _ _ (Kd.C_alloc (Kd.C_alloc (Kd.C_alloc (Kd.C_alloc HR0.out _) _) _) _) HC0.out (Kd.C_alloc (Kd.C_alloc (Kd.C_alloc (Kd.C_alloc HR1.out _) _) _) _) HC1.out HV.out).mono ?_
  rintro e w1 ⟨rfl, gb⟩
  have K1 := Aside0.mk (show w1.heap[w.heap.size]? = some (.cells #[.slice A0 l0.length c0, .slice A1 l1.length c1, .int .i64 a2, .bool a3] 25 (0, 0)) from blk_below (blk_alloc (blk_alloc (blk_alloc (blk_new _ _) _) _) _) gb)
  have K2 := Aside0.mk (show w1.heap[w.heap.size + 1]? = some (.cells #[.int .i64 s] 2 (0, 0)) from blk_below (blk_alloc (blk_alloc (blk_new2 _ _ _) _) _) gb)
  have K3 := Aside0.mk (show w1.heap[w.heap.size + 1 + 1]? = some (.cells #[.slice A2 xs.length c2] 22 (0, 0)) from blk_below (blk_alloc (blk_new3 _ _ _ _) _) gb)
  have K4 := Aside0.mk (show w1.heap[w.heap.size + 1 + 1 + 1]? = some (.cells #[.slice none 0 0, .slice none 0 0, .int .i64 0, .bool false] 25 (0, 0)) from blk_below (by have h := blk_new (((w.alloc (.cells #[.slice A0 l0.length c0, .slice A1 l1.length c1, .int .i64 a2, .bool a3] 25)).alloc (.cells #[.int .i64 s] 2)).alloc (.cells #[.slice A2 xs.length c2] 22)) (.cells #[.slice none 0 0, .slice none 0 0, .int .i64 0, .bool false] 25); simpa using h) gb)
  have N_HB := Aside0.mk (below_step (below_alloc (below_alloc (below_alloc (below_alloc HB.out _) _) _) _) gb)
  clear HB gb
  have HB := N_HB
  clear N_HB
  have clone : (r1, r2, r3, r4) = (l0, l1, a2, a3) → ∀ W, Below w.heap.size w W → Calls Try.prog 49 #[.agg #[.slice A0 l0.length c0, .slice A1 l1.length c1, .int .i64 a2, .bool a3]] W fun e w' => ∃ v0_ v1_ : Value, e = .returned (.agg #[v0_, v1_, .int .i64 r3, .bool r4]) ∧ Kd.R (Kd.int .u8) 5 w' W.heap.size (fun _ => True) v0_ r1 ∧ Kd.S k60 60 w' W.heap.size (fun k_ => some k_ ≠ (v0_ : Value).ownBlock) v1_ r2 ∧ Below W.heap.size W w' := by
    intro he W hW
    simp only [Prod.mk.injEq] at he
    obtain ⟨rfl, rfl, rfl, rfl⟩ := he
    exact impl_Disk_clone.calls _ _ _ _ _ _ _ _ _ (Kd.C_below HR0.out hW) HC0.out (Kd.C_below HR1.out hW) HC1.out HL.out HOK.out
  have CL := Aside0.mk clone
  clear clone
  obtain ⟨z0, z1, z2, z3, y0, y1, y2, y3⟩ := blk_cells4 K1.out
  have yl := blk_lt K1.out
  have zs : w1.cell? ⟨w.heap.size + 1, 0, none⟩ = some (.int .i64 s) := (blk_cell K2.out 0).trans rfl
  have zx : w1.cell? ⟨w.heap.size + 1 + 1, 0, none⟩ = some (.slice A2 xs.length c2) := (blk_cell K3.out 0).trans rfl
  have zl := blk_lt K3.out
  by_cases cv : vD l0 l1 a2 = true
  case neg =>
    have cv' : vD l0 l1 a2 = false := by simpa using cv
    have CV := Aside0.mk cv
    rw [cv']
    clear cv cv'
    have er := ER.out
    unfold dWrite at er
    rw [if_neg (by exact fun h => CV.out h.1)] at er
    go_wp2_with fail
    refine (CL.out er.symm _ HB.out).mono ?_
    rintro e w2 ⟨v0, v1, rfl, hR, hS, gb⟩
    obtain ⟨A, c, ea⟩ := Kd.R_slice hR
    obtain ⟨B, d, eb⟩ := Kd.S_slice hS
    obtain ⟨f1, f2, f3, f4, f5⟩ := fin_disk (r3 := r3) (r4 := r4) HB.out (by omega) K4.out hR hS gb
    have F2 := Aside0.mk f2
    have F3 := Aside0.mk f3
    have F4 := Aside0.mk f4
    have F5 := Aside0.mk f5
    obtain ⟨x0, x1, x2, x3, u0, u1, u2, u3⟩ := blk_cells4 f1
    have ul := blk_lt f1
    clear f1 f2 f3 f4 f5 hR hS gb
    generalize r1.length = n1 at ea
    generalize r2.length = n2 at eb
    subst ea
    subst eb
    go_wp2_with fail
    exact bodyPost_ret (results_cell_row rfl _ _ (w.heap.size + 1 + 1 + 1) 25 _ (0, 0) _ rfl F2.out Try.underlying25 rfl (by kernel_rfl)) rfl ⟨_, _, rfl, F3.out, F4.out, F5.out⟩
  have CV := Aside0.mk cv
  rw [cv]
  clear cv
  cases a3 with
  | true =>
    have er := ER.out
    unfold dWrite at er
    rw [if_neg (by exact fun h => by cases h.2.1)] at er
    go_wp2_with fail
    refine (CL.out er.symm _ HB.out).mono ?_
    rintro e w2 ⟨v0, v1, rfl, hR, hS, gb⟩
    obtain ⟨A, c, ea⟩ := Kd.R_slice hR
    obtain ⟨B, d, eb⟩ := Kd.S_slice hS
    obtain ⟨f1, f2, f3, f4, f5⟩ := fin_disk (r3 := r3) (r4 := r4) HB.out (by omega) K4.out hR hS gb
    have F2 := Aside0.mk f2
    have F3 := Aside0.mk f3
    have F4 := Aside0.mk f4
    have F5 := Aside0.mk f5
    obtain ⟨x0, x1, x2, x3, u0, u1, u2, u3⟩ := blk_cells4 f1
    have ul := blk_lt f1
    clear f1 f2 f3 f4 f5 hR hS gb
    generalize r1.length = n1 at ea
    generalize r2.length = n2 at eb
    subst ea
    subst eb
    go_wp2_with fail
    exact bodyPost_ret (results_cell_row rfl _ _ (w.heap.size + 1 + 1 + 1) 25 _ (0, 0) _ rfl F2.out Try.underlying25 rfl (by kernel_rfl)) rfl ⟨_, _, rfl, F3.out, F4.out, F5.out⟩
  | false =>
  go_wp2_with fail
  refine (impl_Disk_has.calls _ _ l0 _ _ l1 a2 false s _ _ (Kd.C_below HR0.out HB.out) HC0.out (Kd.C_below HR1.out HB.out) HC1.out HH.out).mono ?_
  rintro e w2 ⟨rfl, gb⟩
  have N_K1 := Aside0.mk (blk_below K1.out gb)
  have N_K2 := Aside0.mk (blk_below K2.out gb)
  have N_K3 := Aside0.mk (blk_below K3.out gb)
  have N_K4 := Aside0.mk (blk_below K4.out gb)
  have N_HB := Aside0.mk (below_step HB.out gb)
  clear HB gb K1 K2 K3 K4 z0 z1 z2 z3 y0 y1 y2 y3 yl zs zx zl
  have HB := N_HB
  have K1 := N_K1
  have K2 := N_K2
  have K3 := N_K3
  have K4 := N_K4
  clear N_HB N_K1 N_K2 N_K3 N_K4 w1
  rename World => w1
  obtain ⟨z0, z1, z2, z3, y0, y1, y2, y3⟩ := blk_cells4 K1.out
  have yl := blk_lt K1.out
  have zs : w1.cell? ⟨w.heap.size + 1, 0, none⟩ = some (.int .i64 s) := (blk_cell K2.out 0).trans rfl
  have zx : w1.cell? ⟨w.heap.size + 1 + 1, 0, none⟩ = some (.slice A2 xs.length c2) := (blk_cell K3.out 0).trans rfl
  have zl := blk_lt K3.out
  by_cases ci : inD l0 s = true
  case neg =>
    have ci' : inD l0 s = false := by simpa using ci
    have CI := Aside0.mk ci
    rw [ci']
    clear ci ci'
    have er := ER.out
    unfold dWrite at er
    rw [if_neg (by exact fun h => CI.out h.2.2.1)] at er
    go_wp2_with fail
    refine (CL.out er.symm _ HB.out).mono ?_
    rintro e w2 ⟨v0, v1, rfl, hR, hS, gb⟩
    obtain ⟨A, c, ea⟩ := Kd.R_slice hR
    obtain ⟨B, d, eb⟩ := Kd.S_slice hS
    obtain ⟨f1, f2, f3, f4, f5⟩ := fin_disk (r3 := r3) (r4 := r4) HB.out (by omega) K4.out hR hS gb
    have F2 := Aside0.mk f2
    have F3 := Aside0.mk f3
    have F4 := Aside0.mk f4
    have F5 := Aside0.mk f5
    obtain ⟨x0, x1, x2, x3, u0, u1, u2, u3⟩ := blk_cells4 f1
    have ul := blk_lt f1
    clear f1 f2 f3 f4 f5 hR hS gb
    generalize r1.length = n1 at ea
    generalize r2.length = n2 at eb
    subst ea
    subst eb
    go_wp2_with fail
    exact bodyPost_ret (results_cell_row rfl _ _ (w.heap.size + 1 + 1 + 1) 25 _ (0, 0) _ rfl F2.out Try.underlying25 rfl (by kernel_rfl)) rfl ⟨_, _, rfl, F3.out, F4.out, F5.out⟩
  have CI := Aside0.mk ci
  rw [ci]
  clear ci
  by_cases cx : xs.length = 64
  case neg =>
    have CX := Aside0.mk cx
    have cx' : ((xs.length : Int) != 64) = true := by simpa using (by omega : ¬ (xs.length : Int) = 64)
    clear cx
    have er := ER.out
    unfold dWrite at er
    rw [if_neg (by exact fun h => CX.out h.2.2.2.1)] at er
    go_wp2_with fail
    refine (CL.out er.symm _ HB.out).mono ?_
    rintro e w2 ⟨v0, v1, rfl, hR, hS, gb⟩
    obtain ⟨A, c, ea⟩ := Kd.R_slice hR
    obtain ⟨B, d, eb⟩ := Kd.S_slice hS
    obtain ⟨f1, f2, f3, f4, f5⟩ := fin_disk (r3 := r3) (r4 := r4) HB.out (by omega) K4.out hR hS gb
    have F2 := Aside0.mk f2
    have F3 := Aside0.mk f3
    have F4 := Aside0.mk f4
    have F5 := Aside0.mk f5
    obtain ⟨x0, x1, x2, x3, u0, u1, u2, u3⟩ := blk_cells4 f1
    have ul := blk_lt f1
    clear f1 f2 f3 f4 f5 hR hS gb
    generalize r1.length = n1 at ea
    generalize r2.length = n2 at eb
    subst ea
    subst eb
    go_wp2_with fail
    exact bodyPost_ret (results_cell_row rfl _ _ (w.heap.size + 1 + 1 + 1) 25 _ (0, 0) _ rfl F2.out Try.underlying25 rfl (by kernel_rfl)) rfl ⟨_, _, rfl, F3.out, F4.out, F5.out⟩
  have CX := Aside0.mk cx
  have cx' : ((xs.length : Int) != 64) = false := by simpa using (by omega : (xs.length : Int) = 64)
  by_cases cm : l1.length = 2000
  · have CM := Aside0.mk cm
    have cm' : ((l1.length : Int) == 2000) = true := by simpa using (by omega : (l1.length : Int) = 2000)
    clear cx cm
    have er := ER.out
    unfold dWrite at er
    rw [if_neg (by exact fun h => h.2.2.2.2 CM.out)] at er
    go_wp2_with fail
    refine (CL.out er.symm _ HB.out).mono ?_
    rintro e w2 ⟨v0, v1, rfl, hR, hS, gb⟩
    obtain ⟨A, c, ea⟩ := Kd.R_slice hR
    obtain ⟨B, d, eb⟩ := Kd.S_slice hS
    obtain ⟨f1, f2, f3, f4, f5⟩ := fin_disk (r3 := r3) (r4 := r4) HB.out (by omega) K4.out hR hS gb
    have F2 := Aside0.mk f2
    have F3 := Aside0.mk f3
    have F4 := Aside0.mk f4
    have F5 := Aside0.mk f5
    obtain ⟨x0, x1, x2, x3, u0, u1, u2, u3⟩ := blk_cells4 f1
    have ul := blk_lt f1
    clear f1 f2 f3 f4 f5 hR hS gb
    generalize r1.length = n1 at ea
    generalize r2.length = n2 at eb
    subst ea
    subst eb
    go_wp2_with fail
    exact bodyPost_ret (results_cell_row rfl _ _ (w.heap.size + 1 + 1 + 1) 25 _ (0, 0) _ rfl F2.out Try.underlying25 rfl (by kernel_rfl)) rfl ⟨_, _, rfl, F3.out, F4.out, F5.out⟩
  · have CM := Aside0.mk cm
    have cm' : ((l1.length : Int) == 2000) = false := by simpa using (by omega : ¬ (l1.length : Int) = 2000)
    clear cx cm
    have er := ER.out
    unfold dWrite at er
    rw [if_pos ⟨CV.out, rfl, CI.out, CX.out, CM.out⟩] at er
    have ER2 := Aside0.mk er
    clear er
    go_wp2_with fail
    have pw : Calls Try.prog 50 #[.agg #[.slice A0 l0.length c0, .slice A1 l1.length c1, .int .i64 a2, .bool false], .func (.func 51) #[] #[.pointer (some ⟨w.heap.size + 1, 0, none⟩), .pointer (some ⟨w.heap.size + 1 + 1, 0, none⟩)]] w1 fun e w' => ∃ v0_ v1_ : Value, e = .returned (.agg #[v0_, v1_, .int .i64 r3, .bool r4]) ∧ Kd.R (Kd.int .u8) 5 w' w1.heap.size (fun _ => True) v0_ r1 ∧ Kd.S k60 60 w' w1.heap.size (fun k_ => some k_ ≠ (v0_ : Value).ownBlock) v1_ r2 ∧ Below w1.heap.size w1 w' := by
      have hcf : ∀ (args : Array Value) (W : World), (callFunc 51 args).run Try.prog W = .ok (.enter 51 args) W := fun args W => by simp [go_sem]
      have er := ER2.out
      have hC2 := Kd.C_below HR2.out HB.out
      rw [CX.out] at hC2 zx
      by_cases c0_ : a2 = 0
      · rw [if_pos c0_] at er
        simp only [Prod.mk.injEq] at er
        obtain ⟨rfl, rfl, rfl, rfl⟩ := er
        subst c0_
        refine impl_Disk_powered.calls 51 _ hcf _ _ _ _ _ _ _ _ _ (Kd.C_below HR0.out HB.out) HC0.out (Kd.C_below HR1.out HB.out) HC1.out HL.out HOK.out true _ _ 0 false (fun lo b W h1 h2 hW hX => ?_)
        exact clos_write b _ _ W s A2 c2 xs CX.out (pw_cell_below hW zs) (pw_cell_below hW zx) (Kd.C_below hC2 hW) _ true ((write_dies lo b W.drew _ _ _ s xs h2 (powX_drew hX)).mono (fun e W' hh => ⟨by rw [if_pos rfl]; exact hh.1, powX_undrew hh.2⟩))
      · rw [if_neg c0_] at er
        simp only [Prod.mk.injEq] at er
        obtain ⟨rfl, rfl, rfl, rfl⟩ := er
        refine impl_Disk_powered.calls 51 _ hcf _ _ _ _ _ _ _ _ _ (Kd.C_below HR0.out HB.out) HC0.out (Kd.C_below HR1.out HB.out) HC1.out HL.out HOK.out false _ _ (fuelD a2) false (fun lo b W h1 h2 hW hX => ?_)
        exact clos_write b _ _ W s A2 c2 xs CX.out (pw_cell_below hW zs) (pw_cell_below hW zx) (Kd.C_below hC2 hW) _ false ((write_lives lo b W.drew _ _ _ _ s xs CX.out CV.out c0_ h2 (powX_drew hX)).mono (fun e W' hh => ⟨by rw [if_neg (by decide)]; exact hh.1, powX_undrew hh.2⟩))
    refine (pw).mono ?_
    rintro e w2 ⟨v0, v1, rfl, hR, hS, gb⟩
    obtain ⟨A, c, ea⟩ := Kd.R_slice hR
    obtain ⟨B, d, eb⟩ := Kd.S_slice hS
    obtain ⟨f1, f2, f3, f4, f5⟩ := fin_disk (r3 := r3) (r4 := r4) HB.out (by omega) K4.out hR hS gb
    have F2 := Aside0.mk f2
    have F3 := Aside0.mk f3
    have F4 := Aside0.mk f4
    have F5 := Aside0.mk f5
    obtain ⟨x0, x1, x2, x3, u0, u1, u2, u3⟩ := blk_cells4 f1
    have ul := blk_lt f1
    clear f1 f2 f3 f4 f5 hR hS gb
    generalize r1.length = n1 at ea
    generalize r2.length = n2 at eb
    subst ea
    subst eb
    go_wp2_with fail
    exact bodyPost_ret (results_cell_row rfl _ _ (w.heap.size + 1 + 1 + 1) 25 _ (0, 0) _ rfl F2.out Try.underlying25 rfl (by kernel_rfl)) rfl ⟨_, _, rfl, F3.out, F4.out, F5.out⟩
end Go.Proofs.Ytbimdcekcemcoaa.PD
