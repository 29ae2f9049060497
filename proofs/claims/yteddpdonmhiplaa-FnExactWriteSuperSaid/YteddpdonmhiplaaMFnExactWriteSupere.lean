-- Made by this session's programs out of the translation and of its own texts.
import Derived.Test.YteddpdonmhiplaaMFnExactWriteSuperd
namespace Go.Proofs.Yteddpdonmhiplaa.PR
open Go.RowKit Go.Proofs.YteddpdonmhiplaaW.PrintWords Go.Proofs.YteddpdonmhiplaaW.PrintLast Go.Proofs.YteddpdonmhiplaaW.PrintMore
attribute [local go_sem] max2_int min2_int max_two min_two max_three min_three max_four min_four   -- for this text's walks alone
set_option linter.unusedVariables false
set_option linter.unusedSimpArgs false

/-! ### spec_WriteSuper: function 31 -/
def spec_WriteSuper.j0 : Nat → Bool → List Int → List (S79) → Int → Bool → Int → Int → Int → Option (List Int × (List (S79)) × Int × Bool)
  | 0, _, _, _, _, _, _, _, _ => none
  | k + 1, x12, x433000, x433001, x433002, x433003, x434000, x434001, x434002 => if x12 = true then ((spec_l1Copy.f k x433000 x433001 x433002 x433003).bind fun bt437 => (some (bt437.1, bt437.2.1, bt437.2.2.1, bt437.2.2.2))) else ((spec_l2SuperBytes.f k x434000 x434001 x434002).bind fun t445 => ((spec_DiskWrite.f k x433000 x433001 x433002 x433003 (Int.tmod x434000 2) t445).bind fun bt448 => ((spec_DiskSync.f k bt448.1 bt448.2.1 bt448.2.2.1 bt448.2.2.2).bind fun bt456 => (some (bt456.1, bt456.2.1, bt456.2.2.1, bt456.2.2.2)))))
def spec_WriteSuper.f (k : Nat) (l0_0 : List Int) (l0_1 : List (S79)) (a0_2 : Int) (a0_3 : Bool) (a1_0 : Int) (a1_1 : Int) (a1_2 : Int) : Option (List Int × (List (S79)) × Int × Bool) := (spec_ValidDisk.f k l0_0 l0_1 a0_2 a0_3).bind fun t435 => (if t435 = true then ((spec_l2GoodSuper.f a1_0 a1_1 a1_2).bind fun t436 => (spec_WriteSuper.j0 k (!t436) l0_0 l0_1 a0_2 a0_3 a1_0 a1_1 a1_2)) else (spec_WriteSuper.j0 k true l0_0 l0_1 a0_2 a0_3 a1_0 a1_1 a1_2))
theorem spec_WriteSuper.mono_l : ∀ k, (∀ y0 y1 y2 y3 y4 y5 y6 y7, LeO (spec_WriteSuper.j0 k y0 y1 y2 y3 y4 y5 y6 y7) (spec_WriteSuper.j0 (k + 1) y0 y1 y2 y3 y4 y5 y6 y7))
  | 0 => fun _ _ _ _ _ _ _ _ r h => by simp [spec_WriteSuper.j0] at h
  | k + 1 => by
    have ih0 := spec_WriteSuper.mono_l k
    · intro y0 y1 y2 y3 y4 y5 y6 y7
      unfold spec_WriteSuper.j0
      repeat' first
      | (with_reducible exact ih0 _ _ _ _ _ _ _ _)
      | (with_reducible exact spec_DiskSync.mono _ _ _ _ _)
      | (with_reducible exact spec_DiskWrite.mono _ _ _ _ _ _ _)
      | (with_reducible exact spec_ValidDisk.mono _ _ _ _ _)
      | (with_reducible exact spec_l1Copy.mono _ _ _ _ _)
      | (with_reducible exact spec_l2SuperBytes.mono _ _ _ _)
      | (with_reducible exact LeO.refl _)
      | (with_reducible exact LeO.none _)
      | (with_reducible refine LeO.ite ?_ ?_)
      | (with_reducible refine LeO.bind ?_ (fun _ => ?_))
      | exact ih0 _ _ _ _ _ _ _ _
      | exact spec_DiskSync.mono _ _ _ _ _
      | exact spec_DiskWrite.mono _ _ _ _ _ _ _
      | exact spec_ValidDisk.mono _ _ _ _ _
      | exact spec_l1Copy.mono _ _ _ _ _
      | exact spec_l2SuperBytes.mono _ _ _ _
      | exact LeO.none _
      | refine LeO.ite ?_ ?_
      | refine LeO.bind ?_ (fun _ => ?_)
theorem spec_WriteSuper.mono : ∀ a0 a1 a2 a3 a4 a5 a6 k, LeO (spec_WriteSuper.f k a0 a1 a2 a3 a4 a5 a6) (spec_WriteSuper.f (k + 1) a0 a1 a2 a3 a4 a5 a6) := by
  intro a0 a1 a2 a3 a4 a5 a6 k
  have ih0 := spec_WriteSuper.mono_l k
  unfold spec_WriteSuper.f
  repeat' first
      | (with_reducible exact ih0 _ _ _ _ _ _ _ _)
      | (with_reducible exact spec_DiskSync.mono _ _ _ _ _)
      | (with_reducible exact spec_DiskWrite.mono _ _ _ _ _ _ _)
      | (with_reducible exact spec_ValidDisk.mono _ _ _ _ _)
      | (with_reducible exact spec_l1Copy.mono _ _ _ _ _)
      | (with_reducible exact spec_l2SuperBytes.mono _ _ _ _)
      | (with_reducible exact LeO.refl _)
      | (with_reducible exact LeO.none _)
      | (with_reducible refine LeO.ite ?_ ?_)
      | (with_reducible refine LeO.bind ?_ (fun _ => ?_))
      | exact ih0 _ _ _ _ _ _ _ _
      | exact spec_DiskSync.mono _ _ _ _ _
      | exact spec_DiskWrite.mono _ _ _ _ _ _ _
      | exact spec_ValidDisk.mono _ _ _ _ _
      | exact spec_l1Copy.mono _ _ _ _ _
      | exact spec_l2SuperBytes.mono _ _ _ _
      | exact LeO.none _
      | refine LeO.ite ?_ ?_
      | refine LeO.bind ?_ (fun _ => ?_)
def spec_WriteSuper.T3 : Bool × List (List Nat × List Nat) := (true, [([], []), ([], []), ([1], [1]), ([2], [2]), ([], []), ([4], [4]), ([0, 3, 5, 5], [0, 3, 5]), ([6, 6], [6]), ([7, 7, 0, 1, 2, 3, 4, 5, 6, 7], [7])])
def spec_WriteSuper.B3 : List Nat := [0, 0, 2, 6, 0, 16, 63, 127, 255]
theorem spec_WriteSuper.tab3 : rtab .any (opsOf Try.f31 3) = spec_WriteSuper.T3 := by kernel_rfl
theorem spec_WriteSuper.bits3 : waitsOk spec_WriteSuper.T3.2 spec_WriteSuper.B3 = true := by kernel_rfl
set_option maxHeartbeats 8000000 in
set_option maxRecDepth 100000 in
theorem spec_WriteSuper.calls (k : Nat) (A0_0 : Option Addr) (c0_0 : Nat) (l0_0 : List Int) (A0_1 : Option Addr) (c0_1 : Nat) (l0_1 : List (S79)) (a0_2 : Int) (a0_3 : Bool) (a1_0 : Int) (a1_1 : Int) (a1_2 : Int) (r1 : List Int) (r2 : List (S79)) (r3 : Int) (r4 : Bool) (w : World) (hr0_0 : Kd.C (Kd.int .u8) w A0_0 l0_0.length l0_0) (hc0_0 : l0_0.length ≤ c0_0) (hr0_1 : Kd.C k79 w A0_1 l0_1.length l0_1) (hc0_1 : l0_1.length ≤ c0_1) (h : spec_WriteSuper.f k l0_0 l0_1 a0_2 a0_3 a1_0 a1_1 a1_2 = some (r1, r2, r3, r4)) :
    Calls Try.prog 31 #[.agg #[.slice A0_0 l0_0.length c0_0, .slice A0_1 l0_1.length c0_1, .int .i64 a0_2, .bool a0_3], .agg #[.int .i64 a1_0, .int .i64 a1_1, .int .i64 a1_2]] w fun e w' => ∃ v0_ v1_ : Value, e = .returned (.agg #[v0_, v1_, .int .i64 r3, .bool r4]) ∧ Kd.R (Kd.int .u8) 5 w' w.heap.size (fun _ => True) v0_ r1 ∧ Kd.S k79 79 w' w.heap.size (fun k_ => some k_ ≠ (v0_ : Value).ownBlock) v1_ r2 ∧ Below w.heap.size w w' := by
  have hu25 := Try.underlying25
  have hu40 := Try.underlying40
  have HR0_0 := Aside0.mk hr0_0
  have HC0_0 := Aside0.mk hc0_0
  clear hr0_0 hc0_0
  have HR0_1 := Aside0.mk hr0_1
  have HC0_1 := Aside0.mk hc0_1
  clear hr0_1 hc0_1
  have HB := Aside0.mk (Below.refl w.heap.size w)
  have H : ((spec_ValidDisk.f k l0_0 l0_1 a0_2 a0_3).bind fun t435 => (if t435 = true then ((spec_l2GoodSuper.f a1_0 a1_1 a1_2).bind fun t436 => (spec_WriteSuper.j0 k (!t436) l0_0 l0_1 a0_2 a0_3 a1_0 a1_1 a1_2)) else (spec_WriteSuper.j0 k true l0_0 l0_1 a0_2 a0_3 a1_0 a1_1 a1_2))) = some (r1, r2, r3, r4) := h
  clear h
  have HC3 := Aside0.mk H
  clear H
  go_enter Try.func31, Try.ntmps31
  go_upto_region 1 with (first | ((with_reducible refine gate_dst (N := 2) rfl ?_); refine box_event ?hg (N := 2) ?hd (cs := #[.slice A0_0 l0_0.length c0_0, .slice A0_1 l0_1.length c0_1, .int .i64 a0_2, .bool a0_3]) (t := 25) ?hr ?_; (case hd => rfl); (case hg => rfl); (case hr => first | (go_simp; done) | (go_simp; rfl)); intro gb432 hg w4 hbox hb; have n0_ := Aside0.mk (below_step (by repeat (first | (with_reducible first | exact HB.out | apply below_alloc | apply pw_below_drewN | apply below_drew1) | exact HB.out)) hb); have n1_ := Aside0.mk (hbox); have n2_ := Aside0.mk ((by rw [hg]; exact (below_size (by repeat (first | (with_reducible first | exact HB.out | apply below_alloc | apply pw_below_drewN | apply below_drew1) | exact HB.out))) : w.heap.size ≤ gb432)); have n3_ := Aside0.mk ((by rw [hg]; exact (below_size (by repeat (first | (with_reducible first | exact HB.out | apply below_alloc | apply pw_below_drewN | apply below_drew1) | exact HB.out))) : w.heap.size ≤ gb432)); clear HB; have HB := n0_; have BK432 := n1_; have GW432 := n2_; have GE432 := n3_; clear n0_ n1_ n2_ n3_; clear hb hbox hg) | ((with_reducible refine gate_dst (N := 3) rfl ?_); refine box_event ?hg (N := 3) ?hd (cs := #[.int .i64 a1_0, .int .i64 a1_1, .int .i64 a1_2]) (t := 40) ?hr ?_; (case hd => rfl); (case hg => rfl); (case hr => first | (go_simp; done) | (go_simp; rfl)); intro gb433 hg w5 hbox hb; have n0_ := Aside0.mk (blk_below (g := gb432) (o := .cells #[.slice A0_0 l0_0.length c0_0, .slice A0_1 l0_1.length c0_1, .int .i64 a0_2, .bool a0_3] 25 (0, 0)) (by (with_reducible repeat (first | refine blk_drewN ?_ _ | refine blk_drew ?_ | refine blk_alloc ?_ _)); exact BK432.out) hb); have n1_ := Aside0.mk (below_step (by repeat (first | (with_reducible first | exact HB.out | apply below_alloc | apply pw_below_drewN | apply below_drew1 | refine below_set ?_ GE432.out) | exact HB.out)) hb); have n2_ := Aside0.mk (hbox); have n3_ := Aside0.mk ((by rw [hg]; exact (below_size (by repeat (first | (with_reducible first | exact HB.out | apply below_alloc | apply pw_below_drewN | apply below_drew1 | refine below_set ?_ GE432.out) | exact HB.out))) : w.heap.size ≤ gb433)); have n4_ := Aside0.mk ((by rw [hg]; exact (below_size (by repeat (first | (with_reducible first | exact HB.out | apply below_alloc | apply pw_below_drewN | apply below_drew1 | refine below_set ?_ GE432.out) | exact HB.out))) : w.heap.size ≤ gb433)); have n5_ := Aside0.mk ((by rw [hg]; exact Nat.ne_of_lt (blk_lt (g := gb432) (o := .cells #[.slice A0_0 l0_0.length c0_0, .slice A0_1 l0_1.length c0_1, .int .i64 a0_2, .bool a0_3] 25 (0, 0)) (by (with_reducible repeat (first | refine blk_drewN ?_ _ | refine blk_drew ?_ | refine blk_alloc ?_ _)); exact BK432.out)) : gb432 ≠ gb433)); have n6_ := Aside0.mk ((by rw [hg]; exact Nat.ne_of_gt (blk_lt (g := gb432) (o := .cells #[.slice A0_0 l0_0.length c0_0, .slice A0_1 l0_1.length c0_1, .int .i64 a0_2, .bool a0_3] 25 (0, 0)) (by (with_reducible repeat (first | refine blk_drewN ?_ _ | refine blk_drew ?_ | refine blk_alloc ?_ _)); exact BK432.out)) : gb433 ≠ gb432)); clear BK432; clear HB; have BK432 := n0_; have HB := n1_; have BK433 := n2_; have GW433 := n3_; have GE433 := n4_; have NB432_433 := n5_; have NB433_432 := n6_; clear n0_ n1_ n2_ n3_ n4_ n5_ n6_; clear hb hbox hg) | ((with_reducible refine gate_dst (N := 4) rfl ?_); refine box_event ?hg (N := 4) ?hd (cs := #[.slice none 0 0, .slice none 0 0, .int .i64 0, .bool false]) (t := 25) ?hr ?_; (case hd => rfl); (case hg => rfl); (case hr => first | (go_simp; done) | (go_simp; rfl)); intro gb434 hg w6 hbox hb; have n0_ := Aside0.mk (blk_below (g := gb432) (o := .cells #[.slice A0_0 l0_0.length c0_0, .slice A0_1 l0_1.length c0_1, .int .i64 a0_2, .bool a0_3] 25 (0, 0)) (by (with_reducible repeat (first | refine blk_drewN ?_ _ | refine blk_drew ?_ | refine blk_alloc ?_ _)); exact BK432.out) hb); have n1_ := Aside0.mk (blk_below (g := gb433) (o := .cells #[.int .i64 a1_0, .int .i64 a1_1, .int .i64 a1_2] 40 (0, 0)) (by (with_reducible repeat (first | refine blk_drewN ?_ _ | refine blk_drew ?_ | refine blk_alloc ?_ _)); exact BK433.out) hb); have n2_ := Aside0.mk (below_step (by repeat (first | (with_reducible first | exact HB.out | apply below_alloc | apply pw_below_drewN | apply below_drew1 | refine below_set ?_ GE432.out | refine below_set ?_ GE433.out) | exact HB.out)) hb); have n3_ := Aside0.mk (hbox); have n4_ := Aside0.mk ((by rw [hg]; exact (below_size (by repeat (first | (with_reducible first | exact HB.out | apply below_alloc | apply pw_below_drewN | apply below_drew1 | refine below_set ?_ GE432.out | refine below_set ?_ GE433.out) | exact HB.out))) : w.heap.size ≤ gb434)); have n5_ := Aside0.mk ((by rw [hg]; exact (below_size (by repeat (first | (with_reducible first | exact HB.out | apply below_alloc | apply pw_below_drewN | apply below_drew1 | refine below_set ?_ GE432.out | refine below_set ?_ GE433.out) | exact HB.out))) : w.heap.size ≤ gb434)); have n6_ := Aside0.mk ((by rw [hg]; exact Nat.ne_of_lt (blk_lt (g := gb432) (o := .cells #[.slice A0_0 l0_0.length c0_0, .slice A0_1 l0_1.length c0_1, .int .i64 a0_2, .bool a0_3] 25 (0, 0)) (by (with_reducible repeat (first | refine blk_drewN ?_ _ | refine blk_drew ?_ | refine blk_alloc ?_ _)); exact BK432.out)) : gb432 ≠ gb434)); have n7_ := Aside0.mk ((by rw [hg]; exact Nat.ne_of_gt (blk_lt (g := gb432) (o := .cells #[.slice A0_0 l0_0.length c0_0, .slice A0_1 l0_1.length c0_1, .int .i64 a0_2, .bool a0_3] 25 (0, 0)) (by (with_reducible repeat (first | refine blk_drewN ?_ _ | refine blk_drew ?_ | refine blk_alloc ?_ _)); exact BK432.out)) : gb434 ≠ gb432)); have n8_ := Aside0.mk ((by rw [hg]; exact Nat.ne_of_lt (blk_lt (g := gb433) (o := .cells #[.int .i64 a1_0, .int .i64 a1_1, .int .i64 a1_2] 40 (0, 0)) (by (with_reducible repeat (first | refine blk_drewN ?_ _ | refine blk_drew ?_ | refine blk_alloc ?_ _)); exact BK433.out)) : gb433 ≠ gb434)); have n9_ := Aside0.mk ((by rw [hg]; exact Nat.ne_of_gt (blk_lt (g := gb433) (o := .cells #[.int .i64 a1_0, .int .i64 a1_1, .int .i64 a1_2] 40 (0, 0)) (by (with_reducible repeat (first | refine blk_drewN ?_ _ | refine blk_drew ?_ | refine blk_alloc ?_ _)); exact BK433.out)) : gb434 ≠ gb433)); clear BK432; clear BK433; clear HB; have BK432 := n0_; have BK433 := n1_; have HB := n2_; have BK434 := n3_; have GW434 := n4_; have GE434 := n5_; have NB432_434 := n6_; have NB434_432 := n7_; have NB433_434 := n8_; have NB434_433 := n9_; clear n0_ n1_ n2_ n3_ n4_ n5_ n6_ n7_ n8_ n9_; clear hb hbox hg))
  (try simp only [Act.put, List.setIfInBounds_toArray, List.set_cons_zero, List.set_cons_succ])
  go_cut [12] (fun v12 wc => ∃ (kq : Nat) (x12_2 : Bool), v12 = .bool x12_2 ∧ Aside0 (spec_WriteSuper.j0 kq x12_2 l0_0 l0_1 a0_2 a0_3 a1_0 a1_1 a1_2 = some (r1, r2, r3, r4)) ∧ Aside0 (kq ≤ k) ∧ Aside0 (wc.heap[gb432]? = some (.cells #[(.slice A0_0 l0_0.length c0_0), (.slice A0_1 l0_1.length c0_1), .int .i64 a0_2, .bool a0_3] 25 (0, 0))) ∧ Aside0 (wc.heap[gb433]? = some (.cells #[.int .i64 a1_0, .int .i64 a1_1, .int .i64 a1_2] 40 (0, 0))) ∧ Aside0 (wc.heap[gb434]? = some (.cells #[(.slice none 0 0), (.slice none 0 0), .int .i64 0, .bool false] 25 (0, 0))) ∧ Aside0 (Below w.heap.size w wc))
  case first =>
    have H := HC3.out
    clear HC3
    replace H := Option.bind_eq_some_iff.mp H
    obtain ⟨t435, A70, H⟩ := H
    replace H : (if t435 = true then ((spec_l2GoodSuper.f a1_0 a1_1 a1_2).bind fun t436 => (spec_WriteSuper.j0 k (!t436) l0_0 l0_1 a0_2 a0_3 a1_0 a1_1 a1_2)) else (spec_WriteSuper.j0 k true l0_0 l0_1 a0_2 a0_3 a1_0 a1_1 a1_2)) = some (r1, r2, r3, r4) := H
    have A7 := Aside0.mk A70
    clear A70
    by_cases c8 : t435 = true
    · subst c8
      have H1 : ((spec_l2GoodSuper.f a1_0 a1_1 a1_2).bind fun t436 => (spec_WriteSuper.j0 k (!t436) l0_0 l0_1 a0_2 a0_3 a1_0 a1_1 a1_2)) = some (r1, r2, r3, r4) := by rw [if_pos rfl] at H; exact H
      clear H
      have H := H1
      clear H1
      replace H := Option.bind_eq_some_iff.mp H
      obtain ⟨t436, A90, H⟩ := H
      replace H : (spec_WriteSuper.j0 k (!t436) l0_0 l0_1 a0_2 a0_3 a1_0 a1_1 a1_2) = some (r1, r2, r3, r4) := H
      have A9 := Aside0.mk A90
      clear A90
      have H' := Aside0.mk H
      clear H
      have hnb10 := NB432_433.out
      have hnc10 := NB433_432.out
      have hnb11 := NB432_434.out
      have hnc11 := NB434_432.out
      have hcz12_0 : w6.cell? ⟨gb432, 0, none⟩ = some (.slice A0_0 l0_0.length c0_0) := (blk_cell BK432.out 0).trans rfl
      have hcz12_1 : w6.cell? ⟨gb432, 1, none⟩ = some (.slice A0_1 l0_1.length c0_1) := (blk_cell BK432.out 1).trans rfl
      have hcz12_2 : w6.cell? ⟨gb432, 2, none⟩ = some (.int .i64 a0_2) := (blk_cell BK432.out 2).trans rfl
      have hcz12_3 : w6.cell? ⟨gb432, 3, none⟩ = some (.bool a0_3) := (blk_cell BK432.out 3).trans rfl
      have hfz12_0 := blk_frozen BK432.out 0
      have hfz12_1 := blk_frozen BK432.out 1
      have hfz12_2 := blk_frozen BK432.out 2
      have hfz12_3 := blk_frozen BK432.out 3
      go_wp2_with (first | ((with_reducible refine gate_callee (f := 11) rfl ?_); refine goesL_ (some 6) rfl rfl Try.func11 (by kernel_rfl) rfl #[.agg #[.slice A0_0 l0_0.length c0_0, .slice A0_1 l0_1.length c0_1, .int .i64 a0_2, .bool a0_3]] rfl (by (try simp only [List.map_toArray, List.map_cons, List.map_nil]); first | done | rfl | (simp only [List.length_drop, List.length_take]; rfl)) ?_; (with_reducible refine (spec_ValidDisk.calls k _ _ l0_0 _ _ l0_1 a0_2 a0_3 true _ ?side1 ?side2 ?side3 ?side4 A7.out).mono ?_); (case side1 => repeat (first | exact (Kd.C_below HR0_0.out HB.out) | (with_reducible refine Kd.C_alloc ?_ _) | (with_reducible refine Kd.C_drewN ?_ _) | (with_reducible refine Kd.C_drew ?_))); (case side2 => exact HC0_0.out); (case side3 => repeat (first | exact (Kd.C_below HR0_1.out HB.out) | (with_reducible refine Kd.C_alloc ?_ _) | (with_reducible refine Kd.C_drewN ?_ _) | (with_reducible refine Kd.C_drew ?_))); (case side4 => exact HC0_1.out); rintro e w13 ⟨rfl, hb⟩; refine ⟨_, rfl, ?_⟩; have n0_ := Aside0.mk (blk_below (g := gb432) (o := .cells #[.slice A0_0 l0_0.length c0_0, .slice A0_1 l0_1.length c0_1, .int .i64 a0_2, .bool a0_3] 25 (0, 0)) (by (with_reducible repeat (first | refine blk_drewN ?_ _ | refine blk_drew ?_ | refine blk_alloc ?_ _)); exact BK432.out) hb); have n1_ := Aside0.mk (blk_below (g := gb433) (o := .cells #[.int .i64 a1_0, .int .i64 a1_1, .int .i64 a1_2] 40 (0, 0)) (by (with_reducible repeat (first | refine blk_drewN ?_ _ | refine blk_drew ?_ | refine blk_alloc ?_ _)); exact BK433.out) hb); have n2_ := Aside0.mk (blk_below (g := gb434) (o := .cells #[.slice none 0 0, .slice none 0 0, .int .i64 0, .bool false] 25 (0, 0)) (by (with_reducible repeat (first | refine blk_drewN ?_ _ | refine blk_drew ?_ | refine blk_alloc ?_ _)); exact BK434.out) hb); have n3_ := Aside0.mk (below_step (by repeat (first | (with_reducible first | exact HB.out | apply below_alloc | apply pw_below_drewN | apply below_drew1 | refine below_set ?_ GE432.out | refine below_set ?_ GE433.out | refine below_set ?_ GE434.out) | exact HB.out)) hb); clear BK432; clear BK433; clear BK434; clear HB; have BK432 := n0_; have BK433 := n1_; have BK434 := n2_; have HB := n3_; clear n0_ n1_ n2_ n3_; (try clear hb); (try clear hb2); (try clear hk); (try clear hi); have hnb14 := NB433_434.out; have hnc14 := NB434_433.out; have hcz15_0 : w13.cell? ⟨gb433, 0, none⟩ = some (.int .i64 a1_0) := (blk_cell BK433.out 0).trans rfl; have hcz15_1 : w13.cell? ⟨gb433, 1, none⟩ = some (.int .i64 a1_1) := (blk_cell BK433.out 1).trans rfl; have hcz15_2 : w13.cell? ⟨gb433, 2, none⟩ = some (.int .i64 a1_2) := (blk_cell BK433.out 2).trans rfl; have hfz15_0 := blk_frozen BK433.out 0; have hfz15_1 := blk_frozen BK433.out 1; have hfz15_2 := blk_frozen BK433.out 2) | (go_at_call 75; (with_reducible refine (spec_l2GoodSuper.calls a1_0 a1_1 a1_2 t436 _ A9.out).mono ?_); rintro e w16 ⟨rfl, hb⟩; have n0_ := Aside0.mk (blk_below (g := gb432) (o := .cells #[.slice A0_0 l0_0.length c0_0, .slice A0_1 l0_1.length c0_1, .int .i64 a0_2, .bool a0_3] 25 (0, 0)) (by (with_reducible repeat (first | refine blk_drewN ?_ _ | refine blk_drew ?_ | refine blk_alloc ?_ _)); exact BK432.out) hb); have n1_ := Aside0.mk (blk_below (g := gb433) (o := .cells #[.int .i64 a1_0, .int .i64 a1_1, .int .i64 a1_2] 40 (0, 0)) (by (with_reducible repeat (first | refine blk_drewN ?_ _ | refine blk_drew ?_ | refine blk_alloc ?_ _)); exact BK433.out) hb); have n2_ := Aside0.mk (blk_below (g := gb434) (o := .cells #[.slice none 0 0, .slice none 0 0, .int .i64 0, .bool false] 25 (0, 0)) (by (with_reducible repeat (first | refine blk_drewN ?_ _ | refine blk_drew ?_ | refine blk_alloc ?_ _)); exact BK434.out) hb); have n3_ := Aside0.mk (below_step (by repeat (first | (with_reducible first | exact HB.out | apply below_alloc | apply pw_below_drewN | apply below_drew1 | refine below_set ?_ GE432.out | refine below_set ?_ GE433.out | refine below_set ?_ GE434.out) | exact HB.out)) hb); clear BK432; clear BK433; clear BK434; clear HB; have BK432 := n0_; have BK433 := n1_; have BK434 := n2_; have HB := n3_; clear n0_ n1_ n2_ n3_; (try clear hb); (try clear hb2); (try clear hk); (try clear hi)))
      go_meet
      case rel => exact ⟨_, (!t436), (by first | rfl | (simp; done) | (simp [*]; done)), H', ⟨by first | omega | exact Nat.le_refl _⟩, ⟨by (with_reducible repeat (first | refine blk_drewN ?_ _ | refine blk_drew ?_ | refine blk_alloc ?_ _)); exact BK432.out⟩, ⟨by (with_reducible repeat (first | refine blk_drewN ?_ _ | refine blk_drew ?_ | refine blk_alloc ?_ _)); exact BK433.out⟩, ⟨by (with_reducible repeat (first | refine blk_drewN ?_ _ | refine blk_drew ?_ | refine blk_alloc ?_ _)); exact BK434.out⟩, ⟨by repeat (first | (with_reducible first | exact HB.out | apply below_alloc | apply pw_below_drewN | apply below_drew1 | refine below_set ?_ GE432.out | refine below_set ?_ GE433.out | refine below_set ?_ GE434.out) | exact HB.out)⟩⟩
    · replace c8 := Bool.eq_false_iff.mpr c8
      subst c8
      have H1 : (spec_WriteSuper.j0 k true l0_0 l0_1 a0_2 a0_3 a1_0 a1_1 a1_2) = some (r1, r2, r3, r4) := by rw [if_neg (show ¬ (false = true) by decide)] at H; exact H
      clear H
      have H := H1
      clear H1
      have H' := Aside0.mk H
      clear H
      have hnb17 := NB432_433.out
      have hnc17 := NB433_432.out
      have hnb18 := NB432_434.out
      have hnc18 := NB434_432.out
      have hcz19_0 : w6.cell? ⟨gb432, 0, none⟩ = some (.slice A0_0 l0_0.length c0_0) := (blk_cell BK432.out 0).trans rfl
      have hcz19_1 : w6.cell? ⟨gb432, 1, none⟩ = some (.slice A0_1 l0_1.length c0_1) := (blk_cell BK432.out 1).trans rfl
      have hcz19_2 : w6.cell? ⟨gb432, 2, none⟩ = some (.int .i64 a0_2) := (blk_cell BK432.out 2).trans rfl
      have hcz19_3 : w6.cell? ⟨gb432, 3, none⟩ = some (.bool a0_3) := (blk_cell BK432.out 3).trans rfl
      have hfz19_0 := blk_frozen BK432.out 0
      have hfz19_1 := blk_frozen BK432.out 1
      have hfz19_2 := blk_frozen BK432.out 2
      have hfz19_3 := blk_frozen BK432.out 3
      go_wp2_with (first | ((with_reducible refine gate_callee (f := 11) rfl ?_); refine goesL_ (some 6) rfl rfl Try.func11 (by kernel_rfl) rfl #[.agg #[.slice A0_0 l0_0.length c0_0, .slice A0_1 l0_1.length c0_1, .int .i64 a0_2, .bool a0_3]] rfl (by (try simp only [List.map_toArray, List.map_cons, List.map_nil]); first | done | rfl | (simp only [List.length_drop, List.length_take]; rfl)) ?_; (with_reducible refine (spec_ValidDisk.calls k _ _ l0_0 _ _ l0_1 a0_2 a0_3 false _ ?side1 ?side2 ?side3 ?side4 A7.out).mono ?_); (case side1 => repeat (first | exact (Kd.C_below HR0_0.out HB.out) | (with_reducible refine Kd.C_alloc ?_ _) | (with_reducible refine Kd.C_drewN ?_ _) | (with_reducible refine Kd.C_drew ?_))); (case side2 => exact HC0_0.out); (case side3 => repeat (first | exact (Kd.C_below HR0_1.out HB.out) | (with_reducible refine Kd.C_alloc ?_ _) | (with_reducible refine Kd.C_drewN ?_ _) | (with_reducible refine Kd.C_drew ?_))); (case side4 => exact HC0_1.out); rintro e w20 ⟨rfl, hb⟩; refine ⟨_, rfl, ?_⟩; have n0_ := Aside0.mk (blk_below (g := gb432) (o := .cells #[.slice A0_0 l0_0.length c0_0, .slice A0_1 l0_1.length c0_1, .int .i64 a0_2, .bool a0_3] 25 (0, 0)) (by (with_reducible repeat (first | refine blk_drewN ?_ _ | refine blk_drew ?_ | refine blk_alloc ?_ _)); exact BK432.out) hb); have n1_ := Aside0.mk (blk_below (g := gb433) (o := .cells #[.int .i64 a1_0, .int .i64 a1_1, .int .i64 a1_2] 40 (0, 0)) (by (with_reducible repeat (first | refine blk_drewN ?_ _ | refine blk_drew ?_ | refine blk_alloc ?_ _)); exact BK433.out) hb); have n2_ := Aside0.mk (blk_below (g := gb434) (o := .cells #[.slice none 0 0, .slice none 0 0, .int .i64 0, .bool false] 25 (0, 0)) (by (with_reducible repeat (first | refine blk_drewN ?_ _ | refine blk_drew ?_ | refine blk_alloc ?_ _)); exact BK434.out) hb); have n3_ := Aside0.mk (below_step (by repeat (first | (with_reducible first | exact HB.out | apply below_alloc | apply pw_below_drewN | apply below_drew1 | refine below_set ?_ GE432.out | refine below_set ?_ GE433.out | refine below_set ?_ GE434.out) | exact HB.out)) hb); clear BK432; clear BK433; clear BK434; clear HB; have BK432 := n0_; have BK433 := n1_; have BK434 := n2_; have HB := n3_; clear n0_ n1_ n2_ n3_; (try clear hb); (try clear hb2); (try clear hk); (try clear hi)))
      go_meet
      case rel => exact ⟨_, (true), (by first | rfl | (simp; done) | (simp [*]; done)), H', ⟨by first | omega | exact Nat.le_refl _⟩, ⟨by (with_reducible repeat (first | refine blk_drewN ?_ _ | refine blk_drew ?_ | refine blk_alloc ?_ _)); exact BK432.out⟩, ⟨by (with_reducible repeat (first | refine blk_drewN ?_ _ | refine blk_drew ?_ | refine blk_alloc ?_ _)); exact BK433.out⟩, ⟨by (with_reducible repeat (first | refine blk_drewN ?_ _ | refine blk_drew ?_ | refine blk_alloc ?_ _)); exact BK434.out⟩, ⟨by repeat (first | (with_reducible first | exact HB.out | apply below_alloc | apply pw_below_drewN | apply below_drew1 | refine below_set ?_ GE432.out | refine below_set ?_ GE433.out | refine below_set ?_ GE434.out) | exact HB.out)⟩⟩
  case rest =>
    clear HC3
    try clear c1
    try clear p2
    try clear c3
    try clear c8
    try clear c10
    try clear c11
    try clear c14
    try clear c17
    try clear c18
    try clear hcz12_0
    try clear hcz12_1
    try clear hcz12_2
    try clear hcz12_3
    try clear hcz15_0
    try clear hcz15_1
    try clear hcz15_2
    try clear hcz19_0
    try clear hcz19_1
    try clear hcz19_2
    try clear hcz19_3
    try clear hfz12_0
    try clear hfz12_1
    try clear hfz12_2
    try clear hfz12_3
    try clear hfz15_0
    try clear hfz15_1
    try clear hfz15_2
    try clear hfz19_0
    try clear hfz19_1
    try clear hfz19_2
    try clear hfz19_3
    obtain ⟨kq, x12_2, rfl, HA, HJ2, BK432, BK433, BK434, HB⟩ := hcut
    cases kq with
    | zero => exact absurd HA.out (by simp [spec_WriteSuper.j0])
    | succ kj2 =>
      have H := HA.out
      clear HA
      simp only [spec_WriteSuper.j0] at H
      by_cases c21 : x12_2 = true
      · subst c21
        have H1 : ((spec_l1Copy.f kj2 l0_0 l0_1 a0_2 a0_3).bind fun bt437 => (some (bt437.1, bt437.2.1, bt437.2.2.1, bt437.2.2.2))) = some (r1, r2, r3, r4) := by rw [if_pos rfl] at H; exact H
        clear H
        have H := H1
        clear H1
        replace H := Option.bind_eq_some_iff.mp H
        obtain ⟨⟨t437, t440, t443, t444⟩, A220, H⟩ := H
        replace H : (some (t437, t440, t443, t444)) = some (r1, r2, r3, r4) := H
        have A22 := Aside0.mk A220
        clear A220
        simp only [Option.some.injEq, Prod.mk.injEq] at H
        obtain ⟨rfl, rfl, rfl, rfl⟩ := H
        have hnb23 := NB432_433.out
        have hnc23 := NB433_432.out
        have hnb24 := NB432_434.out
        have hnc24 := NB434_432.out
        have hcz25_0 : wc.cell? ⟨gb432, 0, none⟩ = some (.slice A0_0 l0_0.length c0_0) := (blk_cell BK432.out 0).trans rfl
        have hcz25_1 : wc.cell? ⟨gb432, 1, none⟩ = some (.slice A0_1 l0_1.length c0_1) := (blk_cell BK432.out 1).trans rfl
        have hcz25_2 : wc.cell? ⟨gb432, 2, none⟩ = some (.int .i64 a0_2) := (blk_cell BK432.out 2).trans rfl
        have hcz25_3 : wc.cell? ⟨gb432, 3, none⟩ = some (.bool a0_3) := (blk_cell BK432.out 3).trans rfl
        have hfz25_0 := blk_frozen BK432.out 0
        have hfz25_1 := blk_frozen BK432.out 1
        have hfz25_2 := blk_frozen BK432.out 2
        have hfz25_3 := blk_frozen BK432.out 3
        go_wp2_with (first | ((with_reducible refine gate_callee (f := 76) rfl ?_); refine goesL_ (some 14) rfl rfl Try.func76 (by kernel_rfl) rfl #[.agg #[.slice A0_0 l0_0.length c0_0, .slice A0_1 l0_1.length c0_1, .int .i64 a0_2, .bool a0_3]] rfl (by (try simp only [List.map_toArray, List.map_cons, List.map_nil]); first | done | rfl | (simp only [List.length_drop, List.length_take]; rfl)) ?_; (with_reducible refine (spec_l1Copy.calls kj2 _ _ l0_0 _ _ l0_1 a0_2 a0_3 t437 t440 t443 t444 _ ?side1 ?side2 ?side3 ?side4 A22.out).mono ?_); (case side1 => repeat (first | exact (Kd.C_below HR0_0.out HB.out) | (with_reducible refine Kd.C_alloc ?_ _) | (with_reducible refine Kd.C_drewN ?_ _) | (with_reducible refine Kd.C_drew ?_))); (case side2 => exact HC0_0.out); (case side3 => repeat (first | exact (Kd.C_below HR0_1.out HB.out) | (with_reducible refine Kd.C_alloc ?_ _) | (with_reducible refine Kd.C_drewN ?_ _) | (with_reducible refine Kd.C_drew ?_))); (case side4 => exact HC0_1.out); rintro e w26 ⟨v438, v441, rfl, ho0, ho1, hb⟩; refine ⟨_, rfl, ?_⟩; have n0_ := Aside0.mk (Kd.R_lower ho0 (below_size (by repeat (first | (with_reducible first | exact HB.out | apply below_alloc | apply pw_below_drewN | apply below_drew1 | refine below_set ?_ GE432.out | refine below_set ?_ GE433.out | refine below_set ?_ GE434.out) | exact HB.out)))); have n1_ := Aside0.mk (Kd.S_lower ho1 (below_size (by repeat (first | (with_reducible first | exact HB.out | apply below_alloc | apply pw_below_drewN | apply below_drew1 | refine below_set ?_ GE432.out | refine below_set ?_ GE433.out | refine below_set ?_ GE434.out) | exact HB.out)))); have n2_ := Aside0.mk (blk_below (g := gb432) (o := .cells #[.slice A0_0 l0_0.length c0_0, .slice A0_1 l0_1.length c0_1, .int .i64 a0_2, .bool a0_3] 25 (0, 0)) (by (with_reducible repeat (first | refine blk_drewN ?_ _ | refine blk_drew ?_ | refine blk_alloc ?_ _)); exact BK432.out) hb); have n3_ := Aside0.mk (blk_below (g := gb433) (o := .cells #[.int .i64 a1_0, .int .i64 a1_1, .int .i64 a1_2] 40 (0, 0)) (by (with_reducible repeat (first | refine blk_drewN ?_ _ | refine blk_drew ?_ | refine blk_alloc ?_ _)); exact BK433.out) hb); have n4_ := Aside0.mk (blk_below (g := gb434) (o := .cells #[.slice none 0 0, .slice none 0 0, .int .i64 0, .bool false] 25 (0, 0)) (by (with_reducible repeat (first | refine blk_drewN ?_ _ | refine blk_drew ?_ | refine blk_alloc ?_ _)); exact BK434.out) hb); have n5_ := Aside0.mk (below_step (by repeat (first | (with_reducible first | exact HB.out | apply below_alloc | apply pw_below_drewN | apply below_drew1 | refine below_set ?_ GE432.out | refine below_set ?_ GE433.out | refine below_set ?_ GE434.out) | exact HB.out)) hb); clear BK432; clear BK433; clear BK434; clear HB; have HO439 := n0_; have HO442 := n1_; have BK432 := n2_; have BK433 := n3_; have BK434 := n4_; have HB := n5_; clear n0_ n1_ n2_ n3_ n4_ n5_; (try clear hb); (try clear hb2); (try clear hk); (try clear hi); (try clear ho0); (try clear ho1); obtain ⟨Ao27, co27, eo27⟩ := Kd.R_slice HO439.out; subst eo27; have hnb28 := NB434_433.out; have hnc28 := NB433_434.out; have hcz29_0 : w26.cell? ⟨gb434, 0, none⟩ = some (.slice none 0 0) := (blk_cell BK434.out 0).trans rfl; have hcz29_1 : w26.cell? ⟨gb434, 1, none⟩ = some (.slice none 0 0) := (blk_cell BK434.out 1).trans rfl; have hcz29_2 : w26.cell? ⟨gb434, 2, none⟩ = some (.int .i64 0) := (blk_cell BK434.out 2).trans rfl; have hcz29_3 : w26.cell? ⟨gb434, 3, none⟩ = some (.bool false) := (blk_cell BK434.out 3).trans rfl; have hfz29_0 := blk_frozen BK434.out 0; have hfz29_1 := blk_frozen BK434.out 1; have hfz29_2 := blk_frozen BK434.out 2; have hfz29_3 := blk_frozen BK434.out 3; obtain ⟨Ao30, co30, eo30⟩ := Kd.S_slice HO442.out; subst eo30))
        refine bodyPost_ret (results_cell_row rfl _ _ gb434 25 #[.slice Ao27 t437.length co27, .slice Ao30 t440.length co30, .int .i64 t443, .bool t444] (0, 0) _ rfl (by (with_reducible repeat (first | refine blk_drewN ?_ _ | refine blk_drew ?_ | refine blk_alloc ?_ _)); refine blk_put (cs := #[.slice Ao27 t437.length co27, .slice Ao30 t440.length co30, .int .i64 t443, .bool false]) ?_ 3 _ rfl; (with_reducible repeat (first | refine blk_drewN ?_ _ | refine blk_drew ?_ | refine blk_alloc ?_ _)); refine blk_put (cs := #[.slice Ao27 t437.length co27, .slice Ao30 t440.length co30, .int .i64 0, .bool false]) ?_ 2 _ rfl; (with_reducible repeat (first | refine blk_drewN ?_ _ | refine blk_drew ?_ | refine blk_alloc ?_ _)); refine blk_put (cs := #[.slice Ao27 t437.length co27, .slice none 0 0, .int .i64 0, .bool false]) ?_ 1 _ rfl; (with_reducible repeat (first | refine blk_drewN ?_ _ | refine blk_drew ?_ | refine blk_alloc ?_ _)); refine blk_put (cs := #[.slice none 0 0, .slice none 0 0, .int .i64 0, .bool false]) ?_ 0 _ rfl; (with_reducible repeat (first | refine blk_drewN ?_ _ | refine blk_drew ?_ | refine blk_alloc ?_ _)); exact BK434.out) Try.underlying25 rfl (by kernel_rfl)) rfl ?_
        exact ⟨_, _, by first | rfl | (simp [errW_none, errW_some] <;> rfl) | (simp [*, errW_none, errW_some] <;> rfl), by (with_reducible repeat (first | apply Kd.R_alloc | apply Kd.R_drewN | apply Kd.R_drew)); exact Kd.R_mono (Kd.R_far (p := ⟨gb434, 3, none⟩) (Kd.R_far (p := ⟨gb434, 2, none⟩) (Kd.R_far (p := ⟨gb434, 1, none⟩) (Kd.R_far (p := ⟨gb434, 0, none⟩) (Kd.R_types HO439.out BK434.out (by decide)) (fun _ hk => hk.2) (.slice Ao27 t437.length co27)) (fun _ hk => hk.2) (.slice Ao30 t440.length co30)) (fun _ hk => hk.2) (.int .i64 t443)) (fun _ hk => hk.2) (.bool t444)) (fun _ hk => trivial), by (with_reducible repeat (first | apply Kd.S_alloc | apply Kd.S_drewN | apply Kd.S_drew)); exact Kd.S_mono (Kd.S_far (p := ⟨gb434, 3, none⟩) (Kd.S_far (p := ⟨gb434, 2, none⟩) (Kd.S_far (p := ⟨gb434, 1, none⟩) (Kd.S_far (p := ⟨gb434, 0, none⟩) (Kd.S_types HO442.out BK434.out (by decide)) (fun _ hk => hk.2) (.slice Ao27 t437.length co27)) (fun _ hk => hk.2) (.slice Ao30 t440.length co30)) (fun _ hk => hk.2) (.int .i64 t443)) (fun _ hk => hk.2) (.bool t444)) (fun _ hk => hk.1), by repeat (first | (with_reducible first | exact HB.out | apply below_alloc | apply pw_below_drewN | apply below_drew1 | refine below_set ?_ GE432.out | refine below_set ?_ GE433.out | refine below_set ?_ GE434.out) | exact HB.out)⟩
      · replace c21 := Bool.eq_false_iff.mpr c21
        subst c21
        have H1 : ((spec_l2SuperBytes.f kj2 a1_0 a1_1 a1_2).bind fun t445 => ((spec_DiskWrite.f kj2 l0_0 l0_1 a0_2 a0_3 (Int.tmod a1_0 2) t445).bind fun bt448 => ((spec_DiskSync.f kj2 bt448.1 bt448.2.1 bt448.2.2.1 bt448.2.2.2).bind fun bt456 => (some (bt456.1, bt456.2.1, bt456.2.2.1, bt456.2.2.2))))) = some (r1, r2, r3, r4) := by rw [if_neg (show ¬ (false = true) by decide)] at H; exact H
        clear H
        have H := H1
        clear H1
        replace H := Option.bind_eq_some_iff.mp H
        obtain ⟨t445, A310, H⟩ := H
        replace H : ((spec_DiskWrite.f kj2 l0_0 l0_1 a0_2 a0_3 (Int.tmod a1_0 2) t445).bind fun bt448 => ((spec_DiskSync.f kj2 bt448.1 bt448.2.1 bt448.2.2.1 bt448.2.2.2).bind fun bt456 => (some (bt456.1, bt456.2.1, bt456.2.2.1, bt456.2.2.2)))) = some (r1, r2, r3, r4) := H
        have A31 := Aside0.mk A310
        clear A310
        replace H := Option.bind_eq_some_iff.mp H
        obtain ⟨⟨t448, t451, t454, t455⟩, A320, H⟩ := H
        replace H : ((spec_DiskSync.f kj2 t448 t451 t454 t455).bind fun bt456 => (some (bt456.1, bt456.2.1, bt456.2.2.1, bt456.2.2.2))) = some (r1, r2, r3, r4) := H
        have A32 := Aside0.mk A320
        clear A320
        replace H := Option.bind_eq_some_iff.mp H
        obtain ⟨⟨t456, t459, t462, t463⟩, A330, H⟩ := H
        replace H : (some (t456, t459, t462, t463)) = some (r1, r2, r3, r4) := H
        have A33 := Aside0.mk A330
        clear A330
        simp only [Option.some.injEq, Prod.mk.injEq] at H
        obtain ⟨rfl, rfl, rfl, rfl⟩ := H
        try go_wp2
        have n0_ := Aside0.mk (blk_drew BK432.out)
        have n1_ := Aside0.mk (blk_drew BK433.out)
        have n2_ := Aside0.mk (blk_drew BK434.out)
        have n3_ := Aside0.mk (below_drew1 HB.out)
        clear BK432
        clear BK433
        clear BK434
        clear HB
        have BK432 := n0_
        have BK433 := n1_
        have BK434 := n2_
        have HB := n3_
        clear n0_ n1_ n2_ n3_
        refine start_ (n := 9) (S := fun w' => w'.cell? ⟨gb432, 0, none⟩ = some (.slice A0_0 l0_0.length c0_0) ∧ w'.cell? ⟨gb432, 1, none⟩ = some (.slice A0_1 l0_1.length c0_1) ∧ w'.cell? ⟨gb432, 2, none⟩ = some (.int .i64 a0_2) ∧ w'.cell? ⟨gb432, 3, none⟩ = some (.bool a0_3) ∧ w'.cell? ⟨gb433, 0, none⟩ = some (.int .i64 a1_0) ∧ w'.cell? ⟨gb433, 1, none⟩ = some (.int .i64 a1_1) ∧ w'.cell? ⟨gb433, 2, none⟩ = some (.int .i64 a1_2)) (ds := []) #[false, false, false, false, false, false, false, false, false] (by kernel_rfl) rfl rfl ⟨(blk_cell BK432.out 0).trans rfl, (blk_cell BK432.out 1).trans rfl, (blk_cell BK432.out 2).trans rfl, (blk_cell BK432.out 3).trans rfl, (blk_cell BK433.out 0).trans rfl, (blk_cell BK433.out 1).trans rfl, (blk_cell BK433.out 2).trans rfl⟩ (fun hHeld => ?_); refine with_tabW spec_WriteSuper.tab3 spec_WriteSuper.bits3 (fun HT_ HW_ => ?_)
        generalize wc.drew = w34 at BK432 BK433 BK434 HB hHeld ⊢
        refine pure_ (i := 1) (N := some 16) (v := ?_) (a' := ?_) #[false, true, false, false, false, false, false, false, false] rfl rfl (any_of HT_.out (by kernel_rfl)) (fun _ _ _ h => h) (Or.inl ⟨by rfl, ?_⟩) ?_ ?_
        rotate_left
        · intro w'
          go_simp
          with_reducible rfl
        rotate_left
        · simp only [Act.put, List.setIfInBounds_toArray, List.set_cons_zero, List.set_cons_succ, i64_w, i32_w]
          rfl
        refine take_ (i := 0) (N := some 15) (v := ?_) (a' := ?_) #[true, true, false, false, false, false, false, false, false] rfl rfl (take_ofW HT_.out HW_.out (by kernel_rfl)) (fun _ _ _ h => h) (Or.inl ⟨by rfl, ?_⟩) hHeld ?_ ?_
        rotate_left
        · rintro w' ⟨s0, s1, s2, s3, s4, s5, s6⟩
          go_simp
          with_reducible rfl
        rotate_left
        · simp only [Act.put, List.setIfInBounds_toArray, List.set_cons_zero, List.set_cons_succ, i64_w, i32_w]
          rfl
        refine take_ (i := 2) (N := some 17) (v := ?_) (a' := ?_) #[true, true, true, false, false, false, false, false, false] rfl rfl (take_ofW HT_.out HW_.out (by kernel_rfl)) (fun _ _ _ h => h) (Or.inl ⟨by rfl, ?_⟩) hHeld ?_ ?_
        rotate_left
        · rintro w' ⟨s0, s1, s2, s3, s4, s5, s6⟩
          go_simp
          with_reducible rfl
        rotate_left
        · simp only [Act.put, List.setIfInBounds_toArray, List.set_cons_zero, List.set_cons_succ, i64_w, i32_w]
          rfl
        refine pure_ (i := 3) (N := some 18) (v := ?_) (a' := ?_) #[true, true, true, true, false, false, false, false, false] rfl rfl (any_of HT_.out (by kernel_rfl)) (fun _ _ _ h => h) (Or.inl ⟨by rfl, ?_⟩) ?_ ?_
        rotate_left
        · intro w'
          go_simp
          with_reducible rfl
        rotate_left
        · simp only [Act.put, List.setIfInBounds_toArray, List.set_cons_zero, List.set_cons_succ, i64_w, i32_w]
          rfl
        refine take_ (i := 4) (N := some 19) (v := ?_) (a' := ?_) #[true, true, true, true, true, false, false, false, false] rfl rfl (take_ofW HT_.out HW_.out (by kernel_rfl)) (fun _ _ _ h => h) (Or.inl ⟨by rfl, ?_⟩) hHeld ?_ ?_
        rotate_left
        · rintro w' ⟨s0, s1, s2, s3, s4, s5, s6⟩
          go_simp
          with_reducible rfl
        rotate_left
        · simp only [Act.put, List.setIfInBounds_toArray, List.set_cons_zero, List.set_cons_succ, i64_w, i32_w]
          rfl
        refine one_ (i := 5) (N := some 20) #[true, true, true, true, true, true, false, false, false] rfl rfl (one_of HT_.out (by kernel_rfl)) (by decide) (fun K hK => ?_)
        refine goes_ Try.func79 (by kernel_rfl) rfl #[.agg #[.int .i64 a1_0, .int .i64 a1_1, .int .i64 a1_2]] (by rfl) rfl rfl (by (try simp only [List.map_toArray, List.map_cons, List.map_nil]); first | done | rfl | (simp only [List.length_drop, List.length_take]; rfl)) ?_
        with_reducible refine (spec_l2SuperBytes.calls kj2 a1_0 a1_1 a1_2 t445 _ A31.out).mono ?_
        rintro e w35 ⟨v446, rfl, ho0, hb⟩
        refine ⟨_, rfl, ?_⟩
        have n0_ := Aside0.mk (Kd.R_lower ho0 (below_size (by repeat (first | (with_reducible first | exact HB.out | apply below_alloc | apply pw_below_drewN | apply below_drew1 | refine below_set ?_ GE432.out | refine below_set ?_ GE433.out | refine below_set ?_ GE434.out) | exact HB.out))))
        have n1_ := Aside0.mk (blk_below (g := gb432) (o := .cells #[.slice A0_0 l0_0.length c0_0, .slice A0_1 l0_1.length c0_1, .int .i64 a0_2, .bool a0_3] 25 (0, 0)) (by (with_reducible repeat (first | refine blk_drewN ?_ _ | refine blk_drew ?_ | refine blk_alloc ?_ _)); exact BK432.out) hb)
        have n2_ := Aside0.mk (blk_below (g := gb433) (o := .cells #[.int .i64 a1_0, .int .i64 a1_1, .int .i64 a1_2] 40 (0, 0)) (by (with_reducible repeat (first | refine blk_drewN ?_ _ | refine blk_drew ?_ | refine blk_alloc ?_ _)); exact BK433.out) hb)
        have n3_ := Aside0.mk (blk_below (g := gb434) (o := .cells #[.slice none 0 0, .slice none 0 0, .int .i64 0, .bool false] 25 (0, 0)) (by (with_reducible repeat (first | refine blk_drewN ?_ _ | refine blk_drew ?_ | refine blk_alloc ?_ _)); exact BK434.out) hb)
        have n4_ := Aside0.mk (below_step (by repeat (first | (with_reducible first | exact HB.out | apply below_alloc | apply pw_below_drewN | apply below_drew1 | refine below_set ?_ GE432.out | refine below_set ?_ GE433.out | refine below_set ?_ GE434.out) | exact HB.out)) hb)
        clear BK432
        clear BK433
        clear BK434
        clear HB
        have HO447 := n0_
        have BK432 := n1_
        have BK433 := n2_
        have BK434 := n3_
        have HB := n4_
        clear n0_ n1_ n2_ n3_ n4_
        (try clear hb)
        (try clear hb2)
        (try clear hk)
        (try clear hi)
        (try clear ho0)
        obtain ⟨Ao36, co36, eo36⟩ := Kd.R_slice HO447.out
        (first | subst eo36 | (injection eo36 with f1_ f2_ f3_; have f4_ := f1_.symm; have f5_ := f3_.symm; clear f1_ f2_ f3_; subst f4_; subst f5_))
        refine hK.out _ _ ⟨(blk_cell BK432.out 0).trans rfl, (blk_cell BK432.out 1).trans rfl, (blk_cell BK432.out 2).trans rfl, (blk_cell BK432.out 3).trans rfl, (blk_cell BK433.out 0).trans rfl, (blk_cell BK433.out 1).trans rfl, (blk_cell BK433.out 2).trans rfl⟩ (fun hHeld => ?_)
        clear hK K
        refine norm_ (a' := ?_) ?_ ?_
        rotate_left
        · show Act.put _ (some 20) _ = _
          simp only [Act.put, List.setIfInBounds_toArray, List.set_cons_zero, List.set_cons_succ, i64_w, i32_w]
          rfl
        refine one_ (i := 6) (N := some 21) #[true, true, true, true, true, true, true, false, false] rfl rfl (one_of HT_.out (by kernel_rfl)) (by decide) (fun K hK => ?_)
        refine goes_ Try.func78 (by kernel_rfl) rfl #[.agg #[.slice A0_0 l0_0.length c0_0, .slice A0_1 l0_1.length c0_1, .int .i64 a0_2, .bool a0_3], .int .i64 (Int.tmod a1_0 2), .slice Ao36 t445.length co36] (by rfl) rfl rfl (by (try simp only [List.map_toArray, List.map_cons, List.map_nil]); first | done | rfl | (simp only [List.length_drop, List.length_take]; rfl)) ?_
        with_reducible refine (spec_DiskWrite.calls kj2 _ _ l0_0 _ _ l0_1 a0_2 a0_3 (Int.tmod a1_0 2) _ _ t445 t448 t451 t454 t455 _ ?side1 ?side2 ?side3 ?side4 ?side5 ?side6 A32.out).mono ?_
        (case side1 => repeat (first | exact (Kd.C_below HR0_0.out HB.out) | (with_reducible refine Kd.C_alloc ?_ _) | (with_reducible refine Kd.C_drewN ?_ _) | (with_reducible refine Kd.C_drew ?_)))
        (case side2 => exact HC0_0.out)
        (case side3 => repeat (first | exact (Kd.C_below HR0_1.out HB.out) | (with_reducible refine Kd.C_alloc ?_ _) | (with_reducible refine Kd.C_drewN ?_ _) | (with_reducible refine Kd.C_drew ?_)))
        (case side4 => exact HC0_1.out)
        (case side5 => repeat (first | exact (Kd.R_reads' HO447.out).2.2 | (with_reducible refine Kd.C_alloc ?_ _) | (with_reducible refine Kd.C_drewN ?_ _) | (with_reducible refine Kd.C_drew ?_)))
        (case side6 => exact (Kd.R_reads' HO447.out).2.1)
        rintro e w37 ⟨v449, v452, rfl, ho0, ho1, hb⟩
        refine ⟨_, rfl, ?_⟩
        have n0_ := Aside0.mk (Kd.R_elder' (by (with_reducible repeat (first | apply Kd.R_alloc | apply Kd.R_drewN | apply Kd.R_drew)); exact HO447.out) (Kd.R_base ho0) hb)
        have n1_ := Aside0.mk (Kd.R_lower (Kd.R_new' ho0 (Kd.R_lt (by (with_reducible repeat (first | apply Kd.R_alloc | apply Kd.R_drewN | apply Kd.R_drew)); exact HO447.out))) (below_size (by repeat (first | (with_reducible first | exact HB.out | apply below_alloc | apply pw_below_drewN | apply below_drew1 | refine below_set ?_ GE432.out | refine below_set ?_ GE433.out | refine below_set ?_ GE434.out) | exact HB.out))))
        have n2_ := Aside0.mk (Kd.S_lower (Kd.S_new' ho1 (Kd.R_lt (by (with_reducible repeat (first | apply Kd.R_alloc | apply Kd.R_drewN | apply Kd.R_drew)); exact HO447.out))) (below_size (by repeat (first | (with_reducible first | exact HB.out | apply below_alloc | apply pw_below_drewN | apply below_drew1 | refine below_set ?_ GE432.out | refine below_set ?_ GE433.out | refine below_set ?_ GE434.out) | exact HB.out))))
        have n3_ := Aside0.mk (blk_below (g := gb432) (o := .cells #[.slice A0_0 l0_0.length c0_0, .slice A0_1 l0_1.length c0_1, .int .i64 a0_2, .bool a0_3] 25 (0, 0)) (by (with_reducible repeat (first | refine blk_drewN ?_ _ | refine blk_drew ?_ | refine blk_alloc ?_ _)); exact BK432.out) hb)
        have n4_ := Aside0.mk (blk_below (g := gb433) (o := .cells #[.int .i64 a1_0, .int .i64 a1_1, .int .i64 a1_2] 40 (0, 0)) (by (with_reducible repeat (first | refine blk_drewN ?_ _ | refine blk_drew ?_ | refine blk_alloc ?_ _)); exact BK433.out) hb)
        have n5_ := Aside0.mk (blk_below (g := gb434) (o := .cells #[.slice none 0 0, .slice none 0 0, .int .i64 0, .bool false] 25 (0, 0)) (by (with_reducible repeat (first | refine blk_drewN ?_ _ | refine blk_drew ?_ | refine blk_alloc ?_ _)); exact BK434.out) hb)
        have n6_ := Aside0.mk (below_step (by repeat (first | (with_reducible first | exact HB.out | apply below_alloc | apply pw_below_drewN | apply below_drew1 | refine below_set ?_ GE432.out | refine below_set ?_ GE433.out | refine below_set ?_ GE434.out) | exact HB.out)) hb)
        clear HO447
        clear BK432
        clear BK433
        clear BK434
        clear HB
        have HO447 := n0_
        have HO450 := n1_
        have HO453 := n2_
        have BK432 := n3_
        have BK433 := n4_
        have BK434 := n5_
        have HB := n6_
        clear n0_ n1_ n2_ n3_ n4_ n5_ n6_
        (try clear hb)
        (try clear hb2)
        (try clear hk)
        (try clear hi)
        (try clear ho0)
        (try clear ho1)
        obtain ⟨Ao38, co38, eo38⟩ := Kd.R_slice HO450.out
        (first | subst eo38 | (injection eo38 with f1_ f2_ f3_; have f4_ := f1_.symm; have f5_ := f3_.symm; clear f1_ f2_ f3_; subst f4_; subst f5_))
        obtain ⟨Ao39, co39, eo39⟩ := Kd.S_slice HO453.out
        (first | subst eo39 | (injection eo39 with f1_ f2_ f3_; have f4_ := f1_.symm; have f5_ := f3_.symm; clear f1_ f2_ f3_; subst f4_; subst f5_))
        refine hK.out _ _ ⟨(blk_cell BK432.out 0).trans rfl, (blk_cell BK432.out 1).trans rfl, (blk_cell BK432.out 2).trans rfl, (blk_cell BK432.out 3).trans rfl, (blk_cell BK433.out 0).trans rfl, (blk_cell BK433.out 1).trans rfl, (blk_cell BK433.out 2).trans rfl⟩ (fun hHeld => ?_)
        clear hK K
        refine norm_ (a' := ?_) ?_ ?_
        rotate_left
        · show Act.put _ (some 21) _ = _
          simp only [Act.put, List.setIfInBounds_toArray, List.set_cons_zero, List.set_cons_succ, i64_w, i32_w]
          rfl
        refine one_ (i := 7) (N := some 22) #[true, true, true, true, true, true, true, true, false] rfl rfl (one_of HT_.out (by kernel_rfl)) (by decide) (fun K hK => ?_)
        refine goes_ Try.func77 (by kernel_rfl) rfl #[.agg #[.slice Ao38 t448.length co38, .slice Ao39 t451.length co39, .int .i64 t454, .bool t455]] (by rfl) rfl rfl (by (try simp only [List.map_toArray, List.map_cons, List.map_nil]); first | done | rfl | (simp only [List.length_drop, List.length_take]; rfl)) ?_
        with_reducible refine (spec_DiskSync.calls kj2 _ _ t448 _ _ t451 t454 t455 t456 t459 t462 t463 _ ?side1 ?side2 ?side3 ?side4 A33.out).mono ?_
        (case side1 => repeat (first | exact (Kd.R_reads' HO450.out).2.2 | (with_reducible refine Kd.C_alloc ?_ _) | (with_reducible refine Kd.C_drewN ?_ _) | (with_reducible refine Kd.C_drew ?_)))
        (case side2 => exact (Kd.R_reads' HO450.out).2.1)
        (case side3 => repeat (first | exact (Kd.S_reads' HO453.out).2.2 | (with_reducible refine Kd.C_alloc ?_ _) | (with_reducible refine Kd.C_drewN ?_ _) | (with_reducible refine Kd.C_drew ?_)))
        (case side4 => exact (Kd.S_reads' HO453.out).2.1)
        rintro e w40 ⟨v457, v460, rfl, ho0, ho1, hb⟩
        refine ⟨_, rfl, ?_⟩
        have n0_ := Aside0.mk (Kd.R_elder' (by (with_reducible repeat (first | apply Kd.R_alloc | apply Kd.R_drewN | apply Kd.R_drew)); exact HO447.out) (Kd.R_base ho0) hb)
        have n1_ := Aside0.mk (Kd.R_elder' (by (with_reducible repeat (first | apply Kd.R_alloc | apply Kd.R_drewN | apply Kd.R_drew)); exact HO450.out) (Kd.R_base ho0) hb)
        have n2_ := Aside0.mk (Kd.S_mono (Kd.S_told (Kd.S_told (Kd.S_old (by (with_reducible repeat (first | apply Kd.S_alloc | apply Kd.S_drewN | apply Kd.S_drew)); exact HO453.out) hb) (Kd.R_base ho0)) (Kd.S_base ho1)) (fun _ h_ => h_.1))
        have n3_ := Aside0.mk (Kd.R_lower (Kd.R_new' (Kd.R_new' ho0 (Kd.R_lt (by (with_reducible repeat (first | apply Kd.R_alloc | apply Kd.R_drewN | apply Kd.R_drew)); exact HO447.out))) (Kd.R_lt (by (with_reducible repeat (first | apply Kd.R_alloc | apply Kd.R_drewN | apply Kd.R_drew)); exact HO450.out))) (below_size (by repeat (first | (with_reducible first | exact HB.out | apply below_alloc | apply pw_below_drewN | apply below_drew1 | refine below_set ?_ GE432.out | refine below_set ?_ GE433.out | refine below_set ?_ GE434.out) | exact HB.out))))
        have n4_ := Aside0.mk (Kd.S_lower (Kd.S_new' (Kd.S_new' (Kd.S_new' ho1 (Kd.R_lt (by (with_reducible repeat (first | apply Kd.R_alloc | apply Kd.R_drewN | apply Kd.R_drew)); exact HO447.out))) (Kd.R_lt (by (with_reducible repeat (first | apply Kd.R_alloc | apply Kd.R_drewN | apply Kd.R_drew)); exact HO450.out))) (Kd.S_lt (by (with_reducible repeat (first | apply Kd.S_alloc | apply Kd.S_drewN | apply Kd.S_drew)); exact HO453.out))) (below_size (by repeat (first | (with_reducible first | exact HB.out | apply below_alloc | apply pw_below_drewN | apply below_drew1 | refine below_set ?_ GE432.out | refine below_set ?_ GE433.out | refine below_set ?_ GE434.out) | exact HB.out))))
        have n5_ := Aside0.mk (blk_below (g := gb432) (o := .cells #[.slice A0_0 l0_0.length c0_0, .slice A0_1 l0_1.length c0_1, .int .i64 a0_2, .bool a0_3] 25 (0, 0)) (by (with_reducible repeat (first | refine blk_drewN ?_ _ | refine blk_drew ?_ | refine blk_alloc ?_ _)); exact BK432.out) hb)
        have n6_ := Aside0.mk (blk_below (g := gb433) (o := .cells #[.int .i64 a1_0, .int .i64 a1_1, .int .i64 a1_2] 40 (0, 0)) (by (with_reducible repeat (first | refine blk_drewN ?_ _ | refine blk_drew ?_ | refine blk_alloc ?_ _)); exact BK433.out) hb)
        have n7_ := Aside0.mk (blk_below (g := gb434) (o := .cells #[.slice none 0 0, .slice none 0 0, .int .i64 0, .bool false] 25 (0, 0)) (by (with_reducible repeat (first | refine blk_drewN ?_ _ | refine blk_drew ?_ | refine blk_alloc ?_ _)); exact BK434.out) hb)
        have n8_ := Aside0.mk (below_step (by repeat (first | (with_reducible first | exact HB.out | apply below_alloc | apply pw_below_drewN | apply below_drew1 | refine below_set ?_ GE432.out | refine below_set ?_ GE433.out | refine below_set ?_ GE434.out) | exact HB.out)) hb)
        clear HO447
        clear HO450
        clear HO453
        clear BK432
        clear BK433
        clear BK434
        clear HB
        have HO447 := n0_
        have HO450 := n1_
        have HO453 := n2_
        have HO458 := n3_
        have HO461 := n4_
        have BK432 := n5_
        have BK433 := n6_
        have BK434 := n7_
        have HB := n8_
        clear n0_ n1_ n2_ n3_ n4_ n5_ n6_ n7_ n8_
        (try clear hb)
        (try clear hb2)
        (try clear hk)
        (try clear hi)
        (try clear ho0)
        (try clear ho1)
        obtain ⟨Ao41, co41, eo41⟩ := Kd.R_slice HO458.out
        (first | subst eo41 | (injection eo41 with f1_ f2_ f3_; have f4_ := f1_.symm; have f5_ := f3_.symm; clear f1_ f2_ f3_; subst f4_; subst f5_))
        obtain ⟨Ao43, co43, eo43⟩ := Kd.S_slice HO461.out
        (first | subst eo43 | (injection eo43 with f1_ f2_ f3_; have f4_ := f1_.symm; have f5_ := f3_.symm; clear f1_ f2_ f3_; subst f4_; subst f5_))
        refine hK.out _ _ ⟨(blk_cell BK432.out 0).trans rfl, (blk_cell BK432.out 1).trans rfl, (blk_cell BK432.out 2).trans rfl, (blk_cell BK432.out 3).trans rfl, (blk_cell BK433.out 0).trans rfl, (blk_cell BK433.out 1).trans rfl, (blk_cell BK433.out 2).trans rfl⟩ (fun hHeld => ?_)
        clear hK K
        refine norm_ (a' := ?_) ?_ ?_
        rotate_left
        · show Act.put _ (some 22) _ = _
          simp only [Act.put, List.setIfInBounds_toArray, List.set_cons_zero, List.set_cons_succ, i64_w, i32_w]
          rfl
        refine one_ (i := 8) (N := none) #[true, true, true, true, true, true, true, true, true] rfl rfl (one_of HT_.out (by kernel_rfl)) (by decide) (fun K hK => ?_)
        have hs42 : w40.cell? ⟨gb434, 0, none⟩ = some (.slice none 0 0) := (blk_cell BK434.out 0).trans rfl
        have hfs42 := blk_frozen BK434.out 0
        have hns42_0 := NB432_434.out
        have hns42_1 := NB433_434.out
        have hms42_0 := NB434_432.out
        have hms42_1 := NB434_433.out
        have hs44 : w40.cell? ⟨gb434, 1, none⟩ = some (.slice none 0 0) := (blk_cell BK434.out 1).trans rfl
        have hfs44 := blk_frozen BK434.out 1
        have hns44_0 := NB432_434.out
        have hns44_1 := NB433_434.out
        have hms44_0 := NB434_432.out
        have hms44_1 := NB434_433.out
        have hs45 : w40.cell? ⟨gb434, 2, none⟩ = some (.int .i64 0) := (blk_cell BK434.out 2).trans rfl
        have hfs45 := blk_frozen BK434.out 2
        have hns45_0 := NB432_434.out
        have hns45_1 := NB433_434.out
        have hms45_0 := NB434_432.out
        have hms45_1 := NB434_433.out
        have hs46 : w40.cell? ⟨gb434, 3, none⟩ = some (.bool false) := (blk_cell BK434.out 3).trans rfl
        have hfs46 := blk_frozen BK434.out 3
        have hns46_0 := NB432_434.out
        have hns46_1 := NB433_434.out
        have hms46_0 := NB434_432.out
        have hms46_1 := NB434_433.out
        refine skip_ (w1 := ?_) (by rfl) rfl ?_ ?_
        rotate_left
        · go_simp
          rfl
        refine hK.out _ _ ⟨((cell_far (p := ⟨gb434, _, none⟩) NB432_434.out _).trans (((cell_far (p := ⟨gb434, _, none⟩) NB432_434.out _).trans (((cell_far (p := ⟨gb434, _, none⟩) NB432_434.out _).trans (((cell_far (p := ⟨gb434, _, none⟩) NB432_434.out _).trans (hHeld.1)))))))), ((cell_far (p := ⟨gb434, _, none⟩) NB432_434.out _).trans (((cell_far (p := ⟨gb434, _, none⟩) NB432_434.out _).trans (((cell_far (p := ⟨gb434, _, none⟩) NB432_434.out _).trans (((cell_far (p := ⟨gb434, _, none⟩) NB432_434.out _).trans (hHeld.2.1)))))))), ((cell_far (p := ⟨gb434, _, none⟩) NB432_434.out _).trans (((cell_far (p := ⟨gb434, _, none⟩) NB432_434.out _).trans (((cell_far (p := ⟨gb434, _, none⟩) NB432_434.out _).trans (((cell_far (p := ⟨gb434, _, none⟩) NB432_434.out _).trans (hHeld.2.2.1)))))))), ((cell_far (p := ⟨gb434, _, none⟩) NB432_434.out _).trans (((cell_far (p := ⟨gb434, _, none⟩) NB432_434.out _).trans (((cell_far (p := ⟨gb434, _, none⟩) NB432_434.out _).trans (((cell_far (p := ⟨gb434, _, none⟩) NB432_434.out _).trans (hHeld.2.2.2.1)))))))), ((cell_far (p := ⟨gb434, _, none⟩) NB433_434.out _).trans (((cell_far (p := ⟨gb434, _, none⟩) NB433_434.out _).trans (((cell_far (p := ⟨gb434, _, none⟩) NB433_434.out _).trans (((cell_far (p := ⟨gb434, _, none⟩) NB433_434.out _).trans (hHeld.2.2.2.2.1)))))))), ((cell_far (p := ⟨gb434, _, none⟩) NB433_434.out _).trans (((cell_far (p := ⟨gb434, _, none⟩) NB433_434.out _).trans (((cell_far (p := ⟨gb434, _, none⟩) NB433_434.out _).trans (((cell_far (p := ⟨gb434, _, none⟩) NB433_434.out _).trans (hHeld.2.2.2.2.2.1)))))))), ((cell_far (p := ⟨gb434, _, none⟩) NB433_434.out _).trans (((cell_far (p := ⟨gb434, _, none⟩) NB433_434.out _).trans (((cell_far (p := ⟨gb434, _, none⟩) NB433_434.out _).trans (((cell_far (p := ⟨gb434, _, none⟩) NB433_434.out _).trans (hHeld.2.2.2.2.2.2))))))))⟩ (fun hHeld => ?_)
        clear hK K
        refine done_ (done_of HT_.out (by kernel_rfl)) ?_
        try go_wp2
        refine bodyPost_ret (results_cell_row rfl _ _ gb434 25 #[.slice Ao41 t456.length co41, .slice Ao43 t459.length co43, .int .i64 t462, .bool t463] (0, 0) _ rfl (by (with_reducible repeat (first | refine blk_drewN ?_ _ | refine blk_drew ?_ | refine blk_alloc ?_ _)); refine blk_put (cs := #[.slice Ao41 t456.length co41, .slice Ao43 t459.length co43, .int .i64 t462, .bool false]) ?_ 3 _ rfl; (with_reducible repeat (first | refine blk_drewN ?_ _ | refine blk_drew ?_ | refine blk_alloc ?_ _)); refine blk_put (cs := #[.slice Ao41 t456.length co41, .slice Ao43 t459.length co43, .int .i64 0, .bool false]) ?_ 2 _ rfl; (with_reducible repeat (first | refine blk_drewN ?_ _ | refine blk_drew ?_ | refine blk_alloc ?_ _)); refine blk_put (cs := #[.slice Ao41 t456.length co41, .slice none 0 0, .int .i64 0, .bool false]) ?_ 1 _ rfl; (with_reducible repeat (first | refine blk_drewN ?_ _ | refine blk_drew ?_ | refine blk_alloc ?_ _)); refine blk_put (cs := #[.slice none 0 0, .slice none 0 0, .int .i64 0, .bool false]) ?_ 0 _ rfl; (with_reducible repeat (first | refine blk_drewN ?_ _ | refine blk_drew ?_ | refine blk_alloc ?_ _)); exact BK434.out) Try.underlying25 rfl (by kernel_rfl)) rfl ?_
        exact ⟨_, _, by first | rfl | (simp [errW_none, errW_some] <;> rfl) | (simp [*, errW_none, errW_some] <;> rfl), by (with_reducible repeat (first | apply Kd.R_alloc | apply Kd.R_drewN | apply Kd.R_drew)); exact Kd.R_mono (Kd.R_far (p := ⟨gb434, 3, none⟩) (Kd.R_far (p := ⟨gb434, 2, none⟩) (Kd.R_far (p := ⟨gb434, 1, none⟩) (Kd.R_far (p := ⟨gb434, 0, none⟩) (Kd.R_types HO458.out BK434.out (by decide)) (fun _ hk => hk.2) (.slice Ao41 t456.length co41)) (fun _ hk => hk.2) (.slice Ao43 t459.length co43)) (fun _ hk => hk.2) (.int .i64 t462)) (fun _ hk => hk.2) (.bool t463)) (fun _ hk => trivial), by (with_reducible repeat (first | apply Kd.S_alloc | apply Kd.S_drewN | apply Kd.S_drew)); exact Kd.S_mono (Kd.S_far (p := ⟨gb434, 3, none⟩) (Kd.S_far (p := ⟨gb434, 2, none⟩) (Kd.S_far (p := ⟨gb434, 1, none⟩) (Kd.S_far (p := ⟨gb434, 0, none⟩) (Kd.S_types HO461.out BK434.out (by decide)) (fun _ hk => hk.2) (.slice Ao41 t456.length co41)) (fun _ hk => hk.2) (.slice Ao43 t459.length co43)) (fun _ hk => hk.2) (.int .i64 t462)) (fun _ hk => hk.2) (.bool t463)) (fun _ hk => hk.1.1.1.1), by repeat (first | (with_reducible first | exact HB.out | apply below_alloc | apply pw_below_drewN | apply below_drew1 | refine below_set ?_ GE432.out | refine below_set ?_ GE433.out | refine below_set ?_ GE434.out) | exact HB.out)⟩

/-! ### laws_toSuper: function 32 -/
def laws_toSuper.f (a0_0 : Int) (a0_1 : Int) (a0_2 : Int) : Option (Int × Int × Int) := some (a0_0, a0_1, a0_2)
set_option maxHeartbeats 8000000 in
set_option maxRecDepth 100000 in
theorem laws_toSuper.calls (a0_0 : Int) (a0_1 : Int) (a0_2 : Int) (r1 : Int) (r2 : Int) (r3 : Int) (w : World) (h : laws_toSuper.f a0_0 a0_1 a0_2 = some (r1, r2, r3)) :
    Calls Try.prog 32 #[.agg #[.int .i64 a0_0, .int .i64 a0_1, .int .i64 a0_2]] w fun e w' => e = .returned (.agg #[.int .i64 r1, .int .i64 r2, .int .i64 r3]) ∧ Below w.heap.size w w' := by
  have hu55 := Try.underlying55
  have hu40 := Try.underlying40
  have HB := Aside0.mk (Below.refl w.heap.size w)
  have H : (some (a0_0, a0_1, a0_2)) = some (r1, r2, r3) := h
  clear h
  simp only [Option.some.injEq, Prod.mk.injEq] at H
  obtain ⟨rfl, rfl, rfl⟩ := H
  go_enter Try.func32, Try.ntmps32
  go_wp2_with (first | ((with_reducible refine gate_dst (N := 1) rfl ?_); refine box_event ?hg (N := 1) ?hd (cs := #[.int .i64 a0_0, .int .i64 a0_1, .int .i64 a0_2]) (t := 55) ?hr ?_; (case hd => rfl); (case hg => rfl); (case hr => first | (go_simp; done) | (go_simp; rfl)); intro gb464 hg w2 hbox hb; have n0_ := Aside0.mk (below_step (by repeat (first | (with_reducible first | exact HB.out | apply below_alloc | apply pw_below_drewN | apply below_drew1) | exact HB.out)) hb); have n1_ := Aside0.mk (hbox); have n2_ := Aside0.mk ((by rw [hg]; exact (below_size (by repeat (first | (with_reducible first | exact HB.out | apply below_alloc | apply pw_below_drewN | apply below_drew1) | exact HB.out))) : w.heap.size ≤ gb464)); have n3_ := Aside0.mk ((by rw [hg]; exact (below_size (by repeat (first | (with_reducible first | exact HB.out | apply below_alloc | apply pw_below_drewN | apply below_drew1) | exact HB.out))) : w.heap.size ≤ gb464)); clear HB; have HB := n0_; have BK464 := n1_; have GW464 := n2_; have GE464 := n3_; clear n0_ n1_ n2_ n3_; clear hb hbox hg) | ((with_reducible refine gate_dst (N := 2) rfl ?_); refine box_event ?hg (N := 2) ?hd (cs := #[.int .i64 0, .int .i64 0, .int .i64 0]) (t := 40) ?hr ?_; (case hd => rfl); (case hg => rfl); (case hr => first | (go_simp; done) | (go_simp; rfl)); intro gb465 hg w3 hbox hb; have n0_ := Aside0.mk (blk_below (g := gb464) (o := .cells #[.int .i64 a0_0, .int .i64 a0_1, .int .i64 a0_2] 55 (0, 0)) (by (with_reducible repeat (first | refine blk_drewN ?_ _ | refine blk_drew ?_ | refine blk_alloc ?_ _)); exact BK464.out) hb); have n1_ := Aside0.mk (below_step (by repeat (first | (with_reducible first | exact HB.out | apply below_alloc | apply pw_below_drewN | apply below_drew1 | refine below_set ?_ GE464.out) | exact HB.out)) hb); have n2_ := Aside0.mk (hbox); have n3_ := Aside0.mk ((by rw [hg]; exact (below_size (by repeat (first | (with_reducible first | exact HB.out | apply below_alloc | apply pw_below_drewN | apply below_drew1 | refine below_set ?_ GE464.out) | exact HB.out))) : w.heap.size ≤ gb465)); have n4_ := Aside0.mk ((by rw [hg]; exact (below_size (by repeat (first | (with_reducible first | exact HB.out | apply below_alloc | apply pw_below_drewN | apply below_drew1 | refine below_set ?_ GE464.out) | exact HB.out))) : w.heap.size ≤ gb465)); have n5_ := Aside0.mk ((by rw [hg]; exact Nat.ne_of_lt (blk_lt (g := gb464) (o := .cells #[.int .i64 a0_0, .int .i64 a0_1, .int .i64 a0_2] 55 (0, 0)) (by (with_reducible repeat (first | refine blk_drewN ?_ _ | refine blk_drew ?_ | refine blk_alloc ?_ _)); exact BK464.out)) : gb464 ≠ gb465)); have n6_ := Aside0.mk ((by rw [hg]; exact Nat.ne_of_gt (blk_lt (g := gb464) (o := .cells #[.int .i64 a0_0, .int .i64 a0_1, .int .i64 a0_2] 55 (0, 0)) (by (with_reducible repeat (first | refine blk_drewN ?_ _ | refine blk_drew ?_ | refine blk_alloc ?_ _)); exact BK464.out)) : gb465 ≠ gb464)); clear BK464; clear HB; have BK464 := n0_; have HB := n1_; have BK465 := n2_; have GW465 := n3_; have GE465 := n4_; have NB464_465 := n5_; have NB465_464 := n6_; clear n0_ n1_ n2_ n3_ n4_ n5_ n6_; clear hb hbox hg) | ((with_reducible refine gate_dst (N := 3) rfl ?_); refine box_event ?hg (N := 3) ?hd (cs := #[.int .i64 0, .int .i64 0, .int .i64 0]) (t := 40) ?hr ?_; (case hd => rfl); (case hg => rfl); (case hr => first | (go_simp; done) | (go_simp; rfl)); intro gb466 hg w4 hbox hb; have n0_ := Aside0.mk (blk_below (g := gb464) (o := .cells #[.int .i64 a0_0, .int .i64 a0_1, .int .i64 a0_2] 55 (0, 0)) (by (with_reducible repeat (first | refine blk_drewN ?_ _ | refine blk_drew ?_ | refine blk_alloc ?_ _)); exact BK464.out) hb); have n1_ := Aside0.mk (blk_below (g := gb465) (o := .cells #[.int .i64 0, .int .i64 0, .int .i64 0] 40 (0, 0)) (by (with_reducible repeat (first | refine blk_drewN ?_ _ | refine blk_drew ?_ | refine blk_alloc ?_ _)); exact BK465.out) hb); have n2_ := Aside0.mk (below_step (by repeat (first | (with_reducible first | exact HB.out | apply below_alloc | apply pw_below_drewN | apply below_drew1 | refine below_set ?_ GE464.out | refine below_set ?_ GE465.out) | exact HB.out)) hb); have n3_ := Aside0.mk (hbox); have n4_ := Aside0.mk ((by rw [hg]; exact (below_size (by repeat (first | (with_reducible first | exact HB.out | apply below_alloc | apply pw_below_drewN | apply below_drew1 | refine below_set ?_ GE464.out | refine below_set ?_ GE465.out) | exact HB.out))) : w.heap.size ≤ gb466)); have n5_ := Aside0.mk ((by rw [hg]; exact (below_size (by repeat (first | (with_reducible first | exact HB.out | apply below_alloc | apply pw_below_drewN | apply below_drew1 | refine below_set ?_ GE464.out | refine below_set ?_ GE465.out) | exact HB.out))) : w.heap.size ≤ gb466)); have n6_ := Aside0.mk ((by rw [hg]; exact Nat.ne_of_lt (blk_lt (g := gb464) (o := .cells #[.int .i64 a0_0, .int .i64 a0_1, .int .i64 a0_2] 55 (0, 0)) (by (with_reducible repeat (first | refine blk_drewN ?_ _ | refine blk_drew ?_ | refine blk_alloc ?_ _)); exact BK464.out)) : gb464 ≠ gb466)); have n7_ := Aside0.mk ((by rw [hg]; exact Nat.ne_of_gt (blk_lt (g := gb464) (o := .cells #[.int .i64 a0_0, .int .i64 a0_1, .int .i64 a0_2] 55 (0, 0)) (by (with_reducible repeat (first | refine blk_drewN ?_ _ | refine blk_drew ?_ | refine blk_alloc ?_ _)); exact BK464.out)) : gb466 ≠ gb464)); have n8_ := Aside0.mk ((by rw [hg]; exact Nat.ne_of_lt (blk_lt (g := gb465) (o := .cells #[.int .i64 0, .int .i64 0, .int .i64 0] 40 (0, 0)) (by (with_reducible repeat (first | refine blk_drewN ?_ _ | refine blk_drew ?_ | refine blk_alloc ?_ _)); exact BK465.out)) : gb465 ≠ gb466)); have n9_ := Aside0.mk ((by rw [hg]; exact Nat.ne_of_gt (blk_lt (g := gb465) (o := .cells #[.int .i64 0, .int .i64 0, .int .i64 0] 40 (0, 0)) (by (with_reducible repeat (first | refine blk_drewN ?_ _ | refine blk_drew ?_ | refine blk_alloc ?_ _)); exact BK465.out)) : gb466 ≠ gb465)); clear BK464; clear BK465; clear HB; have BK464 := n0_; have BK465 := n1_; have HB := n2_; have BK466 := n3_; have GW466 := n4_; have GE466 := n5_; have NB464_466 := n6_; have NB466_464 := n7_; have NB465_466 := n8_; have NB466_465 := n9_; clear n0_ n1_ n2_ n3_ n4_ n5_ n6_ n7_ n8_ n9_; clear hb hbox hg; have hnb5 := NB464_465.out; have hnc5 := NB465_464.out; have hnb6 := NB464_466.out; have hnc6 := NB466_464.out; have hcz7_0 : w4.cell? ⟨gb464, 0, none⟩ = some (.int .i64 a0_0) := (blk_cell BK464.out 0).trans rfl; have hcz7_1 : w4.cell? ⟨gb464, 1, none⟩ = some (.int .i64 a0_1) := (blk_cell BK464.out 1).trans rfl; have hcz7_2 : w4.cell? ⟨gb464, 2, none⟩ = some (.int .i64 a0_2) := (blk_cell BK464.out 2).trans rfl; have hfz7_0 := blk_frozen BK464.out 0; have hfz7_1 := blk_frozen BK464.out 1; have hfz7_2 := blk_frozen BK464.out 2; have hnb8 := NB466_465.out; have hnc8 := NB465_466.out; have hcz9_0 : w4.cell? ⟨gb466, 0, none⟩ = some (.int .i64 0) := (blk_cell BK466.out 0).trans rfl; have hcz9_1 : w4.cell? ⟨gb466, 1, none⟩ = some (.int .i64 0) := (blk_cell BK466.out 1).trans rfl; have hcz9_2 : w4.cell? ⟨gb466, 2, none⟩ = some (.int .i64 0) := (blk_cell BK466.out 2).trans rfl; have hfz9_0 := blk_frozen BK466.out 0; have hfz9_1 := blk_frozen BK466.out 1; have hfz9_2 := blk_frozen BK466.out 2; have hcz10_0 : w4.cell? ⟨gb465, 0, none⟩ = some (.int .i64 0) := (blk_cell BK465.out 0).trans rfl; have hcz10_1 : w4.cell? ⟨gb465, 1, none⟩ = some (.int .i64 0) := (blk_cell BK465.out 1).trans rfl; have hcz10_2 : w4.cell? ⟨gb465, 2, none⟩ = some (.int .i64 0) := (blk_cell BK465.out 2).trans rfl; have hfz10_0 := blk_frozen BK465.out 0; have hfz10_1 := blk_frozen BK465.out 1; have hfz10_2 := blk_frozen BK465.out 2))
  refine bodyPost_ret (results_cell_row rfl _ _ gb465 40 #[.int .i64 a0_0, .int .i64 a0_1, .int .i64 a0_2] (0, 0) _ rfl (by (with_reducible repeat (first | refine blk_drewN ?_ _ | refine blk_drew ?_ | refine blk_alloc ?_ _)); refine blk_put (cs := #[.int .i64 a0_0, .int .i64 a0_1, .int .i64 0]) ?_ 2 _ rfl; (with_reducible repeat (first | refine blk_drewN ?_ _ | refine blk_drew ?_ | refine blk_alloc ?_ _)); refine blk_put (cs := #[.int .i64 a0_0, .int .i64 0, .int .i64 0]) ?_ 1 _ rfl; (with_reducible repeat (first | refine blk_drewN ?_ _ | refine blk_drew ?_ | refine blk_alloc ?_ _)); refine blk_put (cs := #[.int .i64 0, .int .i64 0, .int .i64 0]) ?_ 0 _ rfl; (with_reducible repeat (first | refine blk_drewN ?_ _ | refine blk_drew ?_ | refine blk_alloc ?_ _)); refine blk_far ?_ NB465_466.out _; (with_reducible repeat (first | refine blk_drewN ?_ _ | refine blk_drew ?_ | refine blk_alloc ?_ _)); refine blk_far ?_ NB465_466.out _; (with_reducible repeat (first | refine blk_drewN ?_ _ | refine blk_drew ?_ | refine blk_alloc ?_ _)); refine blk_far ?_ NB465_466.out _; (with_reducible repeat (first | refine blk_drewN ?_ _ | refine blk_drew ?_ | refine blk_alloc ?_ _)); exact BK465.out) Try.underlying40 rfl (by kernel_rfl)) rfl ?_
  exact ⟨by first | rfl | (simp [errW_none, errW_some] <;> rfl) | (simp [*, errW_none, errW_some] <;> rfl), by repeat (first | (with_reducible first | exact HB.out | apply below_alloc | apply pw_below_drewN | apply below_drew1 | refine below_set ?_ GE464.out | refine below_set ?_ GE465.out | refine below_set ?_ GE466.out) | exact HB.out)⟩

/-! ### impl_goodNumber: function 70 -/
def impl_goodNumber.f (a0 : Int) : Option (Bool) := if a0 ≥ 1 then (some (decide (a0 ≤ 2000000000))) else (some false)
set_option maxHeartbeats 8000000 in
set_option maxRecDepth 100000 in
theorem impl_goodNumber.calls (a0 : Int) (r : Bool) (w : World) (h : impl_goodNumber.f a0 = some r) :
    Calls Try.prog 70 #[.int .i64 a0] w fun e w' => e = .returned (.bool r) ∧ Drawn0 w w' := by
  have H : (if a0 ≥ 1 then (some (decide (a0 ≤ 2000000000))) else (some false)) = some r := h
  clear h
  by_cases c2 : a0 ≥ 1
  · rw [if_pos c2] at H
    have c2b0 : decide (1 ≤ a0) = true := decide_eq_true c2
    clear c2
    obtain rfl := Option.some.inj H
    go_enter Try.func70, Try.ntmps70
    go_wp2
    go_ret
    exact ⟨by first | rfl | (simp; done) | (simp [*]; done), by repeat (first | exact Drawn0.refl _ | apply Drawn0.step)⟩
  · rw [if_neg c2] at H
    have c2b0 : decide (1 ≤ a0) = false := decide_eq_false c2
    clear c2
    obtain rfl := Option.some.inj H
    go_enter Try.func70, Try.ntmps70
    go_wp2
    go_ret
    exact ⟨by first | rfl | (simp; done) | (simp [*]; done), by repeat (first | exact Drawn0.refl _ | apply Drawn0.step)⟩

/-- THE ONE PURE STATEMENT of impl_goodNumber: yours. -/
def impl_goodNumber.Pure : Prop := ∀ (a0 : Int), (Lit.int .i64 a0).wf = true → impl_goodNumber.f a0 = some true
theorem impl_goodNumber.walk (P : impl_goodNumber.Pure) (a0 : Int) (w : World) (w0 : (Lit.int .i64 a0).wf = true) :
    Calls Try.prog 70 #[.int .i64 a0] w fun e w' => e = .returned (.bool true) ∧ Below w.heap.size w w' := by
  have h := P a0 w0
  refine (impl_goodNumber.calls a0 true w h).mono ?_
  rintro e w' ⟨rfl, hd⟩
  exact ⟨rfl, hd.below⟩

/-! ### impl_Super_good: function 80 -/
def impl_Super_good.f (a0_0 : Int) (a0_1 : Int) (a0_2 : Int) : Option (Bool) := if a0_0 ≥ 0 then (if a0_0 ≤ 2000000000 then (if a0_1 = 0 then ((impl_goodNumber.f a0_2).bind fun t1017 => (some t1017)) else (if a0_1 = 1 then ((impl_goodNumber.f a0_2).bind fun t1018 => (some t1018)) else (some false))) else (some false)) else (some false)
set_option maxHeartbeats 8000000 in
set_option maxRecDepth 100000 in
theorem impl_Super_good.calls (a0_0 : Int) (a0_1 : Int) (a0_2 : Int) (r : Bool) (w : World) (h : impl_Super_good.f a0_0 a0_1 a0_2 = some r) :
    Calls Try.prog 80 #[.agg #[.int .i64 a0_0, .int .i64 a0_1, .int .i64 a0_2]] w fun e w' => e = .returned (.bool r) ∧ Below w.heap.size w w' := by
  have hu40 := Try.underlying40
  have HB := Aside0.mk (Below.refl w.heap.size w)
  have H : (if a0_0 ≥ 0 then (if a0_0 ≤ 2000000000 then (if a0_1 = 0 then ((impl_goodNumber.f a0_2).bind fun t1017 => (some t1017)) else (if a0_1 = 1 then ((impl_goodNumber.f a0_2).bind fun t1018 => (some t1018)) else (some false))) else (some false)) else (some false)) = some r := h
  clear h
  by_cases c2 : a0_0 ≥ 0
  · rw [if_pos c2] at H
    have c2b0 : decide (0 ≤ a0_0) = true := decide_eq_true c2
    clear c2
    by_cases c3 : a0_0 ≤ 2000000000
    · rw [if_pos c3] at H
      have c3b0 : decide (a0_0 ≤ 2000000000) = true := decide_eq_true c3
      clear c3
      by_cases c4 : a0_1 = 0
      · rw [if_pos c4] at H
        have c4b0 : (a0_1 == 0) = true := beq_iff_eq.mpr c4
        have c4b1 : (a0_1 != 0) = false := bne_eq_false_iff_eq.mpr c4
        clear c4
        replace H := Option.bind_eq_some_iff.mp H
        obtain ⟨t1017, A50, H⟩ := H
        replace H : (some t1017) = some r := H
        have A5 := Aside0.mk A50
        clear A50
        obtain rfl := Option.some.inj H
        go_enter Try.func80, Try.ntmps80
        go_wp2_with (first | ((with_reducible refine gate_dst (N := 1) rfl ?_); refine box_event ?hg (N := 1) ?hd (cs := #[.int .i64 a0_0, .int .i64 a0_1, .int .i64 a0_2]) (t := 40) ?hr ?_; (case hd => rfl); (case hg => rfl); (case hr => first | (go_simp; done) | (go_simp; rfl)); intro gb1016 hg w6 hbox hb; have n0_ := Aside0.mk (below_step (by repeat (first | (with_reducible first | exact HB.out | apply below_alloc | apply pw_below_drewN | apply below_drew1) | exact HB.out)) hb); have n1_ := Aside0.mk (hbox); have n2_ := Aside0.mk ((by rw [hg]; exact (below_size (by repeat (first | (with_reducible first | exact HB.out | apply below_alloc | apply pw_below_drewN | apply below_drew1) | exact HB.out))) : w.heap.size ≤ gb1016)); have n3_ := Aside0.mk ((by rw [hg]; exact (below_size (by repeat (first | (with_reducible first | exact HB.out | apply below_alloc | apply pw_below_drewN | apply below_drew1) | exact HB.out))) : w.heap.size ≤ gb1016)); clear HB; have HB := n0_; have BK1016 := n1_; have GW1016 := n2_; have GE1016 := n3_; clear n0_ n1_ n2_ n3_; clear hb hbox hg; have hcz7_0 : w6.cell? ⟨gb1016, 0, none⟩ = some (.int .i64 a0_0) := (blk_cell BK1016.out 0).trans rfl; have hcz7_1 : w6.cell? ⟨gb1016, 1, none⟩ = some (.int .i64 a0_1) := (blk_cell BK1016.out 1).trans rfl; have hcz7_2 : w6.cell? ⟨gb1016, 2, none⟩ = some (.int .i64 a0_2) := (blk_cell BK1016.out 2).trans rfl; have hfz7_0 := blk_frozen BK1016.out 0; have hfz7_1 := blk_frozen BK1016.out 1; have hfz7_2 := blk_frozen BK1016.out 2) | (go_at_call 70; (with_reducible refine (impl_goodNumber.calls a0_2 t1017 _ A5.out).mono ?_); rintro e w' ⟨rfl, ⟨nd, rfl⟩⟩))
        go_ret
        exact ⟨by first | rfl | (simp [errW_none, errW_some] <;> rfl) | (simp [*, errW_none, errW_some] <;> rfl), by repeat (first | (with_reducible first | exact HB.out | apply below_alloc | apply pw_below_drewN | apply below_drew1 | refine below_set ?_ GE1016.out) | exact HB.out)⟩
      · rw [if_neg c4] at H
        have c4b0 : (a0_1 == 0) = false := beq_eq_false_iff_ne.mpr c4
        have c4b1 : (a0_1 != 0) = true := bne_iff_ne.mpr c4
        by_cases c8 : a0_1 = 1
        · rw [if_pos c8] at H
          have c8b0 : (a0_1 == 1) = true := beq_iff_eq.mpr c8
          have c8b1 : (a0_1 != 1) = false := bne_eq_false_iff_eq.mpr c8
          clear c8
          replace H := Option.bind_eq_some_iff.mp H
          obtain ⟨t1018, A90, H⟩ := H
          replace H : (some t1018) = some r := H
          have A9 := Aside0.mk A90
          clear A90
          obtain rfl := Option.some.inj H
          go_enter Try.func80, Try.ntmps80
          go_wp2_with (first | ((with_reducible refine gate_dst (N := 1) rfl ?_); refine box_event ?hg (N := 1) ?hd (cs := #[.int .i64 a0_0, .int .i64 a0_1, .int .i64 a0_2]) (t := 40) ?hr ?_; (case hd => rfl); (case hg => rfl); (case hr => first | (go_simp; done) | (go_simp; rfl)); intro gb1016 hg w10 hbox hb; have n0_ := Aside0.mk (below_step (by repeat (first | (with_reducible first | exact HB.out | apply below_alloc | apply pw_below_drewN | apply below_drew1) | exact HB.out)) hb); have n1_ := Aside0.mk (hbox); have n2_ := Aside0.mk ((by rw [hg]; exact (below_size (by repeat (first | (with_reducible first | exact HB.out | apply below_alloc | apply pw_below_drewN | apply below_drew1) | exact HB.out))) : w.heap.size ≤ gb1016)); have n3_ := Aside0.mk ((by rw [hg]; exact (below_size (by repeat (first | (with_reducible first | exact HB.out | apply below_alloc | apply pw_below_drewN | apply below_drew1) | exact HB.out))) : w.heap.size ≤ gb1016)); clear HB; have HB := n0_; have BK1016 := n1_; have GW1016 := n2_; have GE1016 := n3_; clear n0_ n1_ n2_ n3_; clear hb hbox hg; have hcz11_0 : w10.cell? ⟨gb1016, 0, none⟩ = some (.int .i64 a0_0) := (blk_cell BK1016.out 0).trans rfl; have hcz11_1 : w10.cell? ⟨gb1016, 1, none⟩ = some (.int .i64 a0_1) := (blk_cell BK1016.out 1).trans rfl; have hcz11_2 : w10.cell? ⟨gb1016, 2, none⟩ = some (.int .i64 a0_2) := (blk_cell BK1016.out 2).trans rfl; have hfz11_0 := blk_frozen BK1016.out 0; have hfz11_1 := blk_frozen BK1016.out 1; have hfz11_2 := blk_frozen BK1016.out 2) | (go_at_call 70; (with_reducible refine (impl_goodNumber.calls a0_2 t1018 _ A9.out).mono ?_); rintro e w' ⟨rfl, ⟨nd, rfl⟩⟩))
          go_ret
          exact ⟨by first | rfl | (simp [errW_none, errW_some] <;> rfl) | (simp [*, errW_none, errW_some] <;> rfl), by repeat (first | (with_reducible first | exact HB.out | apply below_alloc | apply pw_below_drewN | apply below_drew1 | refine below_set ?_ GE1016.out) | exact HB.out)⟩
        · rw [if_neg c8] at H
          have c8b0 : (a0_1 == 1) = false := beq_eq_false_iff_ne.mpr c8
          have c8b1 : (a0_1 != 1) = true := bne_iff_ne.mpr c8
          obtain rfl := Option.some.inj H
          go_enter Try.func80, Try.ntmps80
          go_wp2_with (first | ((with_reducible refine gate_dst (N := 1) rfl ?_); refine box_event ?hg (N := 1) ?hd (cs := #[.int .i64 a0_0, .int .i64 a0_1, .int .i64 a0_2]) (t := 40) ?hr ?_; (case hd => rfl); (case hg => rfl); (case hr => first | (go_simp; done) | (go_simp; rfl)); intro gb1016 hg w12 hbox hb; have n0_ := Aside0.mk (below_step (by repeat (first | (with_reducible first | exact HB.out | apply below_alloc | apply pw_below_drewN | apply below_drew1) | exact HB.out)) hb); have n1_ := Aside0.mk (hbox); have n2_ := Aside0.mk ((by rw [hg]; exact (below_size (by repeat (first | (with_reducible first | exact HB.out | apply below_alloc | apply pw_below_drewN | apply below_drew1) | exact HB.out))) : w.heap.size ≤ gb1016)); have n3_ := Aside0.mk ((by rw [hg]; exact (below_size (by repeat (first | (with_reducible first | exact HB.out | apply below_alloc | apply pw_below_drewN | apply below_drew1) | exact HB.out))) : w.heap.size ≤ gb1016)); clear HB; have HB := n0_; have BK1016 := n1_; have GW1016 := n2_; have GE1016 := n3_; clear n0_ n1_ n2_ n3_; clear hb hbox hg; have hcz13_0 : w12.cell? ⟨gb1016, 0, none⟩ = some (.int .i64 a0_0) := (blk_cell BK1016.out 0).trans rfl; have hcz13_1 : w12.cell? ⟨gb1016, 1, none⟩ = some (.int .i64 a0_1) := (blk_cell BK1016.out 1).trans rfl; have hcz13_2 : w12.cell? ⟨gb1016, 2, none⟩ = some (.int .i64 a0_2) := (blk_cell BK1016.out 2).trans rfl; have hfz13_0 := blk_frozen BK1016.out 0; have hfz13_1 := blk_frozen BK1016.out 1; have hfz13_2 := blk_frozen BK1016.out 2))
          go_ret
          exact ⟨by first | rfl | (simp [errW_none, errW_some] <;> rfl) | (simp [*, errW_none, errW_some] <;> rfl), by repeat (first | (with_reducible first | exact HB.out | apply below_alloc | apply pw_below_drewN | apply below_drew1 | refine below_set ?_ GE1016.out) | exact HB.out)⟩
    · rw [if_neg c3] at H
      have c3b0 : decide (a0_0 ≤ 2000000000) = false := decide_eq_false c3
      clear c3
      obtain rfl := Option.some.inj H
      go_enter Try.func80, Try.ntmps80
      go_wp2_with (first | ((with_reducible refine gate_dst (N := 1) rfl ?_); refine box_event ?hg (N := 1) ?hd (cs := #[.int .i64 a0_0, .int .i64 a0_1, .int .i64 a0_2]) (t := 40) ?hr ?_; (case hd => rfl); (case hg => rfl); (case hr => first | (go_simp; done) | (go_simp; rfl)); intro gb1016 hg w14 hbox hb; have n0_ := Aside0.mk (below_step (by repeat (first | (with_reducible first | exact HB.out | apply below_alloc | apply pw_below_drewN | apply below_drew1) | exact HB.out)) hb); have n1_ := Aside0.mk (hbox); have n2_ := Aside0.mk ((by rw [hg]; exact (below_size (by repeat (first | (with_reducible first | exact HB.out | apply below_alloc | apply pw_below_drewN | apply below_drew1) | exact HB.out))) : w.heap.size ≤ gb1016)); have n3_ := Aside0.mk ((by rw [hg]; exact (below_size (by repeat (first | (with_reducible first | exact HB.out | apply below_alloc | apply pw_below_drewN | apply below_drew1) | exact HB.out))) : w.heap.size ≤ gb1016)); clear HB; have HB := n0_; have BK1016 := n1_; have GW1016 := n2_; have GE1016 := n3_; clear n0_ n1_ n2_ n3_; clear hb hbox hg; have hcz15_0 : w14.cell? ⟨gb1016, 0, none⟩ = some (.int .i64 a0_0) := (blk_cell BK1016.out 0).trans rfl; have hcz15_1 : w14.cell? ⟨gb1016, 1, none⟩ = some (.int .i64 a0_1) := (blk_cell BK1016.out 1).trans rfl; have hcz15_2 : w14.cell? ⟨gb1016, 2, none⟩ = some (.int .i64 a0_2) := (blk_cell BK1016.out 2).trans rfl; have hfz15_0 := blk_frozen BK1016.out 0; have hfz15_1 := blk_frozen BK1016.out 1; have hfz15_2 := blk_frozen BK1016.out 2))
      go_ret
      exact ⟨by first | rfl | (simp [errW_none, errW_some] <;> rfl) | (simp [*, errW_none, errW_some] <;> rfl), by repeat (first | (with_reducible first | exact HB.out | apply below_alloc | apply pw_below_drewN | apply below_drew1 | refine below_set ?_ GE1016.out) | exact HB.out)⟩
  · rw [if_neg c2] at H
    have c2b0 : decide (0 ≤ a0_0) = false := decide_eq_false c2
    clear c2
    obtain rfl := Option.some.inj H
    go_enter Try.func80, Try.ntmps80
    go_wp2_with (first | ((with_reducible refine gate_dst (N := 1) rfl ?_); refine box_event ?hg (N := 1) ?hd (cs := #[.int .i64 a0_0, .int .i64 a0_1, .int .i64 a0_2]) (t := 40) ?hr ?_; (case hd => rfl); (case hg => rfl); (case hr => first | (go_simp; done) | (go_simp; rfl)); intro gb1016 hg w16 hbox hb; have n0_ := Aside0.mk (below_step (by repeat (first | (with_reducible first | exact HB.out | apply below_alloc | apply pw_below_drewN | apply below_drew1) | exact HB.out)) hb); have n1_ := Aside0.mk (hbox); have n2_ := Aside0.mk ((by rw [hg]; exact (below_size (by repeat (first | (with_reducible first | exact HB.out | apply below_alloc | apply pw_below_drewN | apply below_drew1) | exact HB.out))) : w.heap.size ≤ gb1016)); have n3_ := Aside0.mk ((by rw [hg]; exact (below_size (by repeat (first | (with_reducible first | exact HB.out | apply below_alloc | apply pw_below_drewN | apply below_drew1) | exact HB.out))) : w.heap.size ≤ gb1016)); clear HB; have HB := n0_; have BK1016 := n1_; have GW1016 := n2_; have GE1016 := n3_; clear n0_ n1_ n2_ n3_; clear hb hbox hg; have hcz17_0 : w16.cell? ⟨gb1016, 0, none⟩ = some (.int .i64 a0_0) := (blk_cell BK1016.out 0).trans rfl; have hcz17_1 : w16.cell? ⟨gb1016, 1, none⟩ = some (.int .i64 a0_1) := (blk_cell BK1016.out 1).trans rfl; have hcz17_2 : w16.cell? ⟨gb1016, 2, none⟩ = some (.int .i64 a0_2) := (blk_cell BK1016.out 2).trans rfl; have hfz17_0 := blk_frozen BK1016.out 0; have hfz17_1 := blk_frozen BK1016.out 1; have hfz17_2 := blk_frozen BK1016.out 2))
    go_ret
    exact ⟨by first | rfl | (simp [errW_none, errW_some] <;> rfl) | (simp [*, errW_none, errW_some] <;> rfl), by repeat (first | (with_reducible first | exact HB.out | apply below_alloc | apply pw_below_drewN | apply below_drew1 | refine below_set ?_ GE1016.out) | exact HB.out)⟩

/-! ### impl_Disk_sectors: function 52 -/
def impl_Disk_sectors.f (l0_0 : List Int) (l0_1 : List (S79)) (a0_2 : Int) (a0_3 : Bool) : Option (Int) := some (wrap64 ((l0_0.length : Int) / 64))
set_option maxHeartbeats 8000000 in
set_option maxRecDepth 100000 in
theorem impl_Disk_sectors.calls (A0_0 : Option Addr) (c0_0 : Nat) (l0_0 : List Int) (A0_1 : Option Addr) (c0_1 : Nat) (l0_1 : List (S79)) (a0_2 : Int) (a0_3 : Bool) (r : Int) (w : World) (hr0_0 : Kd.C (Kd.int .u8) w A0_0 l0_0.length l0_0) (hc0_0 : l0_0.length ≤ c0_0) (hr0_1 : Kd.C k79 w A0_1 l0_1.length l0_1) (hc0_1 : l0_1.length ≤ c0_1) (h : impl_Disk_sectors.f l0_0 l0_1 a0_2 a0_3 = some r) :
    Calls Try.prog 52 #[.agg #[.slice A0_0 l0_0.length c0_0, .slice A0_1 l0_1.length c0_1, .int .i64 a0_2, .bool a0_3]] w fun e w' => e = .returned (.int .i64 r) ∧ Below w.heap.size w w' := by
  have hu25 := Try.underlying25
  have HR0_0 := Aside0.mk hr0_0
  have HC0_0 := Aside0.mk hc0_0
  clear hr0_0 hc0_0
  have HR0_1 := Aside0.mk hr0_1
  have HC0_1 := Aside0.mk hc0_1
  clear hr0_1 hc0_1
  have HB := Aside0.mk (Below.refl w.heap.size w)
  have H : (some (wrap64 ((l0_0.length : Int) / 64))) = some r := h
  clear h
  obtain rfl := Option.some.inj H
  go_enter Try.func52, Try.ntmps52
  go_wp2_with (first | ((with_reducible refine gate_dst (N := 1) rfl ?_); refine box_event ?hg (N := 1) ?hd (cs := #[.slice A0_0 l0_0.length c0_0, .slice A0_1 l0_1.length c0_1, .int .i64 a0_2, .bool a0_3]) (t := 25) ?hr ?_; (case hd => rfl); (case hg => rfl); (case hr => first | (go_simp; done) | (go_simp; rfl)); intro gb1019 hg w2 hbox hb; have n0_ := Aside0.mk (below_step (by repeat (first | (with_reducible first | exact HB.out | apply below_alloc | apply pw_below_drewN | apply below_drew1) | exact HB.out)) hb); have n1_ := Aside0.mk (hbox); have n2_ := Aside0.mk ((by rw [hg]; exact (below_size (by repeat (first | (with_reducible first | exact HB.out | apply below_alloc | apply pw_below_drewN | apply below_drew1) | exact HB.out))) : w.heap.size ≤ gb1019)); have n3_ := Aside0.mk ((by rw [hg]; exact (below_size (by repeat (first | (with_reducible first | exact HB.out | apply below_alloc | apply pw_below_drewN | apply below_drew1) | exact HB.out))) : w.heap.size ≤ gb1019)); clear HB; have HB := n0_; have BK1019 := n1_; have GW1019 := n2_; have GE1019 := n3_; clear n0_ n1_ n2_ n3_; clear hb hbox hg; have hcz3_0 : w2.cell? ⟨gb1019, 0, none⟩ = some (.slice A0_0 l0_0.length c0_0) := (blk_cell BK1019.out 0).trans rfl; have hcz3_1 : w2.cell? ⟨gb1019, 1, none⟩ = some (.slice A0_1 l0_1.length c0_1) := (blk_cell BK1019.out 1).trans rfl; have hcz3_2 : w2.cell? ⟨gb1019, 2, none⟩ = some (.int .i64 a0_2) := (blk_cell BK1019.out 2).trans rfl; have hcz3_3 : w2.cell? ⟨gb1019, 3, none⟩ = some (.bool a0_3) := (blk_cell BK1019.out 3).trans rfl; have hfz3_0 := blk_frozen BK1019.out 0; have hfz3_1 := blk_frozen BK1019.out 1; have hfz3_2 := blk_frozen BK1019.out 2; have hfz3_3 := blk_frozen BK1019.out 3))
  go_ret
  exact ⟨by first | rfl | (simp [errW_none, errW_some] <;> rfl) | (simp [*, errW_none, errW_some] <;> rfl), by repeat (first | (with_reducible first | exact HB.out | apply below_alloc | apply pw_below_drewN | apply below_drew1 | refine below_set ?_ GE1019.out) | exact HB.out)⟩

/-! ### impl_Disk_has: function 53 -/
def impl_Disk_has.f (l0_0 : List Int) (l0_1 : List (S79)) (a0_2 : Int) (a0_3 : Bool) (a1 : Int) : Option (Bool) := if a1 ≥ 0 then ((impl_Disk_sectors.f l0_0 l0_1 a0_2 a0_3).bind fun t1025 => (some (decide (a1 < t1025)))) else (some false)
set_option maxHeartbeats 8000000 in
set_option maxRecDepth 100000 in
theorem impl_Disk_has.calls (A0_0 : Option Addr) (c0_0 : Nat) (l0_0 : List Int) (A0_1 : Option Addr) (c0_1 : Nat) (l0_1 : List (S79)) (a0_2 : Int) (a0_3 : Bool) (a1 : Int) (r : Bool) (w : World) (hr0_0 : Kd.C (Kd.int .u8) w A0_0 l0_0.length l0_0) (hc0_0 : l0_0.length ≤ c0_0) (hr0_1 : Kd.C k79 w A0_1 l0_1.length l0_1) (hc0_1 : l0_1.length ≤ c0_1) (h : impl_Disk_has.f l0_0 l0_1 a0_2 a0_3 a1 = some r) :
    Calls Try.prog 53 #[.agg #[.slice A0_0 l0_0.length c0_0, .slice A0_1 l0_1.length c0_1, .int .i64 a0_2, .bool a0_3], .int .i64 a1] w fun e w' => e = .returned (.bool r) ∧ Below w.heap.size w w' := by
  have hu25 := Try.underlying25
  have HR0_0 := Aside0.mk hr0_0
  have HC0_0 := Aside0.mk hc0_0
  clear hr0_0 hc0_0
  have HR0_1 := Aside0.mk hr0_1
  have HC0_1 := Aside0.mk hc0_1
  clear hr0_1 hc0_1
  have HB := Aside0.mk (Below.refl w.heap.size w)
  have H : (if a1 ≥ 0 then ((impl_Disk_sectors.f l0_0 l0_1 a0_2 a0_3).bind fun t1025 => (some (decide (a1 < t1025)))) else (some false)) = some r := h
  clear h
  by_cases c3 : a1 ≥ 0
  · rw [if_pos c3] at H
    have c3b0 : decide (0 ≤ a1) = true := decide_eq_true c3
    clear c3
    replace H := Option.bind_eq_some_iff.mp H
    obtain ⟨t1025, A40, H⟩ := H
    replace H : (some (decide (a1 < t1025))) = some r := H
    have A4 := Aside0.mk A40
    clear A40
    obtain rfl := Option.some.inj H
    go_enter Try.func53, Try.ntmps53
    go_wp2_with (first | ((with_reducible refine gate_dst (N := 2) rfl ?_); refine box_event ?hg (N := 2) ?hd (cs := #[.slice A0_0 l0_0.length c0_0, .slice A0_1 l0_1.length c0_1, .int .i64 a0_2, .bool a0_3]) (t := 25) ?hr ?_; (case hd => rfl); (case hg => rfl); (case hr => first | (go_simp; done) | (go_simp; rfl)); intro gb1024 hg w5 hbox hb; have n0_ := Aside0.mk (below_step (by repeat (first | (with_reducible first | exact HB.out | apply below_alloc | apply pw_below_drewN | apply below_drew1) | exact HB.out)) hb); have n1_ := Aside0.mk (hbox); have n2_ := Aside0.mk ((by rw [hg]; exact (below_size (by repeat (first | (with_reducible first | exact HB.out | apply below_alloc | apply pw_below_drewN | apply below_drew1) | exact HB.out))) : w.heap.size ≤ gb1024)); have n3_ := Aside0.mk ((by rw [hg]; exact (below_size (by repeat (first | (with_reducible first | exact HB.out | apply below_alloc | apply pw_below_drewN | apply below_drew1) | exact HB.out))) : w.heap.size ≤ gb1024)); clear HB; have HB := n0_; have BK1024 := n1_; have GW1024 := n2_; have GE1024 := n3_; clear n0_ n1_ n2_ n3_; clear hb hbox hg; have hcz6_0 : w5.cell? ⟨gb1024, 0, none⟩ = some (.slice A0_0 l0_0.length c0_0) := (blk_cell BK1024.out 0).trans rfl; have hcz6_1 : w5.cell? ⟨gb1024, 1, none⟩ = some (.slice A0_1 l0_1.length c0_1) := (blk_cell BK1024.out 1).trans rfl; have hcz6_2 : w5.cell? ⟨gb1024, 2, none⟩ = some (.int .i64 a0_2) := (blk_cell BK1024.out 2).trans rfl; have hcz6_3 : w5.cell? ⟨gb1024, 3, none⟩ = some (.bool a0_3) := (blk_cell BK1024.out 3).trans rfl; have hfz6_0 := blk_frozen BK1024.out 0; have hfz6_1 := blk_frozen BK1024.out 1; have hfz6_2 := blk_frozen BK1024.out 2; have hfz6_3 := blk_frozen BK1024.out 3) | (go_at_call 52; (with_reducible refine (impl_Disk_sectors.calls _ _ l0_0 _ _ l0_1 a0_2 a0_3 t1025 _ ?side1 ?side2 ?side3 ?side4 A4.out).mono ?_); (case side1 => repeat (first | exact (Kd.C_below HR0_0.out HB.out) | (with_reducible refine Kd.C_alloc ?_ _) | (with_reducible refine Kd.C_drewN ?_ _) | (with_reducible refine Kd.C_drew ?_))); (case side2 => exact HC0_0.out); (case side3 => repeat (first | exact (Kd.C_below HR0_1.out HB.out) | (with_reducible refine Kd.C_alloc ?_ _) | (with_reducible refine Kd.C_drewN ?_ _) | (with_reducible refine Kd.C_drew ?_))); (case side4 => exact HC0_1.out); rintro e w7 ⟨rfl, hb⟩; have n0_ := Aside0.mk (blk_below (g := gb1024) (o := .cells #[.slice A0_0 l0_0.length c0_0, .slice A0_1 l0_1.length c0_1, .int .i64 a0_2, .bool a0_3] 25 (0, 0)) (by (with_reducible repeat (first | refine blk_drewN ?_ _ | refine blk_drew ?_ | refine blk_alloc ?_ _)); exact BK1024.out) hb); have n1_ := Aside0.mk (below_step (by repeat (first | (with_reducible first | exact HB.out | apply below_alloc | apply pw_below_drewN | apply below_drew1 | refine below_set ?_ GE1024.out) | exact HB.out)) hb); clear BK1024; clear HB; have BK1024 := n0_; have HB := n1_; clear n0_ n1_; (try clear hb); (try clear hb2); (try clear hk); (try clear hi)))
    go_ret
    exact ⟨by first | rfl | (simp [errW_none, errW_some] <;> rfl) | (simp [*, errW_none, errW_some] <;> rfl), by repeat (first | (with_reducible first | exact HB.out | apply below_alloc | apply pw_below_drewN | apply below_drew1 | refine below_set ?_ GE1024.out) | exact HB.out)⟩
  · rw [if_neg c3] at H
    have c3b0 : decide (0 ≤ a1) = false := decide_eq_false c3
    clear c3
    obtain rfl := Option.some.inj H
    go_enter Try.func53, Try.ntmps53
    go_wp2_with (first | ((with_reducible refine gate_dst (N := 2) rfl ?_); refine box_event ?hg (N := 2) ?hd (cs := #[.slice A0_0 l0_0.length c0_0, .slice A0_1 l0_1.length c0_1, .int .i64 a0_2, .bool a0_3]) (t := 25) ?hr ?_; (case hd => rfl); (case hg => rfl); (case hr => first | (go_simp; done) | (go_simp; rfl)); intro gb1024 hg w8 hbox hb; have n0_ := Aside0.mk (below_step (by repeat (first | (with_reducible first | exact HB.out | apply below_alloc | apply pw_below_drewN | apply below_drew1) | exact HB.out)) hb); have n1_ := Aside0.mk (hbox); have n2_ := Aside0.mk ((by rw [hg]; exact (below_size (by repeat (first | (with_reducible first | exact HB.out | apply below_alloc | apply pw_below_drewN | apply below_drew1) | exact HB.out))) : w.heap.size ≤ gb1024)); have n3_ := Aside0.mk ((by rw [hg]; exact (below_size (by repeat (first | (with_reducible first | exact HB.out | apply below_alloc | apply pw_below_drewN | apply below_drew1) | exact HB.out))) : w.heap.size ≤ gb1024)); clear HB; have HB := n0_; have BK1024 := n1_; have GW1024 := n2_; have GE1024 := n3_; clear n0_ n1_ n2_ n3_; clear hb hbox hg))
    go_ret
    exact ⟨by first | rfl | (simp [errW_none, errW_some] <;> rfl) | (simp [*, errW_none, errW_some] <;> rfl), by repeat (first | (with_reducible first | exact HB.out | apply below_alloc | apply pw_below_drewN | apply below_drew1 | refine below_set ?_ GE1024.out) | exact HB.out)⟩

/-! ### impl_ValidDisk: function 13 -/
mutual
def impl_ValidDisk.j0 : Nat → Bool → List Int → List (S79) → Int → Bool → Option (Bool)
  | 0, _, _, _, _, _ => none
  | k + 1, x19, x1027000, x1027001, x1027002, x1027003 => if x19 = true then (some false) else (if (x1027001.length : Int) > 2000 then (impl_ValidDisk.j1 k true x1027000 x1027001 x1027002 x1027003) else (if x1027002 < (-1) then (impl_ValidDisk.j1 k true x1027000 x1027001 x1027002 x1027003) else (impl_ValidDisk.j1 k (decide (x1027002 > 1000000)) x1027000 x1027001 x1027002 x1027003)))
def impl_ValidDisk.j1 : Nat → Bool → List Int → List (S79) → Int → Bool → Option (Bool)
  | 0, _, _, _, _, _ => none
  | k + 1, x33, x1027000, x1027001, x1027002, x1027003 => if x33 = true then (some false) else (impl_ValidDisk.l0 k x1027001 (x1027001.length : Int) 0 x1027000 x1027001 x1027002 x1027003)
def impl_ValidDisk.l0 : Nat → List (S79) → Int → Int → List Int → List (S79) → Int → Bool → Option (Bool)
  | 0, _, _, _, _, _, _, _ => none
  | k + 1, x35, x36, x37, x1027000, x1027001, x1027002, x1027003 => if x37 < x36 then (if 0 ≤ x37 then (if x37 < (x35.length : Int) then ((impl_Disk_has.f x1027000 x1027001 x1027002 x1027003 ((rd_T79 x35 x37).f0)).bind fun t1031 => (if t1031 = true then (if (((rd_T79 x35 x37).f1).length : Int) = 64 then (impl_ValidDisk.l0 k x35 x36 (wrap64 (x37 + 1)) x1027000 x1027001 x1027002 x1027003) else (some false)) else (some false))) else (none)) else (none)) else (some true)
end
def impl_ValidDisk.f (k : Nat) (l0_0 : List Int) (l0_1 : List (S79)) (a0_2 : Int) (a0_3 : Bool) : Option (Bool) := if ((l0_0.length : Int) % 64) = 0 then ((impl_Disk_sectors.f l0_0 l0_1 a0_2 a0_3).bind fun t1027 => (if t1027 < 16 then (impl_ValidDisk.j0 k true l0_0 l0_1 a0_2 a0_3) else ((impl_Disk_sectors.f l0_0 l0_1 a0_2 a0_3).bind fun t1028 => (impl_ValidDisk.j0 k (decide (t1028 > 1024)) l0_0 l0_1 a0_2 a0_3)))) else (impl_ValidDisk.j0 k true l0_0 l0_1 a0_2 a0_3)
theorem impl_ValidDisk.mono_l : ∀ k, (∀ y0 y1 y2 y3 y4, LeO (impl_ValidDisk.j0 k y0 y1 y2 y3 y4) (impl_ValidDisk.j0 (k + 1) y0 y1 y2 y3 y4)) ∧ (∀ y0 y1 y2 y3 y4, LeO (impl_ValidDisk.j1 k y0 y1 y2 y3 y4) (impl_ValidDisk.j1 (k + 1) y0 y1 y2 y3 y4)) ∧ (∀ y0 y1 y2 y3 y4 y5 y6, LeO (impl_ValidDisk.l0 k y0 y1 y2 y3 y4 y5 y6) (impl_ValidDisk.l0 (k + 1) y0 y1 y2 y3 y4 y5 y6))
  | 0 => ⟨fun _ _ _ _ _ r h => by simp [impl_ValidDisk.j0] at h, fun _ _ _ _ _ r h => by simp [impl_ValidDisk.j1] at h, fun _ _ _ _ _ _ _ r h => by simp [impl_ValidDisk.l0] at h⟩
  | k + 1 => by
    obtain ⟨ih0, ih1, ih2⟩ := impl_ValidDisk.mono_l k
    refine ⟨?_, ?_, ?_⟩
    · intro y0 y1 y2 y3 y4
      unfold impl_ValidDisk.j0
      repeat' first
      | (with_reducible exact ih0 _ _ _ _ _)
      | (with_reducible exact ih1 _ _ _ _ _)
      | (with_reducible exact ih2 _ _ _ _ _ _ _)
      | (with_reducible exact LeO.refl _)
      | (with_reducible exact LeO.none _)
      | (with_reducible refine LeO.ite ?_ ?_)
      | (with_reducible refine LeO.bind ?_ (fun _ => ?_))
      | exact ih0 _ _ _ _ _
      | exact ih1 _ _ _ _ _
      | exact ih2 _ _ _ _ _ _ _
      | exact LeO.none _
      | refine LeO.ite ?_ ?_
      | refine LeO.bind ?_ (fun _ => ?_)
    · intro y0 y1 y2 y3 y4
      unfold impl_ValidDisk.j1
      repeat' first
      | (with_reducible exact ih0 _ _ _ _ _)
      | (with_reducible exact ih1 _ _ _ _ _)
      | (with_reducible exact ih2 _ _ _ _ _ _ _)
      | (with_reducible exact LeO.refl _)
      | (with_reducible exact LeO.none _)
      | (with_reducible refine LeO.ite ?_ ?_)
      | (with_reducible refine LeO.bind ?_ (fun _ => ?_))
      | exact ih0 _ _ _ _ _
      | exact ih1 _ _ _ _ _
      | exact ih2 _ _ _ _ _ _ _
      | exact LeO.none _
      | refine LeO.ite ?_ ?_
      | refine LeO.bind ?_ (fun _ => ?_)
    · intro y0 y1 y2 y3 y4 y5 y6
      unfold impl_ValidDisk.l0
      repeat' first
      | (with_reducible exact ih0 _ _ _ _ _)
      | (with_reducible exact ih1 _ _ _ _ _)
      | (with_reducible exact ih2 _ _ _ _ _ _ _)
      | (with_reducible exact LeO.refl _)
      | (with_reducible exact LeO.none _)
      | (with_reducible refine LeO.ite ?_ ?_)
      | (with_reducible refine LeO.bind ?_ (fun _ => ?_))
      | exact ih0 _ _ _ _ _
      | exact ih1 _ _ _ _ _
      | exact ih2 _ _ _ _ _ _ _
      | exact LeO.none _
      | refine LeO.ite ?_ ?_
      | refine LeO.bind ?_ (fun _ => ?_)
theorem impl_ValidDisk.mono : ∀ a0 a1 a2 a3 k, LeO (impl_ValidDisk.f k a0 a1 a2 a3) (impl_ValidDisk.f (k + 1) a0 a1 a2 a3) := by
  intro a0 a1 a2 a3 k
  obtain ⟨ih0, ih1, ih2⟩ := impl_ValidDisk.mono_l k
  unfold impl_ValidDisk.f
  repeat' first
      | (with_reducible exact ih0 _ _ _ _ _)
      | (with_reducible exact ih1 _ _ _ _ _)
      | (with_reducible exact ih2 _ _ _ _ _ _ _)
      | (with_reducible exact LeO.refl _)
      | (with_reducible exact LeO.none _)
      | (with_reducible refine LeO.ite ?_ ?_)
      | (with_reducible refine LeO.bind ?_ (fun _ => ?_))
      | exact ih0 _ _ _ _ _
      | exact ih1 _ _ _ _ _
      | exact ih2 _ _ _ _ _ _ _
      | exact LeO.none _
      | refine LeO.ite ?_ ?_
      | refine LeO.bind ?_ (fun _ => ?_)
set_option maxHeartbeats 8000000 in
set_option maxRecDepth 100000 in
theorem impl_ValidDisk.calls (k : Nat) (A0_0 : Option Addr) (c0_0 : Nat) (l0_0 : List Int) (A0_1 : Option Addr) (c0_1 : Nat) (l0_1 : List (S79)) (a0_2 : Int) (a0_3 : Bool) (r : Bool) (w : World) (hr0_0 : Kd.C (Kd.int .u8) w A0_0 l0_0.length l0_0) (hc0_0 : l0_0.length ≤ c0_0) (hr0_1 : Kd.C k79 w A0_1 l0_1.length l0_1) (hc0_1 : l0_1.length ≤ c0_1) (h : impl_ValidDisk.f k l0_0 l0_1 a0_2 a0_3 = some r) :
    Calls Try.prog 13 #[.agg #[.slice A0_0 l0_0.length c0_0, .slice A0_1 l0_1.length c0_1, .int .i64 a0_2, .bool a0_3]] w fun e w' => e = .returned (.bool r) ∧ Below w.heap.size w w' := by
  have hu25 := Try.underlying25
  have hu79 := Try.underlying79
  have HR0_0 := Aside0.mk hr0_0
  have HC0_0 := Aside0.mk hc0_0
  clear hr0_0 hc0_0
  have HR0_1 := Aside0.mk hr0_1
  have HC0_1 := Aside0.mk hc0_1
  clear hr0_1 hc0_1
  have HB := Aside0.mk (Below.refl w.heap.size w)
  have H : (if ((l0_0.length : Int) % 64) = 0 then ((impl_Disk_sectors.f l0_0 l0_1 a0_2 a0_3).bind fun t1027 => (if t1027 < 16 then (impl_ValidDisk.j0 k true l0_0 l0_1 a0_2 a0_3) else ((impl_Disk_sectors.f l0_0 l0_1 a0_2 a0_3).bind fun t1028 => (impl_ValidDisk.j0 k (decide (t1028 > 1024)) l0_0 l0_1 a0_2 a0_3)))) else (impl_ValidDisk.j0 k true l0_0 l0_1 a0_2 a0_3)) = some r := h
  clear h
  have HC2 := Aside0.mk H
  clear H
  go_enter Try.func13, Try.ntmps13
  go_upto_region 1 with (first | ((with_reducible refine gate_dst (N := 1) rfl ?_); (try (refine gate_guard (by rfl) ?_; dsimp only)); refine box_event ?hg (N := 1) ?hd (cs := #[.slice A0_0 l0_0.length c0_0, .slice A0_1 l0_1.length c0_1, .int .i64 a0_2, .bool a0_3]) (t := 25) ?hr ?_; (case hd => rfl); (case hg => rfl); (case hr => first | (go_simp; done) | (go_simp; rfl)); intro gb1026 hg w3 hbox hb; have n0_ := Aside0.mk (below_step (by repeat (first | (with_reducible first | exact HB.out | apply below_alloc | apply pw_below_drewN | apply below_drew1) | exact HB.out)) hb); have n1_ := Aside0.mk (hbox); have n2_ := Aside0.mk ((by rw [hg]; exact (below_size (by repeat (first | (with_reducible first | exact HB.out | apply below_alloc | apply pw_below_drewN | apply below_drew1) | exact HB.out))) : w.heap.size ≤ gb1026)); have n3_ := Aside0.mk ((by rw [hg]; exact (below_size (by repeat (first | (with_reducible first | exact HB.out | apply below_alloc | apply pw_below_drewN | apply below_drew1) | exact HB.out))) : w.heap.size ≤ gb1026)); clear HB; have HB := n0_; have BK1026 := n1_; have GW1026 := n2_; have GE1026 := n3_; clear n0_ n1_ n2_ n3_; clear hb hbox hg))
  (try simp only [Act.put, List.setIfInBounds_toArray, List.set_cons_zero, List.set_cons_succ])
  go_cut [19] (fun v19 wc => ∃ (kq : Nat) (x19_1 : Bool), v19 = .bool x19_1 ∧ Aside0 (impl_ValidDisk.j0 kq x19_1 l0_0 l0_1 a0_2 a0_3 = some r) ∧ Aside0 (kq ≤ k) ∧ Aside0 (wc.heap[gb1026]? = some (.cells #[(.slice A0_0 l0_0.length c0_0), (.slice A0_1 l0_1.length c0_1), .int .i64 a0_2, .bool a0_3] 25 (0, 0))) ∧ Aside0 (Below w.heap.size w wc))
  case first =>
    have H := HC2.out
    clear HC2
    by_cases c4 : ((l0_0.length : Int) % 64) = 0
    · rw [if_pos c4] at H
      have c4b0 : (((l0_0.length : Int) % 64) == 0) = true := beq_iff_eq.mpr c4
      have c4b1 : (((l0_0.length : Int) % 64) != 0) = false := bne_eq_false_iff_eq.mpr c4
      clear c4
      (first | rw [c4b0] | (simp only [i64_w, i32_w]; rw [c4b0]) | skip)
      replace H := Option.bind_eq_some_iff.mp H
      obtain ⟨t1027, A50, H⟩ := H
      replace H : (if t1027 < 16 then (impl_ValidDisk.j0 k true l0_0 l0_1 a0_2 a0_3) else ((impl_Disk_sectors.f l0_0 l0_1 a0_2 a0_3).bind fun t1028 => (impl_ValidDisk.j0 k (decide (t1028 > 1024)) l0_0 l0_1 a0_2 a0_3))) = some r := H
      have A5 := Aside0.mk A50
      clear A50
      by_cases c6 : t1027 < 16
      · rw [if_pos c6] at H
        have c6b0 : decide (t1027 < 16) = true := decide_eq_true c6
        clear c6
        have H' := Aside0.mk H
        clear H
        have hcz7_0 : w3.cell? ⟨gb1026, 0, none⟩ = some (.slice A0_0 l0_0.length c0_0) := (blk_cell BK1026.out 0).trans rfl
        have hcz7_1 : w3.cell? ⟨gb1026, 1, none⟩ = some (.slice A0_1 l0_1.length c0_1) := (blk_cell BK1026.out 1).trans rfl
        have hcz7_2 : w3.cell? ⟨gb1026, 2, none⟩ = some (.int .i64 a0_2) := (blk_cell BK1026.out 2).trans rfl
        have hcz7_3 : w3.cell? ⟨gb1026, 3, none⟩ = some (.bool a0_3) := (blk_cell BK1026.out 3).trans rfl
        have hfz7_0 := blk_frozen BK1026.out 0
        have hfz7_1 := blk_frozen BK1026.out 1
        have hfz7_2 := blk_frozen BK1026.out 2
        have hfz7_3 := blk_frozen BK1026.out 3
        go_wp2_with (first | (go_at_call 52; (with_reducible refine (impl_Disk_sectors.calls _ _ l0_0 _ _ l0_1 a0_2 a0_3 t1027 _ ?side1 ?side2 ?side3 ?side4 A5.out).mono ?_); (case side1 => repeat (first | exact (Kd.C_below HR0_0.out HB.out) | (with_reducible refine Kd.C_alloc ?_ _) | (with_reducible refine Kd.C_drewN ?_ _) | (with_reducible refine Kd.C_drew ?_))); (case side2 => exact HC0_0.out); (case side3 => repeat (first | exact (Kd.C_below HR0_1.out HB.out) | (with_reducible refine Kd.C_alloc ?_ _) | (with_reducible refine Kd.C_drewN ?_ _) | (with_reducible refine Kd.C_drew ?_))); (case side4 => exact HC0_1.out); rintro e w8 ⟨rfl, hb⟩; have n0_ := Aside0.mk (blk_below (g := gb1026) (o := .cells #[.slice A0_0 l0_0.length c0_0, .slice A0_1 l0_1.length c0_1, .int .i64 a0_2, .bool a0_3] 25 (0, 0)) (by (with_reducible repeat (first | refine blk_drewN ?_ _ | refine blk_drew ?_ | refine blk_alloc ?_ _)); exact BK1026.out) hb); have n1_ := Aside0.mk (below_step (by repeat (first | (with_reducible first | exact HB.out | apply below_alloc | apply pw_below_drewN | apply below_drew1 | refine below_set ?_ GE1026.out) | exact HB.out)) hb); clear BK1026; clear HB; have BK1026 := n0_; have HB := n1_; clear n0_ n1_; (try clear hb); (try clear hb2); (try clear hk); (try clear hi)))
        go_meet
        case rel => exact ⟨_, (true), (by first | rfl | (simp; done) | (simp [*]; done) | (rw [E9.out]; rfl) | (simp [E9.out]; done)), H', ⟨by first | omega | exact Nat.le_refl _⟩, ⟨by (with_reducible repeat (first | refine blk_drewN ?_ _ | refine blk_drew ?_ | refine blk_alloc ?_ _)); exact BK1026.out⟩, ⟨by repeat (first | (with_reducible first | exact HB.out | apply below_alloc | apply pw_below_drewN | apply below_drew1 | refine below_set ?_ GE1026.out) | exact HB.out)⟩⟩
      · rw [if_neg c6] at H
        have c6b0 : decide (t1027 < 16) = false := decide_eq_false c6
        clear c6
        replace H := Option.bind_eq_some_iff.mp H
        obtain ⟨t1028, A90, H⟩ := H
        replace H : (impl_ValidDisk.j0 k (decide (t1028 > 1024)) l0_0 l0_1 a0_2 a0_3) = some r := H
        have A9 := Aside0.mk A90
        have E9 := Aside0.mk (Option.some.inj (A90.symm.trans A5.out))
        clear A90
        have H' := Aside0.mk H
        clear H
        have hcz10_0 : w3.cell? ⟨gb1026, 0, none⟩ = some (.slice A0_0 l0_0.length c0_0) := (blk_cell BK1026.out 0).trans rfl
        have hcz10_1 : w3.cell? ⟨gb1026, 1, none⟩ = some (.slice A0_1 l0_1.length c0_1) := (blk_cell BK1026.out 1).trans rfl
        have hcz10_2 : w3.cell? ⟨gb1026, 2, none⟩ = some (.int .i64 a0_2) := (blk_cell BK1026.out 2).trans rfl
        have hcz10_3 : w3.cell? ⟨gb1026, 3, none⟩ = some (.bool a0_3) := (blk_cell BK1026.out 3).trans rfl
        have hfz10_0 := blk_frozen BK1026.out 0
        have hfz10_1 := blk_frozen BK1026.out 1
        have hfz10_2 := blk_frozen BK1026.out 2
        have hfz10_3 := blk_frozen BK1026.out 3
        go_wp2_with (first | (go_at_call 52; (with_reducible refine (impl_Disk_sectors.calls _ _ l0_0 _ _ l0_1 a0_2 a0_3 t1027 _ ?side1 ?side2 ?side3 ?side4 A5.out).mono ?_); (case side1 => repeat (first | exact (Kd.C_below HR0_0.out HB.out) | (with_reducible refine Kd.C_alloc ?_ _) | (with_reducible refine Kd.C_drewN ?_ _) | (with_reducible refine Kd.C_drew ?_))); (case side2 => exact HC0_0.out); (case side3 => repeat (first | exact (Kd.C_below HR0_1.out HB.out) | (with_reducible refine Kd.C_alloc ?_ _) | (with_reducible refine Kd.C_drewN ?_ _) | (with_reducible refine Kd.C_drew ?_))); (case side4 => exact HC0_1.out); rintro e w11 ⟨rfl, hb⟩; have n0_ := Aside0.mk (blk_below (g := gb1026) (o := .cells #[.slice A0_0 l0_0.length c0_0, .slice A0_1 l0_1.length c0_1, .int .i64 a0_2, .bool a0_3] 25 (0, 0)) (by (with_reducible repeat (first | refine blk_drewN ?_ _ | refine blk_drew ?_ | refine blk_alloc ?_ _)); exact BK1026.out) hb); have n1_ := Aside0.mk (below_step (by repeat (first | (with_reducible first | exact HB.out | apply below_alloc | apply pw_below_drewN | apply below_drew1 | refine below_set ?_ GE1026.out) | exact HB.out)) hb); clear BK1026; clear HB; have BK1026 := n0_; have HB := n1_; clear n0_ n1_; (try clear hb); (try clear hb2); (try clear hk); (try clear hi); have hcz12_0 : w11.cell? ⟨gb1026, 0, none⟩ = some (.slice A0_0 l0_0.length c0_0) := (blk_cell BK1026.out 0).trans rfl; have hcz12_1 : w11.cell? ⟨gb1026, 1, none⟩ = some (.slice A0_1 l0_1.length c0_1) := (blk_cell BK1026.out 1).trans rfl; have hcz12_2 : w11.cell? ⟨gb1026, 2, none⟩ = some (.int .i64 a0_2) := (blk_cell BK1026.out 2).trans rfl; have hcz12_3 : w11.cell? ⟨gb1026, 3, none⟩ = some (.bool a0_3) := (blk_cell BK1026.out 3).trans rfl; have hfz12_0 := blk_frozen BK1026.out 0; have hfz12_1 := blk_frozen BK1026.out 1; have hfz12_2 := blk_frozen BK1026.out 2; have hfz12_3 := blk_frozen BK1026.out 3) | (go_at_call 52; (with_reducible refine (impl_Disk_sectors.calls _ _ l0_0 _ _ l0_1 a0_2 a0_3 t1028 _ ?side1 ?side2 ?side3 ?side4 A9.out).mono ?_); (case side1 => repeat (first | exact (Kd.C_below HR0_0.out HB.out) | (with_reducible refine Kd.C_alloc ?_ _) | (with_reducible refine Kd.C_drewN ?_ _) | (with_reducible refine Kd.C_drew ?_))); (case side2 => exact HC0_0.out); (case side3 => repeat (first | exact (Kd.C_below HR0_1.out HB.out) | (with_reducible refine Kd.C_alloc ?_ _) | (with_reducible refine Kd.C_drewN ?_ _) | (with_reducible refine Kd.C_drew ?_))); (case side4 => exact HC0_1.out); rintro e w13 ⟨rfl, hb⟩; have n0_ := Aside0.mk (blk_below (g := gb1026) (o := .cells #[.slice A0_0 l0_0.length c0_0, .slice A0_1 l0_1.length c0_1, .int .i64 a0_2, .bool a0_3] 25 (0, 0)) (by (with_reducible repeat (first | refine blk_drewN ?_ _ | refine blk_drew ?_ | refine blk_alloc ?_ _)); exact BK1026.out) hb); have n1_ := Aside0.mk (below_step (by repeat (first | (with_reducible first | exact HB.out | apply below_alloc | apply pw_below_drewN | apply below_drew1 | refine below_set ?_ GE1026.out) | exact HB.out)) hb); clear BK1026; clear HB; have BK1026 := n0_; have HB := n1_; clear n0_ n1_; (try clear hb); (try clear hb2); (try clear hk); (try clear hi)))
        go_meet
        case rel => exact ⟨_, (decide (t1028 > 1024)), (by first | rfl | (simp; done) | (simp [*]; done) | (rw [E9.out]; rfl) | (simp [E9.out]; done)), H', ⟨by first | omega | exact Nat.le_refl _⟩, ⟨by (with_reducible repeat (first | refine blk_drewN ?_ _ | refine blk_drew ?_ | refine blk_alloc ?_ _)); exact BK1026.out⟩, ⟨by repeat (first | (with_reducible first | exact HB.out | apply below_alloc | apply pw_below_drewN | apply below_drew1 | refine below_set ?_ GE1026.out) | exact HB.out)⟩⟩
    · rw [if_neg c4] at H
      have c4b0 : (((l0_0.length : Int) % 64) == 0) = false := beq_eq_false_iff_ne.mpr c4
      have c4b1 : (((l0_0.length : Int) % 64) != 0) = true := bne_iff_ne.mpr c4
      (first | rw [c4b0] | (simp only [i64_w, i32_w]; rw [c4b0]) | skip)
      have H' := Aside0.mk H
      clear H
      have hcz14_0 : w3.cell? ⟨gb1026, 0, none⟩ = some (.slice A0_0 l0_0.length c0_0) := (blk_cell BK1026.out 0).trans rfl
      have hcz14_1 : w3.cell? ⟨gb1026, 1, none⟩ = some (.slice A0_1 l0_1.length c0_1) := (blk_cell BK1026.out 1).trans rfl
      have hcz14_2 : w3.cell? ⟨gb1026, 2, none⟩ = some (.int .i64 a0_2) := (blk_cell BK1026.out 2).trans rfl
      have hcz14_3 : w3.cell? ⟨gb1026, 3, none⟩ = some (.bool a0_3) := (blk_cell BK1026.out 3).trans rfl
      have hfz14_0 := blk_frozen BK1026.out 0
      have hfz14_1 := blk_frozen BK1026.out 1
      have hfz14_2 := blk_frozen BK1026.out 2
      have hfz14_3 := blk_frozen BK1026.out 3
      go_wp2
      go_meet
      case rel => exact ⟨_, (true), (by first | rfl | (simp; done) | (simp [*]; done) | (rw [E9.out]; rfl) | (simp [E9.out]; done)), H', ⟨by first | omega | exact Nat.le_refl _⟩, ⟨by (with_reducible repeat (first | refine blk_drewN ?_ _ | refine blk_drew ?_ | refine blk_alloc ?_ _)); exact BK1026.out⟩, ⟨by repeat (first | (with_reducible first | exact HB.out | apply below_alloc | apply pw_below_drewN | apply below_drew1 | refine below_set ?_ GE1026.out) | exact HB.out)⟩⟩
  case rest =>
    clear HC2
    try clear c1
    try clear p2
    try clear c4
    try clear c4b0
    try clear c4b1
    try clear c6
    try clear c6b0
    try clear c13
    try clear hcz10_0
    try clear hcz10_1
    try clear hcz10_2
    try clear hcz10_3
    try clear hcz12_0
    try clear hcz12_1
    try clear hcz12_2
    try clear hcz12_3
    try clear hcz14_0
    try clear hcz14_1
    try clear hcz14_2
    try clear hcz14_3
    try clear hcz7_0
    try clear hcz7_1
    try clear hcz7_2
    try clear hcz7_3
    try clear hfz10_0
    try clear hfz10_1
    try clear hfz10_2
    try clear hfz10_3
    try clear hfz12_0
    try clear hfz12_1
    try clear hfz12_2
    try clear hfz12_3
    try clear hfz14_0
    try clear hfz14_1
    try clear hfz14_2
    try clear hfz14_3
    try clear hfz7_0
    try clear hfz7_1
    try clear hfz7_2
    try clear hfz7_3
    obtain ⟨kq, x19_1, rfl, HA, HJ1, BK1026, HB⟩ := hcut
    cases kq with
    | zero => exact absurd HA.out (by simp [impl_ValidDisk.j0])
    | succ kj1 =>
      have H := HA.out
      clear HA
      simp only [impl_ValidDisk.j0] at H
      by_cases c15 : x19_1 = true
      · subst c15
        have H1 : (some false) = some r := by rw [if_pos rfl] at H; exact H
        clear H
        have H := H1
        clear H1
        obtain rfl := Option.some.inj H
        go_wp2
        go_ret
        exact ⟨by first | rfl | (simp [errW_none, errW_some] <;> rfl) | (simp [*, errW_none, errW_some] <;> rfl), by repeat (first | (with_reducible first | exact HB.out | apply below_alloc | apply pw_below_drewN | apply below_drew1 | refine below_set ?_ GE1026.out) | exact HB.out)⟩
      · replace c15 := Bool.eq_false_iff.mpr c15
        subst c15
        have H1 : (if (l0_1.length : Int) > 2000 then (impl_ValidDisk.j1 kj1 true l0_0 l0_1 a0_2 a0_3) else (if a0_2 < (-1) then (impl_ValidDisk.j1 kj1 true l0_0 l0_1 a0_2 a0_3) else (impl_ValidDisk.j1 kj1 (decide (a0_2 > 1000000)) l0_0 l0_1 a0_2 a0_3))) = some r := by rw [if_neg (show ¬ (false = true) by decide)] at H; exact H
        clear H
        have H := H1
        clear H1
        have HC16 := Aside0.mk H
        clear H
        go_upto_region 3 with (fail)
        go_cut [33] (fun v33 wc => ∃ (kq : Nat) (x33_15 : Bool), v33 = .bool x33_15 ∧ Aside0 (impl_ValidDisk.j1 kq x33_15 l0_0 l0_1 a0_2 a0_3 = some r) ∧ Aside0 (kq ≤ kj1) ∧ Aside0 (wc.heap[gb1026]? = some (.cells #[(.slice A0_0 l0_0.length c0_0), (.slice A0_1 l0_1.length c0_1), .int .i64 a0_2, .bool a0_3] 25 (0, 0))) ∧ Aside0 (Below w.heap.size w wc))
        case first =>
          have H := HC16.out
          clear HC16
          by_cases c17 : (l0_1.length : Int) > 2000
          · rw [if_pos c17] at H
            have c17b0 : decide (2000 < (l0_1.length : Int)) = true := decide_eq_true c17
            have c17b1 : decide (2000 < l0_1.length) = true := decide_eq_true (by omega)
            clear c17
            (first | rw [c17b0] | (simp only [i64_w, i32_w]; rw [c17b0]) | skip)
            have H' := Aside0.mk H
            clear H
            have hcz18_0 : wc.cell? ⟨gb1026, 0, none⟩ = some (.slice A0_0 l0_0.length c0_0) := (blk_cell BK1026.out 0).trans rfl
            have hcz18_1 : wc.cell? ⟨gb1026, 1, none⟩ = some (.slice A0_1 l0_1.length c0_1) := (blk_cell BK1026.out 1).trans rfl
            have hcz18_2 : wc.cell? ⟨gb1026, 2, none⟩ = some (.int .i64 a0_2) := (blk_cell BK1026.out 2).trans rfl
            have hcz18_3 : wc.cell? ⟨gb1026, 3, none⟩ = some (.bool a0_3) := (blk_cell BK1026.out 3).trans rfl
            have hfz18_0 := blk_frozen BK1026.out 0
            have hfz18_1 := blk_frozen BK1026.out 1
            have hfz18_2 := blk_frozen BK1026.out 2
            have hfz18_3 := blk_frozen BK1026.out 3
            go_wp2
            go_meet
            case rel => exact ⟨_, (true), (by first | rfl | (simp; done) | (simp [*]; done) | (rw [E9.out]; rfl) | (simp [E9.out]; done)), H', ⟨by have := HJ1.out; first | omega | exact Nat.le_refl _⟩, ⟨by (with_reducible repeat (first | refine blk_drewN ?_ _ | refine blk_drew ?_ | refine blk_alloc ?_ _)); exact BK1026.out⟩, ⟨by repeat (first | (with_reducible first | exact HB.out | apply below_alloc | apply pw_below_drewN | apply below_drew1 | refine below_set ?_ GE1026.out) | exact HB.out)⟩⟩
          · rw [if_neg c17] at H
            have c17b0 : decide (2000 < (l0_1.length : Int)) = false := decide_eq_false c17
            have c17b1 : decide (2000 < l0_1.length) = false := decide_eq_false (by omega)
            clear c17
            (first | rw [c17b0] | (simp only [i64_w, i32_w]; rw [c17b0]) | skip)
            by_cases c19 : a0_2 < (-1)
            · rw [if_pos c19] at H
              have c19b0 : decide (a0_2 < (-1)) = true := decide_eq_true c19
              clear c19
              have H' := Aside0.mk H
              clear H
              have hcz20_0 : wc.cell? ⟨gb1026, 0, none⟩ = some (.slice A0_0 l0_0.length c0_0) := (blk_cell BK1026.out 0).trans rfl
              have hcz20_1 : wc.cell? ⟨gb1026, 1, none⟩ = some (.slice A0_1 l0_1.length c0_1) := (blk_cell BK1026.out 1).trans rfl
              have hcz20_2 : wc.cell? ⟨gb1026, 2, none⟩ = some (.int .i64 a0_2) := (blk_cell BK1026.out 2).trans rfl
              have hcz20_3 : wc.cell? ⟨gb1026, 3, none⟩ = some (.bool a0_3) := (blk_cell BK1026.out 3).trans rfl
              have hfz20_0 := blk_frozen BK1026.out 0
              have hfz20_1 := blk_frozen BK1026.out 1
              have hfz20_2 := blk_frozen BK1026.out 2
              have hfz20_3 := blk_frozen BK1026.out 3
              go_wp2
              go_meet
              case rel => exact ⟨_, (true), (by first | rfl | (simp; done) | (simp [*]; done) | (rw [E9.out]; rfl) | (simp [E9.out]; done)), H', ⟨by have := HJ1.out; first | omega | exact Nat.le_refl _⟩, ⟨by (with_reducible repeat (first | refine blk_drewN ?_ _ | refine blk_drew ?_ | refine blk_alloc ?_ _)); exact BK1026.out⟩, ⟨by repeat (first | (with_reducible first | exact HB.out | apply below_alloc | apply pw_below_drewN | apply below_drew1 | refine below_set ?_ GE1026.out) | exact HB.out)⟩⟩
            · rw [if_neg c19] at H
              have c19b0 : decide (a0_2 < (-1)) = false := decide_eq_false c19
              clear c19
              have H' := Aside0.mk H
              clear H
              have hcz21_0 : wc.cell? ⟨gb1026, 0, none⟩ = some (.slice A0_0 l0_0.length c0_0) := (blk_cell BK1026.out 0).trans rfl
              have hcz21_1 : wc.cell? ⟨gb1026, 1, none⟩ = some (.slice A0_1 l0_1.length c0_1) := (blk_cell BK1026.out 1).trans rfl
              have hcz21_2 : wc.cell? ⟨gb1026, 2, none⟩ = some (.int .i64 a0_2) := (blk_cell BK1026.out 2).trans rfl
              have hcz21_3 : wc.cell? ⟨gb1026, 3, none⟩ = some (.bool a0_3) := (blk_cell BK1026.out 3).trans rfl
              have hfz21_0 := blk_frozen BK1026.out 0
              have hfz21_1 := blk_frozen BK1026.out 1
              have hfz21_2 := blk_frozen BK1026.out 2
              have hfz21_3 := blk_frozen BK1026.out 3
              go_wp2
              go_meet
              case rel => exact ⟨_, (decide (a0_2 > 1000000)), (by first | rfl | (simp; done) | (simp [*]; done) | (rw [E9.out]; rfl) | (simp [E9.out]; done)), H', ⟨by have := HJ1.out; first | omega | exact Nat.le_refl _⟩, ⟨by (with_reducible repeat (first | refine blk_drewN ?_ _ | refine blk_drew ?_ | refine blk_alloc ?_ _)); exact BK1026.out⟩, ⟨by repeat (first | (with_reducible first | exact HB.out | apply below_alloc | apply pw_below_drewN | apply below_drew1 | refine below_set ?_ GE1026.out) | exact HB.out)⟩⟩
        case rest =>
          clear HC16
          try clear c1
          try clear p2
          try clear c4
          try clear c4b0
          try clear c4b1
          try clear c6
          try clear c6b0
          try clear c13
          try clear c15
          try clear c17
          try clear c17b0
          try clear c17b1
          try clear c19
          try clear c19b0
          try clear hcz10_0
          try clear hcz10_1
          try clear hcz10_2
          try clear hcz10_3
          try clear hcz12_0
          try clear hcz12_1
          try clear hcz12_2
          try clear hcz12_3
          try clear hcz14_0
          try clear hcz14_1
          try clear hcz14_2
          try clear hcz14_3
          try clear hcz18_0
          try clear hcz18_1
          try clear hcz18_2
          try clear hcz18_3
          try clear hcz20_0
          try clear hcz20_1
          try clear hcz20_2
          try clear hcz20_3
          try clear hcz21_0
          try clear hcz21_1
          try clear hcz21_2
          try clear hcz21_3
          try clear hcz7_0
          try clear hcz7_1
          try clear hcz7_2
          try clear hcz7_3
          try clear hfz10_0
          try clear hfz10_1
          try clear hfz10_2
          try clear hfz10_3
          try clear hfz12_0
          try clear hfz12_1
          try clear hfz12_2
          try clear hfz12_3
          try clear hfz14_0
          try clear hfz14_1
          try clear hfz14_2
          try clear hfz14_3
          try clear hfz18_0
          try clear hfz18_1
          try clear hfz18_2
          try clear hfz18_3
          try clear hfz20_0
          try clear hfz20_1
          try clear hfz20_2
          try clear hfz20_3
          try clear hfz21_0
          try clear hfz21_1
          try clear hfz21_2
          try clear hfz21_3
          try clear hfz7_0
          try clear hfz7_1
          try clear hfz7_2
          try clear hfz7_3
          try clear p2
          obtain ⟨kq, x33_15, rfl, HA, HJ15, BK1026, HB⟩ := hcut
          cases kq with
          | zero => exact absurd HA.out (by simp [impl_ValidDisk.j1])
          | succ kj15 =>
            have H := HA.out
            clear HA
            simp only [impl_ValidDisk.j1] at H
            by_cases c22 : x33_15 = true
            · subst c22
              have H1 : (some false) = some r := by rw [if_pos rfl] at H; exact H
              clear H
              have H := H1
              clear H1
              obtain rfl := Option.some.inj H
              go_wp2
              go_ret
              exact ⟨by first | rfl | (simp [errW_none, errW_some] <;> rfl) | (simp [*, errW_none, errW_some] <;> rfl), by repeat (first | (with_reducible first | exact HB.out | apply below_alloc | apply pw_below_drewN | apply below_drew1 | refine below_set ?_ GE1026.out) | exact HB.out)⟩
            · replace c22 := Bool.eq_false_iff.mpr c22
              subst c22
              have H1 : (impl_ValidDisk.l0 kj15 l0_1 (l0_1.length : Int) 0 l0_0 l0_1 a0_2 a0_3) = some r := by rw [if_neg (show ¬ (false = true) by decide)] at H; exact H
              clear H
              have H := H1
              clear H1
              have H' := Aside0.mk H
              clear H
              have hcz23_0 : wc.cell? ⟨gb1026, 0, none⟩ = some (.slice A0_0 l0_0.length c0_0) := (blk_cell BK1026.out 0).trans rfl
              have hcz23_1 : wc.cell? ⟨gb1026, 1, none⟩ = some (.slice A0_1 l0_1.length c0_1) := (blk_cell BK1026.out 1).trans rfl
              have hcz23_2 : wc.cell? ⟨gb1026, 2, none⟩ = some (.int .i64 a0_2) := (blk_cell BK1026.out 2).trans rfl
              have hcz23_3 : wc.cell? ⟨gb1026, 3, none⟩ = some (.bool a0_3) := (blk_cell BK1026.out 3).trans rfl
              have hfz23_0 := blk_frozen BK1026.out 0
              have hfz23_1 := blk_frozen BK1026.out 1
              have hfz23_2 := blk_frozen BK1026.out 2
              have hfz23_3 := blk_frozen BK1026.out 3
              go_wp2
              go_loopg [37] kj15 (fun kq v37 w' => ∃ (x37_3 : Int), v37 = .int .i64 x37_3 ∧ Aside0 (impl_ValidDisk.l0 kq l0_1 (l0_1.length : Int) x37_3 l0_0 l0_1 a0_2 a0_3 = some r) ∧ Aside0 (kq ≤ kj15) ∧ Aside0 (w'.heap[gb1026]? = some (.cells #[(.slice A0_0 l0_0.length c0_0), (.slice A0_1 l0_1.length c0_1), .int .i64 a0_2, .bool a0_3] 25 (0, 0))) ∧ Aside0 (Below w.heap.size w w'))
              case atStart => exact ⟨(0), (by first | rfl | (simp; done) | (simp [*]; done) | (rw [E9.out]; rfl) | (simp [E9.out]; done)), H', ⟨Nat.le_refl _⟩, ⟨by (with_reducible repeat (first | refine blk_drewN ?_ _ | refine blk_drew ?_ | refine blk_alloc ?_ _)); exact BK1026.out⟩, ⟨by repeat (first | (with_reducible first | exact HB.out | apply below_alloc | apply pw_below_drewN | apply below_drew1 | refine below_set ?_ GE1026.out) | exact HB.out)⟩⟩
              case round =>
                clear H'
                try clear c1
                try clear c2
                try clear p2
                try clear c4
                try clear c4b0
                try clear c4b1
                try clear c6
                try clear c6b0
                try clear c13
                try clear c15
                try clear c17
                try clear c17b0
                try clear c17b1
                try clear c19
                try clear c19b0
                try clear c22
                try clear hcz10_0
                try clear hcz10_1
                try clear hcz10_2
                try clear hcz10_3
                try clear hcz12_0
                try clear hcz12_1
                try clear hcz12_2
                try clear hcz12_3
                try clear hcz14_0
                try clear hcz14_1
                try clear hcz14_2
                try clear hcz14_3
                try clear hcz18_0
                try clear hcz18_1
                try clear hcz18_2
                try clear hcz18_3
                try clear hcz20_0
                try clear hcz20_1
                try clear hcz20_2
                try clear hcz20_3
                try clear hcz21_0
                try clear hcz21_1
                try clear hcz21_2
                try clear hcz21_3
                try clear hcz23_0
                try clear hcz23_1
                try clear hcz23_2
                try clear hcz23_3
                try clear hcz7_0
                try clear hcz7_1
                try clear hcz7_2
                try clear hcz7_3
                try clear hfz10_0
                try clear hfz10_1
                try clear hfz10_2
                try clear hfz10_3
                try clear hfz12_0
                try clear hfz12_1
                try clear hfz12_2
                try clear hfz12_3
                try clear hfz14_0
                try clear hfz14_1
                try clear hfz14_2
                try clear hfz14_3
                try clear hfz18_0
                try clear hfz18_1
                try clear hfz18_2
                try clear hfz18_3
                try clear hfz20_0
                try clear hfz20_1
                try clear hfz20_2
                try clear hfz20_3
                try clear hfz21_0
                try clear hfz21_1
                try clear hfz21_2
                try clear hfz21_3
                try clear hfz23_0
                try clear hfz23_1
                try clear hfz23_2
                try clear hfz23_3
                try clear hfz7_0
                try clear hfz7_1
                try clear hfz7_2
                try clear hfz7_3
                try clear p2
                obtain ⟨x37_3, rfl, HA, HK3, BK1026, HB⟩ := hrel
                cases gk with
                | zero => exact absurd HA.out (by simp [impl_ValidDisk.l0])
                | succ k3 =>
                  have H := HA.out
                  clear HA
                  simp only [impl_ValidDisk.l0] at H
                  by_cases c24 : x37_3 < (l0_1.length : Int)
                  · rw [if_pos c24] at H
                    have c24b0 : decide (x37_3 < (l0_1.length : Int)) = true := decide_eq_true c24
                    clear c24
                    by_cases c25 : 0 ≤ x37_3
                    · rw [if_pos c25] at H
                      have c25b0 : decide (0 ≤ x37_3) = true := decide_eq_true c25
                      clear c25
                      by_cases c26 : x37_3 < (l0_1.length : Int)
                      · rw [if_pos c26] at H
                        have c26b0 : decide (x37_3 < (l0_1.length : Int)) = true := decide_eq_true c26
                        clear c26
                        replace H := Option.bind_eq_some_iff.mp H
                        obtain ⟨t1031, A270, H⟩ := H
                        replace H : (if t1031 = true then (if (((rd_T79 l0_1 x37_3).f1).length : Int) = 64 then (impl_ValidDisk.l0 k3 l0_1 (l0_1.length : Int) (wrap64 (x37_3 + 1)) l0_0 l0_1 a0_2 a0_3) else (some false)) else (some false)) = some r := H
                        have A27 := Aside0.mk A270
                        clear A270
                        by_cases c28 : t1031 = true
                        · subst c28
                          have H1 : (if (((rd_T79 l0_1 x37_3).f1).length : Int) = 64 then (impl_ValidDisk.l0 k3 l0_1 (l0_1.length : Int) (wrap64 (x37_3 + 1)) l0_0 l0_1 a0_2 a0_3) else (some false)) = some r := by rw [if_pos rfl] at H; exact H
                          clear H
                          have H := H1
                          clear H1
                          by_cases c29 : (((rd_T79 l0_1 x37_3).f1).length : Int) = 64
                          · rw [if_pos c29] at H
                            have c29b0 : ((((rd_T79 l0_1 x37_3).f1).length : Int) == 64) = true := beq_iff_eq.mpr c29
                            have c29b1 : ((((rd_T79 l0_1 x37_3).f1).length : Int) != 64) = false := bne_eq_false_iff_eq.mpr c29
                            clear c29
                            have H' := Aside0.mk H
                            clear H
                            have p1029 : 0 ≤ (x37_3 : Int) := of_decide_eq_true (by first | (with_reducible assumption) | assumption)
                            have q1029 : x37_3 < (l0_1.length : Int) := of_decide_eq_true (by first | (with_reducible assumption) | assumption)
                            obtain ⟨ad1029, A1029_1, c1029_1, e1029, hx1029_0, hx1029_1, hl1029_1, hi1029_1⟩ := at_T79 HR0_1.out x37_3 p1029 q1029
                            cases e1029
                            replace hx1029_0 := (HB.out.cell (World.block_lt_of_cell? w _ hx1029_0)).trans hx1029_0
                            replace hx1029_1 := (HB.out.cell (World.block_lt_of_cell? w _ hx1029_1)).trans hx1029_1
                            have HR1029_1 := Aside0.mk hi1029_1
                            have HC1029_1 := Aside0.mk hl1029_1
                            clear hi1029_1 hl1029_1
                            replace p1029 := eq_true p1029
                            replace q1029 := eq_true q1029
                            go_wp2_with (first | ((with_reducible refine gate_dst (N := 4) rfl ?_); (try (refine gate_guard (by rfl) ?_; dsimp only)); refine box_event ?hg (N := 4) ?hd (cs := #[.int .i64 0, .slice none 0 0]) (t := 79) ?hr ?_; (case hd => rfl); (case hg => rfl); (case hr => first | (go_simp; done) | (go_simp; rfl)); intro gb1030 hg w30 hbox hb; have n0_ := Aside0.mk (blk_below (g := gb1026) (o := .cells #[.slice A0_0 l0_0.length c0_0, .slice (some ad1029) l0_1.length c0_1, .int .i64 a0_2, .bool a0_3] 25 (0, 0)) (by (with_reducible repeat (first | refine blk_drewN ?_ _ | refine blk_drew ?_ | refine blk_alloc ?_ _)); exact BK1026.out) hb); have n1_ := Aside0.mk (below_step (by repeat (first | (with_reducible first | exact HB.out | apply below_alloc | apply pw_below_drewN | apply below_drew1 | refine below_set ?_ GE1026.out) | exact HB.out)) hb); have n2_ := Aside0.mk (hbox); have n3_ := Aside0.mk ((by rw [hg]; exact (below_size (by repeat (first | (with_reducible first | exact HB.out | apply below_alloc | apply pw_below_drewN | apply below_drew1 | refine below_set ?_ GE1026.out) | exact HB.out))) : w.heap.size ≤ gb1030)); have n4_ := Aside0.mk ((by rw [hg]; exact (below_size (by repeat (first | (with_reducible first | exact HB.out | apply below_alloc | apply pw_below_drewN | apply below_drew1 | refine below_set ?_ GE1026.out) | exact HB.out))) : w.heap.size ≤ gb1030)); have n5_ := Aside0.mk ((by rw [hg]; exact Nat.ne_of_lt (blk_lt (g := gb1026) (o := .cells #[.slice A0_0 l0_0.length c0_0, .slice (some ad1029) l0_1.length c0_1, .int .i64 a0_2, .bool a0_3] 25 (0, 0)) (by (with_reducible repeat (first | refine blk_drewN ?_ _ | refine blk_drew ?_ | refine blk_alloc ?_ _)); exact BK1026.out)) : gb1026 ≠ gb1030)); have n6_ := Aside0.mk ((by rw [hg]; exact Nat.ne_of_gt (blk_lt (g := gb1026) (o := .cells #[.slice A0_0 l0_0.length c0_0, .slice (some ad1029) l0_1.length c0_1, .int .i64 a0_2, .bool a0_3] 25 (0, 0)) (by (with_reducible repeat (first | refine blk_drewN ?_ _ | refine blk_drew ?_ | refine blk_alloc ?_ _)); exact BK1026.out)) : gb1030 ≠ gb1026)); clear BK1026; clear HB; have BK1026 := n0_; have HB := n1_; have BK1030 := n2_; have GW1030 := n3_; have GE1030 := n4_; have NB1026_1030 := n5_; have NB1030_1026 := n6_; clear n0_ n1_ n2_ n3_ n4_ n5_ n6_; clear hb hbox hg; have hnb31 := NB1030_1026.out; have hnc31 := NB1026_1030.out; have hcz32_0 : w30.cell? ⟨gb1030, 0, none⟩ = some (.int .i64 0) := (blk_cell BK1030.out 0).trans rfl; have hcz32_1 : w30.cell? ⟨gb1030, 1, none⟩ = some (.slice none 0 0) := (blk_cell BK1030.out 1).trans rfl; have hfz32_0 := blk_frozen BK1030.out 0; have hfz32_1 := blk_frozen BK1030.out 1; have hcz33_0 : w30.cell? ⟨gb1026, 0, none⟩ = some (.slice A0_0 l0_0.length c0_0) := (blk_cell BK1026.out 0).trans rfl; have hcz33_1 : w30.cell? ⟨gb1026, 1, none⟩ = some (.slice (some ad1029) l0_1.length c0_1) := (blk_cell BK1026.out 1).trans rfl; have hcz33_2 : w30.cell? ⟨gb1026, 2, none⟩ = some (.int .i64 a0_2) := (blk_cell BK1026.out 2).trans rfl; have hcz33_3 : w30.cell? ⟨gb1026, 3, none⟩ = some (.bool a0_3) := (blk_cell BK1026.out 3).trans rfl; have hfz33_0 := blk_frozen BK1026.out 0; have hfz33_1 := blk_frozen BK1026.out 1; have hfz33_2 := blk_frozen BK1026.out 2; have hfz33_3 := blk_frozen BK1026.out 3) | ((with_reducible refine gate_callee (f := 53) rfl ?_); refine goesL_ (some 44) rfl rfl Try.func53 (by kernel_rfl) rfl #[.agg #[.slice A0_0 l0_0.length c0_0, .slice (some ad1029) l0_1.length c0_1, .int .i64 a0_2, .bool a0_3], .int .i64 ((rd_T79 l0_1 x37_3).f0)] rfl (by (try simp only [List.map_toArray, List.map_cons, List.map_nil]); first | done | rfl | (simp only [List.length_drop, List.length_take]; rfl)) ?_; (with_reducible refine (impl_Disk_has.calls _ _ l0_0 _ _ l0_1 a0_2 a0_3 ((rd_T79 l0_1 x37_3).f0) true _ ?side1 ?side2 ?side3 ?side4 A27.out).mono ?_); (case side1 => exact Kd.C_below HR0_0.out (by repeat (first | (with_reducible first | exact HB.out | apply below_alloc | apply pw_below_drewN | apply below_drew1 | refine below_set ?_ GE1026.out | refine below_set ?_ GE1030.out) | exact HB.out))); (case side2 => exact HC0_0.out); (case side3 => exact Kd.C_below HR0_1.out (by repeat (first | (with_reducible first | exact HB.out | apply below_alloc | apply pw_below_drewN | apply below_drew1 | refine below_set ?_ GE1026.out | refine below_set ?_ GE1030.out) | exact HB.out))); (case side4 => exact HC0_1.out); rintro e w34 ⟨rfl, hb⟩; refine ⟨_, rfl, ?_⟩; have n0_ := Aside0.mk (blk_below (g := gb1026) (o := .cells #[.slice A0_0 l0_0.length c0_0, .slice (some ad1029) l0_1.length c0_1, .int .i64 a0_2, .bool a0_3] 25 (0, 0)) (by (with_reducible repeat (first | refine blk_drewN ?_ _ | refine blk_drew ?_ | refine blk_alloc ?_ _)); refine blk_far ?_ NB1026_1030.out _; (with_reducible repeat (first | refine blk_drewN ?_ _ | refine blk_drew ?_ | refine blk_alloc ?_ _)); refine blk_far ?_ NB1026_1030.out _; (with_reducible repeat (first | refine blk_drewN ?_ _ | refine blk_drew ?_ | refine blk_alloc ?_ _)); exact BK1026.out) hb); have n1_ := Aside0.mk (blk_below (g := gb1030) (o := .cells #[.int .i64 ((rd_T79 l0_1 x37_3).f0), .slice A1029_1 ((rd_T79 l0_1 x37_3).f1).length c1029_1] 79 (0, 0)) (by (with_reducible repeat (first | refine blk_drewN ?_ _ | refine blk_drew ?_ | refine blk_alloc ?_ _)); refine blk_put (cs := #[.int .i64 ((rd_T79 l0_1 x37_3).f0), .slice none 0 0]) ?_ 1 _ rfl; (with_reducible repeat (first | refine blk_drewN ?_ _ | refine blk_drew ?_ | refine blk_alloc ?_ _)); refine blk_put (cs := #[.int .i64 0, .slice none 0 0]) ?_ 0 _ rfl; (with_reducible repeat (first | refine blk_drewN ?_ _ | refine blk_drew ?_ | refine blk_alloc ?_ _)); exact BK1030.out) hb); have n2_ := Aside0.mk (below_step (by repeat (first | (with_reducible first | exact HB.out | apply below_alloc | apply pw_below_drewN | apply below_drew1 | refine below_set ?_ GE1026.out | refine below_set ?_ GE1030.out) | exact HB.out)) hb); clear BK1026; clear BK1030; clear HB; have BK1026 := n0_; have BK1030 := n1_; have HB := n2_; clear n0_ n1_ n2_; (try clear hb); (try clear hb2); (try clear hk); (try clear hi); have hcz35_0 : w34.cell? ⟨gb1030, 0, none⟩ = some (.int .i64 ((rd_T79 l0_1 x37_3).f0)) := (blk_cell BK1030.out 0).trans rfl; have hcz35_1 : w34.cell? ⟨gb1030, 1, none⟩ = some (.slice A1029_1 ((rd_T79 l0_1 x37_3).f1).length c1029_1) := (blk_cell BK1030.out 1).trans rfl; have hfz35_0 := blk_frozen BK1030.out 0; have hfz35_1 := blk_frozen BK1030.out 1))
                            go_roundg k3
                            case measure => have := HJ1.out; have := HJ15.out; have := HK3.out; omega
                            case rel => exact ⟨(wrap64 (x37_3 + 1)), (by first | rfl | (simp; done) | (simp [*]; done) | (rw [E9.out]; rfl) | (simp [E9.out]; done)), H', ⟨by have := HJ1.out; have := HJ15.out; have := HK3.out; omega⟩, ⟨by (with_reducible repeat (first | refine blk_drewN ?_ _ | refine blk_drew ?_ | refine blk_alloc ?_ _)); exact BK1026.out⟩, ⟨by repeat (first | (with_reducible first | exact HB.out | apply below_alloc | apply pw_below_drewN | apply below_drew1 | refine below_set ?_ GE1026.out | refine below_set ?_ GE1030.out) | exact HB.out)⟩⟩
                          · rw [if_neg c29] at H
                            have c29b0 : ((((rd_T79 l0_1 x37_3).f1).length : Int) == 64) = false := beq_eq_false_iff_ne.mpr c29
                            have c29b1 : ((((rd_T79 l0_1 x37_3).f1).length : Int) != 64) = true := bne_iff_ne.mpr c29
                            obtain rfl := Option.some.inj H
                            have p1029 : 0 ≤ (x37_3 : Int) := of_decide_eq_true (by first | (with_reducible assumption) | assumption)
                            have q1029 : x37_3 < (l0_1.length : Int) := of_decide_eq_true (by first | (with_reducible assumption) | assumption)
                            obtain ⟨ad1029, A1029_1, c1029_1, e1029, hx1029_0, hx1029_1, hl1029_1, hi1029_1⟩ := at_T79 HR0_1.out x37_3 p1029 q1029
                            cases e1029
                            replace hx1029_0 := (HB.out.cell (World.block_lt_of_cell? w _ hx1029_0)).trans hx1029_0
                            replace hx1029_1 := (HB.out.cell (World.block_lt_of_cell? w _ hx1029_1)).trans hx1029_1
                            have HR1029_1 := Aside0.mk hi1029_1
                            have HC1029_1 := Aside0.mk hl1029_1
                            clear hi1029_1 hl1029_1
                            replace p1029 := eq_true p1029
                            replace q1029 := eq_true q1029
                            go_wp2_with (first | ((with_reducible refine gate_dst (N := 4) rfl ?_); (try (refine gate_guard (by rfl) ?_; dsimp only)); refine box_event ?hg (N := 4) ?hd (cs := #[.int .i64 0, .slice none 0 0]) (t := 79) ?hr ?_; (case hd => rfl); (case hg => rfl); (case hr => first | (go_simp; done) | (go_simp; rfl)); intro gb1030 hg w36 hbox hb; have n0_ := Aside0.mk (blk_below (g := gb1026) (o := .cells #[.slice A0_0 l0_0.length c0_0, .slice (some ad1029) l0_1.length c0_1, .int .i64 a0_2, .bool a0_3] 25 (0, 0)) (by (with_reducible repeat (first | refine blk_drewN ?_ _ | refine blk_drew ?_ | refine blk_alloc ?_ _)); exact BK1026.out) hb); have n1_ := Aside0.mk (below_step (by repeat (first | (with_reducible first | exact HB.out | apply below_alloc | apply pw_below_drewN | apply below_drew1 | refine below_set ?_ GE1026.out) | exact HB.out)) hb); have n2_ := Aside0.mk (hbox); have n3_ := Aside0.mk ((by rw [hg]; exact (below_size (by repeat (first | (with_reducible first | exact HB.out | apply below_alloc | apply pw_below_drewN | apply below_drew1 | refine below_set ?_ GE1026.out) | exact HB.out))) : w.heap.size ≤ gb1030)); have n4_ := Aside0.mk ((by rw [hg]; exact (below_size (by repeat (first | (with_reducible first | exact HB.out | apply below_alloc | apply pw_below_drewN | apply below_drew1 | refine below_set ?_ GE1026.out) | exact HB.out))) : w.heap.size ≤ gb1030)); have n5_ := Aside0.mk ((by rw [hg]; exact Nat.ne_of_lt (blk_lt (g := gb1026) (o := .cells #[.slice A0_0 l0_0.length c0_0, .slice (some ad1029) l0_1.length c0_1, .int .i64 a0_2, .bool a0_3] 25 (0, 0)) (by (with_reducible repeat (first | refine blk_drewN ?_ _ | refine blk_drew ?_ | refine blk_alloc ?_ _)); exact BK1026.out)) : gb1026 ≠ gb1030)); have n6_ := Aside0.mk ((by rw [hg]; exact Nat.ne_of_gt (blk_lt (g := gb1026) (o := .cells #[.slice A0_0 l0_0.length c0_0, .slice (some ad1029) l0_1.length c0_1, .int .i64 a0_2, .bool a0_3] 25 (0, 0)) (by (with_reducible repeat (first | refine blk_drewN ?_ _ | refine blk_drew ?_ | refine blk_alloc ?_ _)); exact BK1026.out)) : gb1030 ≠ gb1026)); clear BK1026; clear HB; have BK1026 := n0_; have HB := n1_; have BK1030 := n2_; have GW1030 := n3_; have GE1030 := n4_; have NB1026_1030 := n5_; have NB1030_1026 := n6_; clear n0_ n1_ n2_ n3_ n4_ n5_ n6_; clear hb hbox hg; have hnb37 := NB1030_1026.out; have hnc37 := NB1026_1030.out; have hcz38_0 : w36.cell? ⟨gb1030, 0, none⟩ = some (.int .i64 0) := (blk_cell BK1030.out 0).trans rfl; have hcz38_1 : w36.cell? ⟨gb1030, 1, none⟩ = some (.slice none 0 0) := (blk_cell BK1030.out 1).trans rfl; have hfz38_0 := blk_frozen BK1030.out 0; have hfz38_1 := blk_frozen BK1030.out 1; have hcz39_0 : w36.cell? ⟨gb1026, 0, none⟩ = some (.slice A0_0 l0_0.length c0_0) := (blk_cell BK1026.out 0).trans rfl; have hcz39_1 : w36.cell? ⟨gb1026, 1, none⟩ = some (.slice (some ad1029) l0_1.length c0_1) := (blk_cell BK1026.out 1).trans rfl; have hcz39_2 : w36.cell? ⟨gb1026, 2, none⟩ = some (.int .i64 a0_2) := (blk_cell BK1026.out 2).trans rfl; have hcz39_3 : w36.cell? ⟨gb1026, 3, none⟩ = some (.bool a0_3) := (blk_cell BK1026.out 3).trans rfl; have hfz39_0 := blk_frozen BK1026.out 0; have hfz39_1 := blk_frozen BK1026.out 1; have hfz39_2 := blk_frozen BK1026.out 2; have hfz39_3 := blk_frozen BK1026.out 3) | ((with_reducible refine gate_callee (f := 53) rfl ?_); refine goesL_ (some 44) rfl rfl Try.func53 (by kernel_rfl) rfl #[.agg #[.slice A0_0 l0_0.length c0_0, .slice (some ad1029) l0_1.length c0_1, .int .i64 a0_2, .bool a0_3], .int .i64 ((rd_T79 l0_1 x37_3).f0)] rfl (by (try simp only [List.map_toArray, List.map_cons, List.map_nil]); first | done | rfl | (simp only [List.length_drop, List.length_take]; rfl)) ?_; (with_reducible refine (impl_Disk_has.calls _ _ l0_0 _ _ l0_1 a0_2 a0_3 ((rd_T79 l0_1 x37_3).f0) true _ ?side1 ?side2 ?side3 ?side4 A27.out).mono ?_); (case side1 => exact Kd.C_below HR0_0.out (by repeat (first | (with_reducible first | exact HB.out | apply below_alloc | apply pw_below_drewN | apply below_drew1 | refine below_set ?_ GE1026.out | refine below_set ?_ GE1030.out) | exact HB.out))); (case side2 => exact HC0_0.out); (case side3 => exact Kd.C_below HR0_1.out (by repeat (first | (with_reducible first | exact HB.out | apply below_alloc | apply pw_below_drewN | apply below_drew1 | refine below_set ?_ GE1026.out | refine below_set ?_ GE1030.out) | exact HB.out))); (case side4 => exact HC0_1.out); rintro e w40 ⟨rfl, hb⟩; refine ⟨_, rfl, ?_⟩; have n0_ := Aside0.mk (blk_below (g := gb1026) (o := .cells #[.slice A0_0 l0_0.length c0_0, .slice (some ad1029) l0_1.length c0_1, .int .i64 a0_2, .bool a0_3] 25 (0, 0)) (by (with_reducible repeat (first | refine blk_drewN ?_ _ | refine blk_drew ?_ | refine blk_alloc ?_ _)); refine blk_far ?_ NB1026_1030.out _; (with_reducible repeat (first | refine blk_drewN ?_ _ | refine blk_drew ?_ | refine blk_alloc ?_ _)); refine blk_far ?_ NB1026_1030.out _; (with_reducible repeat (first | refine blk_drewN ?_ _ | refine blk_drew ?_ | refine blk_alloc ?_ _)); exact BK1026.out) hb); have n1_ := Aside0.mk (blk_below (g := gb1030) (o := .cells #[.int .i64 ((rd_T79 l0_1 x37_3).f0), .slice A1029_1 ((rd_T79 l0_1 x37_3).f1).length c1029_1] 79 (0, 0)) (by (with_reducible repeat (first | refine blk_drewN ?_ _ | refine blk_drew ?_ | refine blk_alloc ?_ _)); refine blk_put (cs := #[.int .i64 ((rd_T79 l0_1 x37_3).f0), .slice none 0 0]) ?_ 1 _ rfl; (with_reducible repeat (first | refine blk_drewN ?_ _ | refine blk_drew ?_ | refine blk_alloc ?_ _)); refine blk_put (cs := #[.int .i64 0, .slice none 0 0]) ?_ 0 _ rfl; (with_reducible repeat (first | refine blk_drewN ?_ _ | refine blk_drew ?_ | refine blk_alloc ?_ _)); exact BK1030.out) hb); have n2_ := Aside0.mk (below_step (by repeat (first | (with_reducible first | exact HB.out | apply below_alloc | apply pw_below_drewN | apply below_drew1 | refine below_set ?_ GE1026.out | refine below_set ?_ GE1030.out) | exact HB.out)) hb); clear BK1026; clear BK1030; clear HB; have BK1026 := n0_; have BK1030 := n1_; have HB := n2_; clear n0_ n1_ n2_; (try clear hb); (try clear hb2); (try clear hk); (try clear hi); have hcz41_0 : w40.cell? ⟨gb1030, 0, none⟩ = some (.int .i64 ((rd_T79 l0_1 x37_3).f0)) := (blk_cell BK1030.out 0).trans rfl; have hcz41_1 : w40.cell? ⟨gb1030, 1, none⟩ = some (.slice A1029_1 ((rd_T79 l0_1 x37_3).f1).length c1029_1) := (blk_cell BK1030.out 1).trans rfl; have hfz41_0 := blk_frozen BK1030.out 0; have hfz41_1 := blk_frozen BK1030.out 1))
                            go_ret
                            exact ⟨by first | rfl | (simp [errW_none, errW_some] <;> rfl) | (simp [*, errW_none, errW_some] <;> rfl), by repeat (first | (with_reducible first | exact HB.out | apply below_alloc | apply pw_below_drewN | apply below_drew1 | refine below_set ?_ GE1026.out | refine below_set ?_ GE1030.out) | exact HB.out)⟩
                        · replace c28 := Bool.eq_false_iff.mpr c28
                          subst c28
                          have H1 : (some false) = some r := by rw [if_neg (show ¬ (false = true) by decide)] at H; exact H
                          clear H
                          have H := H1
                          clear H1
                          obtain rfl := Option.some.inj H
                          have p1029 : 0 ≤ (x37_3 : Int) := of_decide_eq_true (by first | (with_reducible assumption) | assumption)
                          have q1029 : x37_3 < (l0_1.length : Int) := of_decide_eq_true (by first | (with_reducible assumption) | assumption)
                          obtain ⟨ad1029, A1029_1, c1029_1, e1029, hx1029_0, hx1029_1, hl1029_1, hi1029_1⟩ := at_T79 HR0_1.out x37_3 p1029 q1029
                          cases e1029
                          replace hx1029_0 := (HB.out.cell (World.block_lt_of_cell? w _ hx1029_0)).trans hx1029_0
                          replace hx1029_1 := (HB.out.cell (World.block_lt_of_cell? w _ hx1029_1)).trans hx1029_1
                          have HR1029_1 := Aside0.mk hi1029_1
                          have HC1029_1 := Aside0.mk hl1029_1
                          clear hi1029_1 hl1029_1
                          replace p1029 := eq_true p1029
                          replace q1029 := eq_true q1029
                          go_wp2_with (first | ((with_reducible refine gate_dst (N := 4) rfl ?_); (try (refine gate_guard (by rfl) ?_; dsimp only)); refine box_event ?hg (N := 4) ?hd (cs := #[.int .i64 0, .slice none 0 0]) (t := 79) ?hr ?_; (case hd => rfl); (case hg => rfl); (case hr => first | (go_simp; done) | (go_simp; rfl)); intro gb1030 hg w42 hbox hb; have n0_ := Aside0.mk (blk_below (g := gb1026) (o := .cells #[.slice A0_0 l0_0.length c0_0, .slice (some ad1029) l0_1.length c0_1, .int .i64 a0_2, .bool a0_3] 25 (0, 0)) (by (with_reducible repeat (first | refine blk_drewN ?_ _ | refine blk_drew ?_ | refine blk_alloc ?_ _)); exact BK1026.out) hb); have n1_ := Aside0.mk (below_step (by repeat (first | (with_reducible first | exact HB.out | apply below_alloc | apply pw_below_drewN | apply below_drew1 | refine below_set ?_ GE1026.out) | exact HB.out)) hb); have n2_ := Aside0.mk (hbox); have n3_ := Aside0.mk ((by rw [hg]; exact (below_size (by repeat (first | (with_reducible first | exact HB.out | apply below_alloc | apply pw_below_drewN | apply below_drew1 | refine below_set ?_ GE1026.out) | exact HB.out))) : w.heap.size ≤ gb1030)); have n4_ := Aside0.mk ((by rw [hg]; exact (below_size (by repeat (first | (with_reducible first | exact HB.out | apply below_alloc | apply pw_below_drewN | apply below_drew1 | refine below_set ?_ GE1026.out) | exact HB.out))) : w.heap.size ≤ gb1030)); have n5_ := Aside0.mk ((by rw [hg]; exact Nat.ne_of_lt (blk_lt (g := gb1026) (o := .cells #[.slice A0_0 l0_0.length c0_0, .slice (some ad1029) l0_1.length c0_1, .int .i64 a0_2, .bool a0_3] 25 (0, 0)) (by (with_reducible repeat (first | refine blk_drewN ?_ _ | refine blk_drew ?_ | refine blk_alloc ?_ _)); exact BK1026.out)) : gb1026 ≠ gb1030)); have n6_ := Aside0.mk ((by rw [hg]; exact Nat.ne_of_gt (blk_lt (g := gb1026) (o := .cells #[.slice A0_0 l0_0.length c0_0, .slice (some ad1029) l0_1.length c0_1, .int .i64 a0_2, .bool a0_3] 25 (0, 0)) (by (with_reducible repeat (first | refine blk_drewN ?_ _ | refine blk_drew ?_ | refine blk_alloc ?_ _)); exact BK1026.out)) : gb1030 ≠ gb1026)); clear BK1026; clear HB; have BK1026 := n0_; have HB := n1_; have BK1030 := n2_; have GW1030 := n3_; have GE1030 := n4_; have NB1026_1030 := n5_; have NB1030_1026 := n6_; clear n0_ n1_ n2_ n3_ n4_ n5_ n6_; clear hb hbox hg; have hnb43 := NB1030_1026.out; have hnc43 := NB1026_1030.out; have hcz44_0 : w42.cell? ⟨gb1030, 0, none⟩ = some (.int .i64 0) := (blk_cell BK1030.out 0).trans rfl; have hcz44_1 : w42.cell? ⟨gb1030, 1, none⟩ = some (.slice none 0 0) := (blk_cell BK1030.out 1).trans rfl; have hfz44_0 := blk_frozen BK1030.out 0; have hfz44_1 := blk_frozen BK1030.out 1; have hcz45_0 : w42.cell? ⟨gb1026, 0, none⟩ = some (.slice A0_0 l0_0.length c0_0) := (blk_cell BK1026.out 0).trans rfl; have hcz45_1 : w42.cell? ⟨gb1026, 1, none⟩ = some (.slice (some ad1029) l0_1.length c0_1) := (blk_cell BK1026.out 1).trans rfl; have hcz45_2 : w42.cell? ⟨gb1026, 2, none⟩ = some (.int .i64 a0_2) := (blk_cell BK1026.out 2).trans rfl; have hcz45_3 : w42.cell? ⟨gb1026, 3, none⟩ = some (.bool a0_3) := (blk_cell BK1026.out 3).trans rfl; have hfz45_0 := blk_frozen BK1026.out 0; have hfz45_1 := blk_frozen BK1026.out 1; have hfz45_2 := blk_frozen BK1026.out 2; have hfz45_3 := blk_frozen BK1026.out 3) | ((with_reducible refine gate_callee (f := 53) rfl ?_); refine goesL_ (some 44) rfl rfl Try.func53 (by kernel_rfl) rfl #[.agg #[.slice A0_0 l0_0.length c0_0, .slice (some ad1029) l0_1.length c0_1, .int .i64 a0_2, .bool a0_3], .int .i64 ((rd_T79 l0_1 x37_3).f0)] rfl (by (try simp only [List.map_toArray, List.map_cons, List.map_nil]); first | done | rfl | (simp only [List.length_drop, List.length_take]; rfl)) ?_; (with_reducible refine (impl_Disk_has.calls _ _ l0_0 _ _ l0_1 a0_2 a0_3 ((rd_T79 l0_1 x37_3).f0) false _ ?side1 ?side2 ?side3 ?side4 A27.out).mono ?_); (case side1 => exact Kd.C_below HR0_0.out (by repeat (first | (with_reducible first | exact HB.out | apply below_alloc | apply pw_below_drewN | apply below_drew1 | refine below_set ?_ GE1026.out | refine below_set ?_ GE1030.out) | exact HB.out))); (case side2 => exact HC0_0.out); (case side3 => exact Kd.C_below HR0_1.out (by repeat (first | (with_reducible first | exact HB.out | apply below_alloc | apply pw_below_drewN | apply below_drew1 | refine below_set ?_ GE1026.out | refine below_set ?_ GE1030.out) | exact HB.out))); (case side4 => exact HC0_1.out); rintro e w46 ⟨rfl, hb⟩; refine ⟨_, rfl, ?_⟩; have n0_ := Aside0.mk (blk_below (g := gb1026) (o := .cells #[.slice A0_0 l0_0.length c0_0, .slice (some ad1029) l0_1.length c0_1, .int .i64 a0_2, .bool a0_3] 25 (0, 0)) (by (with_reducible repeat (first | refine blk_drewN ?_ _ | refine blk_drew ?_ | refine blk_alloc ?_ _)); refine blk_far ?_ NB1026_1030.out _; (with_reducible repeat (first | refine blk_drewN ?_ _ | refine blk_drew ?_ | refine blk_alloc ?_ _)); refine blk_far ?_ NB1026_1030.out _; (with_reducible repeat (first | refine blk_drewN ?_ _ | refine blk_drew ?_ | refine blk_alloc ?_ _)); exact BK1026.out) hb); have n1_ := Aside0.mk (blk_below (g := gb1030) (o := .cells #[.int .i64 ((rd_T79 l0_1 x37_3).f0), .slice A1029_1 ((rd_T79 l0_1 x37_3).f1).length c1029_1] 79 (0, 0)) (by (with_reducible repeat (first | refine blk_drewN ?_ _ | refine blk_drew ?_ | refine blk_alloc ?_ _)); refine blk_put (cs := #[.int .i64 ((rd_T79 l0_1 x37_3).f0), .slice none 0 0]) ?_ 1 _ rfl; (with_reducible repeat (first | refine blk_drewN ?_ _ | refine blk_drew ?_ | refine blk_alloc ?_ _)); refine blk_put (cs := #[.int .i64 0, .slice none 0 0]) ?_ 0 _ rfl; (with_reducible repeat (first | refine blk_drewN ?_ _ | refine blk_drew ?_ | refine blk_alloc ?_ _)); exact BK1030.out) hb); have n2_ := Aside0.mk (below_step (by repeat (first | (with_reducible first | exact HB.out | apply below_alloc | apply pw_below_drewN | apply below_drew1 | refine below_set ?_ GE1026.out | refine below_set ?_ GE1030.out) | exact HB.out)) hb); clear BK1026; clear BK1030; clear HB; have BK1026 := n0_; have BK1030 := n1_; have HB := n2_; clear n0_ n1_ n2_; (try clear hb); (try clear hb2); (try clear hk); (try clear hi)))
                          go_ret
                          exact ⟨by first | rfl | (simp [errW_none, errW_some] <;> rfl) | (simp [*, errW_none, errW_some] <;> rfl), by repeat (first | (with_reducible first | exact HB.out | apply below_alloc | apply pw_below_drewN | apply below_drew1 | refine below_set ?_ GE1026.out | refine below_set ?_ GE1030.out) | exact HB.out)⟩
                      · rw [if_neg c26] at H
                        exact absurd H (by simp)
                    · rw [if_neg c25] at H
                      exact absurd H (by simp)
                  · rw [if_neg c24] at H
                    have c24b0 : decide (x37_3 < (l0_1.length : Int)) = false := decide_eq_false c24
                    clear c24
                    obtain rfl := Option.some.inj H
                    go_wp2
                    go_ret
                    exact ⟨by first | rfl | (simp [errW_none, errW_some] <;> rfl) | (simp [*, errW_none, errW_some] <;> rfl), by repeat (first | (with_reducible first | exact HB.out | apply below_alloc | apply pw_below_drewN | apply below_drew1 | refine below_set ?_ GE1026.out) | exact HB.out)⟩

/-! ### L_ovr: a text by hand -/
def ovr (l : List Int) (s : Int) (d : List Int) : List Int := l.take (s * 64).toNat ++ (d ++ l.drop ((s * 64).toNat + d.length))
theorem ovr_len (l : List Int) (s : Int) (d : List Int) (h : (s * 64).toNat + d.length ≤ l.length) : (ovr l s d).length = l.length := by unfold ovr; simp; omega
theorem rdP_mem (l : List S79) (i : Nat) (h : i < l.length) : rd_T79 l (i : Int) ∈ l := by unfold rd_T79; rw [Int.toNat_natCast, List.getD_eq_getElem?_getD, List.getElem?_eq_getElem h]; exact List.getElem_mem _

/-! ### L_copy: a text by hand -/
-- import Derived.Laws.CopyOwn
theorem step_copy_at {P : Program} {ops : Array Oper} {o : Oper} {a : Act} {w : World} {K : Act → World → Prop} {Q : Exit → Act → World → Prop} {E : Prop} (hgd : o.guard = none) (d s : Operand) (dT sT : TypeId)
    (ho : o.op = .call { callee := .builtin .copy, args := #[d, s], argTypes := #[dT, sT] }) (elem : TypeId) (hu : P.underlying dT = some (.slice elem)) (hsz : (P.info? elem).map (·.size) = some 1)
    (g off dLen dCap : Nat) (ad : Addr) (sLen sCap : Nat) (hd : a.eval d = .slice (some ⟨g, off, none⟩) dLen dCap) (hs : a.eval s = .slice (some ad) sLen sCap)
    (cur : List Value) (t : TypeId) (hg : w.heap[g]? = some (.cells cur.toArray t (0, 0))) (cs : List Value) (hn : cs.length = Nat.min sLen dLen)
    (hsrc : ∀ j v, cs[j]? = some v → w.cell? (ad.add j) = some v) (hfit : off + cs.length ≤ cur.length) (h1 : ∀ v ∈ cs, v.oneCell' = true)
    (h : ∀ w', w' = w.setRow g (cur.take off ++ (cs ++ cur.drop (off + cs.length))).toArray → K (a.put o.dst (goInt cs.length)) w') :
    if Region.wanted o (yielded ops a.tmps) = true then Oper.wp P o a w K Q else E := by
  have hw : Region.wanted o (yielded ops a.tmps) = true := by simp [Region.wanted, hgd]
  rw [if_pos hw]
  have hrun := run_copy_row (P := P) w dT sT o.type elem g off dLen dCap ad sLen sCap cur.toArray t cs hu hsz hg hn hsrc (by simpa using hfit) h1
  unfold Oper.wp
  simp [execOp, ho, resolve, invoke, builtin, hd, hs, hrun, Result.andThen]
  exact h _ (by simp)
theorem ovr_cells (l : List Int) (s : Int) (d : List Int) (tail : List Value) (h : (s * 64).toNat + d.length ≤ l.length) :
    (l.map (Value.int .u8) ++ tail).take (s * 64).toNat ++ (d.map (Value.int .u8) ++ (l.map (Value.int .u8) ++ tail).drop ((s * 64).toNat + (d.map (Value.int .u8)).length)) = (ovr l s d).map (Value.int .u8) ++ tail := by
  unfold ovr
  rw [List.length_map, List.take_append_of_le_length (by simp; omega), List.drop_append_of_le_length (by simp; omega)]
  simp [List.map_take, List.map_drop]
theorem blk_new3 (w : World) (a b c : Obj) : (((w.alloc a).alloc b).alloc c).heap[w.heap.size + 1 + 1]? = some c := by
  have h := blk_new ((w.alloc a).alloc b) c
  rw [show ((w.alloc a).alloc b).heap.size = w.heap.size + 1 + 1 from by simp] at h
  exact h

/-! ### L_dRead: a text by hand -/
def rdAll (s : Int) (b : List Int) (l : List S79) : List Int := l.foldl (fun b p => if p.f0 = s then p.f1 else b) b
theorem rdAll_take (s : Int) (b : List Int) (l : List S79) (i : Nat) (h : i < l.length) : rdAll s b (l.take (i + 1)) = if (rd_T79 l (i : Int)).f0 = s then (rd_T79 l (i : Int)).f1 else rdAll s b (l.take i) := by
  unfold rdAll rd_T79
  rw [List.take_succ_eq_append_getElem h, List.foldl_append, Int.toNat_natCast, List.getD_eq_getElem?_getD, List.getElem?_eq_getElem h]
  rfl
def sec (l : List Int) (s : Int) : List Int := (l.take (wrap64 (wrap64 (s + 1) * 64)).toNat).drop (wrap64 (s * 64)).toNat
def dRd (l0 : List Int) (l1 : List S79) (s : Int) : List Int := rdAll s (sec l0 s) l1
theorem blk_new2 (w : World) (a b : Obj) : ((w.alloc a).alloc b).heap[w.heap.size + 1]? = some b := by
  have h := blk_new (w.alloc a) b
  rw [show (w.alloc a).heap.size = w.heap.size + 1 from by simp] at h
  exact h
theorem sec_len (l : List Int) (s : Int) (h0 : 0 ≤ s) (h1 : s * 64 + 64 ≤ l.length) (h2 : l.length ≤ 65599) : (sec l s).length = 64 := by
  unfold sec
  rw [show wrap64 (s * 64) = s * 64 by unfold wrap64; omega, show wrap64 (s + 1) = s + 1 by unfold wrap64; omega, show wrap64 ((s + 1) * 64) = (s + 1) * 64 by unfold wrap64; omega]
  simp
  omega
theorem rdAll_len (s : Int) (l : List S79) (h : ∀ x ∈ l, x.f1.length = 64) : ∀ b : List Int, b.length = 64 → (rdAll s b l).length = 64 := by
  induction l with
  | nil => intro b hb; exact hb
  | cons x xs ih =>
    intro b hb
    refine ih (fun y hy => h y (List.mem_cons_of_mem _ hy)) _ ?_
    show (if x.f0 = s then x.f1 else b).length = 64
    split
    · exact h x List.mem_cons_self
    · exact hb
theorem dRd_len (l0 : List Int) (l1 : List S79) (s : Int) (h0 : 0 ≤ s) (h1 : s * 64 + 64 ≤ l0.length) (h2 : l0.length ≤ 65599) (h : ∀ x ∈ l1, x.f1.length = 64) : (dRd l0 l1 s).length = 64 := rdAll_len s l1 h _ (sec_len l0 s h0 h1 h2)

/-! ### L_eqByteS: a text by hand -/
theorem eqByteS_loop (l : List Int) (hL : l.length ≤ 281474976710656) : ∀ (d i : Nat), i + d = l.length → Ev (fun k => laws_eqByteS.l0 k l l (i : Int)) true
  | 0, i, hd => Ev.step (fun k => by simp only [laws_eqByteS.l0]; rw [if_neg (by omega)]) (Ev.now _)
  | d + 1, i, hd => 
    Ev.step (fun k => by simp only [laws_eqByteS.l0]; rw [if_pos (by omega), if_pos (by omega), if_pos (by omega), if_true, show wrap64 ((i : Int) + 1) = ((i + 1 : Nat) : Int) by unfold wrap64; omega])
      (eqByteS_loop l hL d (i + 1) (by omega))
theorem eqByteS_ev (l : List Int) (hL : l.length ≤ 281474976710656) : Ev (fun k => laws_eqByteS.f k l l) true :=
  Ev.congr (fun k => by unfold laws_eqByteS.f; rw [if_pos rfl]; rfl) (eqByteS_loop l hL l.length 0 (by omega))

/-! ### L_toByteS: a text by hand -/
theorem toByteS_loop (l : List Int) (hL : l.length ≤ 281474976710656) : ∀ (d i : Nat) (x : List Int), i + d = l.length → x.length = l.length → (∀ j, j < i → x[j]? = l[j]?) →
    Ev (fun k => laws_toByteS.l0 k l x (i : Int)) l
  | 0, i, x, hd, hx, hj => by
    obtain rfl : x = l := List.ext_getElem? fun j => by
      by_cases h : j < i
      · exact hj j h
      · rw [List.getElem?_eq_none (by omega), List.getElem?_eq_none (by omega)]
    exact Ev.step (fun k => by simp only [laws_toByteS.l0]; rw [if_neg (by omega)]) (Ev.now _)
  | d + 1, i, x, hd, hx, hj => by
    refine Ev.step (fun k => by simp only [laws_toByteS.l0]; rw [if_pos (by omega), if_pos (by omega), if_pos (by omega), Int.toNat_natCast, show wrap64 ((i : Int) + 1) = ((i + 1 : Nat) : Int) by unfold wrap64; omega])
      (toByteS_loop l hL d (i + 1) (x.set i (rd l i)) (by omega) (by simpa using hx) fun j hlt => ?_)
    rcases Nat.lt_or_ge j i with h | h
    · rw [List.getElem?_set_ne (by omega)]; exact hj j h
    · obtain rfl : j = i := by omega
      rw [List.getElem?_set_self (by omega)]
      simp [rd, List.getD_eq_getElem?_getD, List.getElem?_eq_getElem (show j < l.length by omega)]
theorem toByteS_ev (l : List Int) (hL : l.length ≤ 281474976710656) : Ev (fun k => laws_toByteS.f k l) l := by
  refine Ev.congr (fun k => ?_) (toByteS_loop l hL l.length 0 (List.replicate l.length 0) (by omega) (by simp) (fun j h => by omega))
  unfold laws_toByteS.f
  rw [if_pos (by omega), Int.toNat_natCast, if_pos hL]
  rfl

/-! ### L_evDisk: a text by hand -/
def cvPend (l : List S127) : List S79 := l.map fun x => ⟨x.f0, x.f1⟩
def okPendS (l : List S79) : Prop := l.length ≤ 1048576 ∧ ∀ x ∈ l, x.f1.length ≤ 1048576
theorem szByteS_at (l : List Int) (a : Int) (h0 : 0 ≤ a) (h1 : a ≤ 1048576) (hL : l.length ≤ maxLen) : ∃ r, laws_szByteS.f l a = some r ∧ r ≤ a ∧ (0 ≤ r → l.length ≤ 1048576) := by
  unfold maxLen at hL
  have e : wrap64 (a - (l.length : Int)) = a - l.length := by unfold wrap64; omega
  unfold laws_szByteS.f
  rw [e]
  by_cases c : a - (l.length : Int) < 0
  · exact ⟨-1, by rw [if_pos c], by omega, by omega⟩
  · exact ⟨_, by rw [if_neg c], by omega, by omega⟩
theorem szPend_at (b : Int) (l : List Int) (a : Int) (h0 : 0 ≤ a) (h1 : a ≤ 1048576) (hL : l.length ≤ maxLen) : ∃ r, laws_szPend.f b l a = some r ∧ r ≤ a ∧ (0 ≤ r → l.length ≤ 1048576) := by
  obtain ⟨r, hr, h2, h3⟩ := szByteS_at l a h0 h1 hL
  unfold laws_szPend.f
  rw [hr]
  by_cases c : r < 0
  · exact ⟨-1, by simp [c], by omega, by omega⟩
  · exact ⟨r, by simp [c], h2, h3⟩
theorem szPendS_loop (l : List S127) (hL : l.length ≤ 1048576) (hF : ∀ x ∈ l, x.f1.length ≤ maxLen) : ∀ (d i : Nat) (a : Int), i + d = l.length → 0 ≤ a → a ≤ 1048576 → (∀ j, j < i → (l.getD j z127).f1.length ≤ 1048576) →
    ∃ r, Ev (fun k => laws_szPendS.l0 k l a (i : Int)) r ∧ r ≤ a ∧ (0 ≤ r → ∀ j, j < l.length → (l.getD j z127).f1.length ≤ 1048576)
  | 0, i, a, hd, h0, h1, hj => ⟨a, Ev.step (fun k => by simp only [laws_szPendS.l0]; rw [if_neg (by omega)]) (Ev.now _), by omega, fun _ j hlt => hj j (by omega)⟩
  | d + 1, i, a, hd, h0, h1, hj => by
    have hm : l.getD i z127 ∈ l := by
      rw [List.getD_eq_getElem?_getD, List.getElem?_eq_getElem (show i < l.length by omega)]
      exact List.getElem_mem _
    obtain ⟨r, hr, h2, h3⟩ := szPend_at (l.getD i z127).f0 (l.getD i z127).f1 a h0 h1 (hF _ hm)
    have hr' : laws_szPend.f (rd_T127 l (i : Int)).f0 (rd_T127 l (i : Int)).f1 a = some r := by unfold rd_T127; rw [Int.toNat_natCast]; exact hr
    by_cases c : r < 0
    · exact ⟨-1, Ev.step (fun k => by simp only [laws_szPendS.l0]; rw [if_pos (by omega), if_pos (by omega), hr']; simp only [Option.bind_some]; rw [if_pos c]) (Ev.now _), by omega, by omega⟩
    · obtain ⟨r2, he, h4, h5⟩ := szPendS_loop l hL hF d (i + 1) r (by omega) (by omega) (by omega) (fun j hlt => by
        rcases Nat.lt_or_ge j i with h | h
        · exact hj j h
        · obtain rfl : j = i := by omega
          exact h3 (by omega))
      exact ⟨r2, Ev.step (fun k => by simp only [laws_szPendS.l0]; rw [if_pos (by omega), if_pos (by omega), hr']; simp only [Option.bind_some]; rw [if_neg c, show wrap64 ((i : Int) + 1) = ((i + 1 : Nat) : Int) by unfold wrap64; omega]) he, by omega, h5⟩
theorem szPendS_ev (l : List S127) (a : Int) (h0 : 0 ≤ a) (h1 : a ≤ 1048576) (hL : l.length ≤ maxLen) (hF : ∀ x ∈ l, x.f1.length ≤ maxLen) :
    ∃ r, Ev (fun k => laws_szPendS.f k l a) r ∧ r ≤ a ∧ (0 ≤ r → l.length ≤ 1048576 ∧ ∀ x ∈ l, x.f1.length ≤ 1048576) := by
  unfold maxLen at hL
  have e : wrap64 (a - (l.length : Int)) = a - l.length := by unfold wrap64; omega
  by_cases c : a - (l.length : Int) < 0
  · exact ⟨-1, Ev.congr (fun k => by unfold laws_szPendS.f; rw [e, if_pos c]) (Ev.now _), by omega, by omega⟩
  · obtain ⟨r, he, h2, h3⟩ := szPendS_loop l (by omega) hF l.length 0 (a - l.length) (by omega) (by omega) (by omega) (fun j h => by omega)
    refine ⟨r, Ev.congr (fun k => by unfold laws_szPendS.f; rw [e, if_neg c]; rfl) he, by omega, fun h => ⟨by omega, fun x hx => ?_⟩⟩
    obtain ⟨j, hj, rfl⟩ := List.getElem_of_mem hx
    have := h3 h j hj
    rwa [List.getD_eq_getElem?_getD, List.getElem?_eq_getElem hj] at this
theorem szDisk_ev (l0 : List Int) (l1 : List S127) (a2 : Int) (a3 : Bool) (hL : l0.length ≤ maxLen) (hL1 : l1.length ≤ maxLen) (hF : ∀ x ∈ l1, x.f1.length ≤ maxLen) :
    ∃ r, Ev (fun k => laws_szDisk.f k l0 l1 a2 a3 1048576) r ∧ (0 ≤ r → l0.length ≤ 1048576 ∧ okPendS (cvPend l1)) := by
  obtain ⟨r, hr, h2, h3⟩ := szByteS_at l0 1048576 (by omega) (by omega) hL
  by_cases c : r < 0
  · exact ⟨-1, Ev.congr (fun k => by unfold laws_szDisk.f; rw [hr]; simp only [Option.bind_some]; rw [if_pos c]) (Ev.now _), by omega⟩
  · obtain ⟨q, hq, h4, h5⟩ := szPendS_ev l1 r (by omega) (by omega) hL1 hF
    by_cases c2 : q < 0
    · exact ⟨-1, Ev.congr (fun k => by unfold laws_szDisk.f; rw [hr]; simp only [Option.bind_some]; rw [if_neg c]) (Ev.bind hq (Ev.congr (fun k => by rw [if_pos c2]) (Ev.now _))), by omega⟩
    · refine ⟨q, Ev.congr (fun k => by unfold laws_szDisk.f; rw [hr]; simp only [Option.bind_some]; rw [if_neg c]) (Ev.bind hq (Ev.congr (fun k => by rw [if_neg c2]) (Ev.now _))), fun h => ⟨h3 (by omega), ?_⟩⟩
      obtain ⟨h6, h7⟩ := h5 (by omega)
      refine ⟨by simpa [cvPend] using h6, fun x hx => ?_⟩
      obtain ⟨y, hy, rfl⟩ := List.mem_map.1 hx
      exact h7 y hy
theorem toPendS_loop (l : List S127) (hL : okPendS (cvPend l)) : ∀ (d i : Nat) (x : List S79), i + d = l.length → x.length = l.length → (∀ j, j < i → x[j]? = (cvPend l)[j]?) →
    Ev (fun k => laws_toPendS.l0 k l x (i : Int)) (cvPend l)
  | 0, i, x, hd, hx, hj => by
    obtain rfl : x = cvPend l := List.ext_getElem? fun j => by
      by_cases h : j < i
      · exact hj j h
      · rw [List.getElem?_eq_none (by omega), List.getElem?_eq_none (by simp [cvPend]; omega)]
    exact Ev.step (fun k => by simp only [laws_toPendS.l0]; rw [if_neg (by omega)]) (Ev.now _)
  | d + 1, i, x, hd, hx, hj => by
    have hl : l.length ≤ 1048576 := by have := hL.1; simpa [cvPend] using this
    have hm : l.getD i z127 ∈ l := by
      rw [List.getD_eq_getElem?_getD, List.getElem?_eq_getElem (show i < l.length by omega)]
      exact List.getElem_mem _
    have he : Ev (fun k => laws_toPend.f k (rd_T127 l (i : Int)).f0 (rd_T127 l (i : Int)).f1) ((rd_T127 l (i : Int)).f0, (rd_T127 l (i : Int)).f1) := by
      have h2 : (l.getD i z127).f1.length ≤ 1048576 := hL.2 _ (List.mem_map.2 ⟨_, hm, rfl⟩)
      unfold laws_toPend.f rd_T127
      rw [Int.toNat_natCast]
      exact Ev.bind (toByteS_ev _ (by omega)) (Ev.now _)
    refine Ev.step (fun k => by simp only [laws_toPendS.l0]; rw [if_pos (by omega), if_pos (by omega)]) (Ev.bind he ?_)
    refine Ev.congr (fun k => by rw [if_pos (by omega), Int.toNat_natCast, show wrap64 ((i : Int) + 1) = ((i + 1 : Nat) : Int) by unfold wrap64; omega])
      (toPendS_loop l hL d (i + 1) (x.set i ⟨(rd_T127 l (i : Int)).f0, (rd_T127 l (i : Int)).f1⟩) (by omega) (by simpa using hx) fun j hlt => ?_)
    rcases Nat.lt_or_ge j i with h | h
    · rw [List.getElem?_set_ne (by omega)]; exact hj j h
    · obtain rfl : j = i := by omega
      rw [List.getElem?_set_self (by omega)]
      simp [rd_T127, cvPend, List.getD_eq_getElem?_getD, List.getElem?_eq_getElem (show j < l.length by omega)]
theorem toPendS_ev (l : List S127) (hL : okPendS (cvPend l)) : Ev (fun k => laws_toPendS.f k l) (cvPend l) := by
  have hl : l.length ≤ 1048576 := by have := hL.1; simpa [cvPend] using this
  refine Ev.congr (fun k => ?_) (toPendS_loop l hL l.length 0 (List.replicate l.length z79) (by omega) (by simp) (fun j h => by omega))
  unfold laws_toPendS.f
  rw [if_pos (by omega), Int.toNat_natCast, if_pos (by omega)]
  rfl
theorem toDisk_ev (l0 : List Int) (l1 : List S127) (a2 : Int) (a3 : Bool) (h0 : l0.length ≤ 1048576) (h1 : okPendS (cvPend l1)) : Ev (fun k => laws_toDisk.f k l0 l1 a2 a3) (l0, cvPend l1, a2, a3) :=
  Ev.bind (toByteS_ev l0 (by omega)) (Ev.bind (toPendS_ev l1 h1) (Ev.now _))
theorem eqPend_ev (a : Int) (l : List Int) (h : l.length ≤ 281474976710656) : Ev (fun k => laws_eqPend.f k a l a l) true :=
  Ev.congr (fun k => by unfold laws_eqPend.f; rw [if_pos rfl]) (Ev.bind (eqByteS_ev l h) (Ev.congr (fun k => by rw [if_pos rfl]) (Ev.now _)))
theorem eqPendS_loop (l : List S79) (hL : okPendS l) : ∀ (d i : Nat), i + d = l.length → Ev (fun k => laws_eqPendS.l0 k l l (i : Int)) true
  | 0, i, hd => Ev.step (fun k => by simp only [laws_eqPendS.l0]; rw [if_neg (by omega)]) (Ev.now _)
  | d + 1, i, hd => by
    have hl := hL.1
    have hm : rd_T79 l (i : Int) ∈ l := by
      unfold rd_T79
      rw [Int.toNat_natCast, List.getD_eq_getElem?_getD, List.getElem?_eq_getElem (show i < l.length by omega)]
      exact List.getElem_mem _
    exact Ev.step (fun k => by simp only [laws_eqPendS.l0]; rw [if_pos (by omega), if_pos (by omega), if_pos (by omega)])
      (Ev.bind (eqPend_ev _ _ (by have := hL.2 _ hm; omega)) (Ev.congr (fun k => by rw [if_pos rfl, show wrap64 ((i : Int) + 1) = ((i + 1 : Nat) : Int) by unfold wrap64; omega]) (eqPendS_loop l hL d (i + 1) (by omega))))
theorem eqPendS_ev (l : List S79) (hL : okPendS l) : Ev (fun k => laws_eqPendS.f k l l) true :=
  Ev.congr (fun k => by unfold laws_eqPendS.f; rw [if_pos rfl]; rfl) (eqPendS_loop l hL l.length 0 (by omega))
theorem eqDisk_ev (l0 : List Int) (l1 : List S79) (a2 : Int) (a3 : Bool) (h0 : l0.length ≤ 1048576) (h1 : okPendS l1) : Ev (fun k => laws_eqDisk.f k l0 l1 a2 a3 l0 l1 a2 a3) true := by
  unfold laws_eqDisk.f
  refine Ev.bind (eqByteS_ev l0 (by omega)) (Ev.congr (fun k => by rw [if_pos rfl]) (Ev.bind (eqPendS_ev l1 h1) (Ev.congr (fun k => by rw [if_pos rfl, if_pos rfl, bne_self_eq_false, if_neg (by decide)]) (Ev.now _))))

/-! ### L_validDisk: a text by hand -/
def pendOk (n : Nat) (p : S79) : Bool := decide (0 ≤ p.f0) && decide (p.f0 < (n / 64 : Nat)) && decide (p.f1.length = 64)
def vD (l0 : List Int) (l1 : List S79) (a2 : Int) : Bool :=
  decide (l0.length % 64 = 0) && decide (1024 ≤ l0.length) && decide (l0.length ≤ 65599) && decide (l1.length ≤ 2000) && decide (-1 ≤ a2) && decide (a2 ≤ 1000000) && l1.all (pendOk l0.length)
theorem drop_all {α : Type} (p : α → Bool) (l : List α) (i : Nat) (h : i < l.length) : (l.drop i).all p = (p l[i] && (l.drop (i + 1)).all p) := by
  rw [List.drop_eq_getElem_cons h, List.all_cons]
theorem sectors_at (l0 : List Int) (hL : l0.length ≤ 1048576) : wrap64 ((l0.length : Int) / 64) = ((l0.length / 64 : Nat) : Int) := by unfold wrap64; omega
theorem specValid_loop (l0 : List Int) (l1 : List S79) (a2 : Int) (a3 : Bool) (hL : l1.length ≤ 1048576) : ∀ (d i : Nat), i + d = l1.length →
    Ev (fun k => spec_ValidDisk.l0 k ((l0.length / 64 : Nat) : Int) (i : Int) l0 l1 a2 a3) ((l1.drop i).all (pendOk l0.length))
  | 0, i, hd => by
    rw [List.drop_of_length_le (by omega), List.all_nil]
    exact Ev.step (fun k => by simp only [spec_ValidDisk.l0]; rw [if_neg (by omega)]) (Ev.now _)
  | d + 1, i, hd => by
    have hi : i < l1.length := by omega
    have er : rd_T79 l1 (i : Int) = l1[i] := by unfold rd_T79; rw [Int.toNat_natCast, List.getD_eq_getElem?_getD, List.getElem?_eq_getElem hi]; rfl
    rw [drop_all _ _ _ hi]
    have ih := specValid_loop l0 l1 a2 a3 hL d (i + 1) (by omega)
    have ew : wrap64 ((i : Int) + 1) = ((i + 1 : Nat) : Int) := by unfold wrap64; omega
    by_cases c1 : l1[i].f0 < 0
    · rw [show pendOk l0.length l1[i] = false by unfold pendOk; simp <;> omega, Bool.false_and]
      exact Ev.step (fun k => by simp only [spec_ValidDisk.l0]; rw [if_pos (by omega), if_pos (by omega), er, if_pos c1]) (Ev.now _)
    by_cases c2 : l1[i].f0 ≥ ((l0.length / 64 : Nat) : Int)
    · rw [show pendOk l0.length l1[i] = false by unfold pendOk; simp <;> omega, Bool.false_and]
      exact Ev.step (fun k => by simp only [spec_ValidDisk.l0]; rw [if_pos (by omega), if_pos (by omega), er, if_neg c1, if_pos c2]) (Ev.now _)
    by_cases c3 : (l1[i].f1.length : Int) = 64
    · rw [show pendOk l0.length l1[i] = true by unfold pendOk; simp <;> omega, Bool.true_and]
      exact Ev.step (fun k => by simp only [spec_ValidDisk.l0]; rw [if_pos (by omega), if_pos (by omega), er, if_neg c1, if_neg c2, if_pos c3, ew]) ih
    · rw [show pendOk l0.length l1[i] = false by unfold pendOk; simp <;> omega, Bool.false_and]
      exact Ev.step (fun k => by simp only [spec_ValidDisk.l0]; rw [if_pos (by omega), if_pos (by omega), er, if_neg c1, if_neg c2, if_neg c3]) (Ev.now _)
theorem specValid_ev (l0 : List Int) (l1 : List S79) (a2 : Int) (a3 : Bool) (h0 : l0.length ≤ 1048576) (hL : l1.length ≤ 1048576) : Ev (fun k => spec_ValidDisk.f k l0 l1 a2 a3) (vD l0 l1 a2) := by
  have hl := specValid_loop l0 l1 a2 a3 hL l1.length 0 (by omega)
  rw [List.drop_zero] at hl
  have ht : Ev (fun k => spec_ValidDisk.j0 k ((l0.length / 64 : Nat) : Int) true l0 l1 a2 a3) false := Ev.step (fun k => by simp only [spec_ValidDisk.j0]; rw [if_true]) (Ev.now _)
  refine Ev.congr (fun k => by unfold spec_ValidDisk.f spec_l1Sectors.f; rw [sectors_at l0 h0, Option.bind_some]) ?_
  by_cases c1 : ((l0.length : Int) % 64) = 0
  · by_cases c2 : ((l0.length / 64 : Nat) : Int) < 16
    · rw [show vD l0 l1 a2 = false by unfold vD; simp <;> omega]
      exact Ev.congr (fun k => by rw [if_pos c1, if_pos c2]) ht
    by_cases c3 : ((l0.length / 64 : Nat) : Int) > 1024
    · rw [show vD l0 l1 a2 = false by unfold vD; simp <;> omega]
      exact Ev.congr (fun k => by rw [if_pos c1, if_neg c2, if_pos c3]) ht
    by_cases c4 : (l1.length : Int) > 2000
    · rw [show vD l0 l1 a2 = false by unfold vD; simp <;> omega]
      exact Ev.congr (fun k => by rw [if_pos c1, if_neg c2, if_neg c3, if_pos c4]) ht
    by_cases c5 : a2 < -1
    · rw [show vD l0 l1 a2 = false by unfold vD; simp <;> omega]
      exact Ev.congr (fun k => by rw [if_pos c1, if_neg c2, if_neg c3, if_neg c4, if_pos c5]) ht
    by_cases c6 : a2 > 1000000
    · rw [show vD l0 l1 a2 = false by unfold vD; simp <;> omega]
      exact Ev.congr (fun k => by rw [if_pos c1, if_neg c2, if_neg c3, if_neg c4, if_neg c5, decide_eq_true c6]) ht
    · rw [show vD l0 l1 a2 = l1.all (pendOk l0.length) by unfold vD; rw [decide_eq_true (by omega), decide_eq_true (by omega), decide_eq_true (by omega), decide_eq_true (by omega), decide_eq_true (by omega), decide_eq_true (by omega)]; simp]
      refine Ev.congr (fun k => by rw [if_pos c1, if_neg c2, if_neg c3, if_neg c4, if_neg c5, decide_eq_false c6]) ?_
      exact Ev.step (fun k => by simp only [spec_ValidDisk.j0]; rw [if_neg (by decide)]; rfl) hl
  · rw [show vD l0 l1 a2 = false by unfold vD; simp <;> omega]
    exact Ev.congr (fun k => by rw [if_neg c1]) ht
theorem implValid_loop (l0 : List Int) (l1 : List S79) (a2 : Int) (a3 : Bool) (h0 : l0.length ≤ 1048576) (hL : l1.length ≤ 1048576) : ∀ (d i : Nat), i + d = l1.length →
    Ev (fun k => impl_ValidDisk.l0 k l1 (l1.length : Int) (i : Int) l0 l1 a2 a3) ((l1.drop i).all (pendOk l0.length))
  | 0, i, hd => by
    rw [List.drop_of_length_le (by omega), List.all_nil]
    exact Ev.step (fun k => by simp only [impl_ValidDisk.l0]; rw [if_neg (by omega)]) (Ev.now _)
  | d + 1, i, hd => by
    have hi : i < l1.length := by omega
    have er : rd_T79 l1 (i : Int) = l1[i] := by unfold rd_T79; rw [Int.toNat_natCast, List.getD_eq_getElem?_getD, List.getElem?_eq_getElem hi]; rfl
    rw [drop_all _ _ _ hi]
    have ih := implValid_loop l0 l1 a2 a3 h0 hL d (i + 1) (by omega)
    have ew : wrap64 ((i : Int) + 1) = ((i + 1 : Nat) : Int) := by unfold wrap64; omega
    have hh : impl_Disk_has.f l0 l1 a2 a3 l1[i].f0 = some (decide (0 ≤ l1[i].f0) && decide (l1[i].f0 < ((l0.length / 64 : Nat) : Int))) := by
      unfold impl_Disk_has.f impl_Disk_sectors.f
      rw [sectors_at l0 h0]
      by_cases c : l1[i].f0 ≥ 0
      · rw [if_pos c, decide_eq_true (show 0 ≤ l1[i].f0 from c)]; simp
      · rw [if_neg c, decide_eq_false (show ¬ 0 ≤ l1[i].f0 from c)]; simp
    by_cases c1 : (decide (0 ≤ l1[i].f0) && decide (l1[i].f0 < ((l0.length / 64 : Nat) : Int))) = true
    · by_cases c3 : (l1[i].f1.length : Int) = 64
      · rw [show pendOk l0.length l1[i] = true by unfold pendOk; rw [c1, decide_eq_true (by omega)]; rfl, Bool.true_and]
        exact Ev.step (fun k => by simp only [impl_ValidDisk.l0]; rw [if_pos (by omega), if_pos (by omega), if_pos (by omega), er, hh, c1]; simp only [Option.bind_some, if_true]; rw [if_pos c3, ew]) ih
      · rw [show pendOk l0.length l1[i] = false by unfold pendOk; rw [decide_eq_false (show ¬ l1[i].f1.length = 64 by omega)]; simp, Bool.false_and]
        exact Ev.step (fun k => by simp only [impl_ValidDisk.l0]; rw [if_pos (by omega), if_pos (by omega), if_pos (by omega), er, hh, c1]; simp only [Option.bind_some, if_true]; rw [if_neg c3]) (Ev.now _)
    · have c1' := Bool.eq_false_iff.2 c1
      rw [show pendOk l0.length l1[i] = false by unfold pendOk; rw [c1']; rfl, Bool.false_and]
      exact Ev.step (fun k => by simp only [impl_ValidDisk.l0]; rw [if_pos (by omega), if_pos (by omega), if_pos (by omega), er, hh, c1']; simp) (Ev.now _)
theorem implValid_ev (l0 : List Int) (l1 : List S79) (a2 : Int) (a3 : Bool) (h0 : l0.length ≤ 1048576) (hL : l1.length ≤ 1048576) : Ev (fun k => impl_ValidDisk.f k l0 l1 a2 a3) (vD l0 l1 a2) := by
  have hl := implValid_loop l0 l1 a2 a3 h0 hL l1.length 0 (by omega)
  rw [List.drop_zero] at hl
  have ht0 : Ev (fun k => impl_ValidDisk.j0 k true l0 l1 a2 a3) false := Ev.step (fun k => by simp only [impl_ValidDisk.j0]; rw [if_true]) (Ev.now _)
  have ht1 : Ev (fun k => impl_ValidDisk.j1 k true l0 l1 a2 a3) false := Ev.step (fun k => by simp only [impl_ValidDisk.j1]; rw [if_true]) (Ev.now _)
  refine Ev.congr (fun k => by unfold impl_ValidDisk.f impl_Disk_sectors.f; rw [sectors_at l0 h0, Option.bind_some, Option.bind_some]) ?_
  by_cases c1 : ((l0.length : Int) % 64) = 0
  · by_cases c2 : ((l0.length / 64 : Nat) : Int) < 16
    · rw [show vD l0 l1 a2 = false by unfold vD; simp <;> omega]
      exact Ev.congr (fun k => by rw [if_pos c1, if_pos c2]) ht0
    by_cases c3 : ((l0.length / 64 : Nat) : Int) > 1024
    · rw [show vD l0 l1 a2 = false by unfold vD; simp <;> omega]
      exact Ev.congr (fun k => by rw [if_pos c1, if_neg c2, decide_eq_true c3]) ht0
    refine Ev.congr (fun k => by rw [if_pos c1, if_neg c2, decide_eq_false c3]) ?_
    by_cases c4 : (l1.length : Int) > 2000
    · rw [show vD l0 l1 a2 = false by unfold vD; simp <;> omega]
      exact Ev.step (fun k => by simp only [impl_ValidDisk.j0]; rw [if_neg (by decide), if_pos c4]) ht1
    by_cases c5 : a2 < -1
    · rw [show vD l0 l1 a2 = false by unfold vD; simp <;> omega]
      exact Ev.step (fun k => by simp only [impl_ValidDisk.j0]; rw [if_neg (by decide), if_neg c4, if_pos c5]) ht1
    by_cases c6 : a2 > 1000000
    · rw [show vD l0 l1 a2 = false by unfold vD; simp <;> omega]
      exact Ev.step (fun k => by simp only [impl_ValidDisk.j0]; rw [if_neg (by decide), if_neg c4, if_neg c5, decide_eq_true c6]) ht1
    · rw [show vD l0 l1 a2 = l1.all (pendOk l0.length) by unfold vD; rw [decide_eq_true (by omega), decide_eq_true (by omega), decide_eq_true (by omega), decide_eq_true (by omega), decide_eq_true (by omega), decide_eq_true (by omega)]; simp]
      refine Ev.step (fun k => by simp only [impl_ValidDisk.j0]; rw [if_neg (by decide), if_neg c4, if_neg c5, decide_eq_false c6]) ?_
      exact Ev.step (fun k => by simp only [impl_ValidDisk.j1]; rw [if_neg (by decide)]; rfl) hl
  · rw [show vD l0 l1 a2 = false by unfold vD; simp <;> omega]
    exact Ev.congr (fun k => by rw [if_neg c1]) ht0

/-! ### L_vD2: a text by hand -/
def inD (l0 : List Int) (s : Int) : Bool := decide (0 ≤ s) && decide (s < ((l0.length / 64 : Nat) : Int))
theorem has_eq (l0 : List Int) (l1 : List S79) (a2 : Int) (a3 : Bool) (s : Int) (h0 : l0.length ≤ 1048576) : impl_Disk_has.f l0 l1 a2 a3 s = some (inD l0 s) := by
  unfold impl_Disk_has.f impl_Disk_sectors.f inD
  rw [sectors_at l0 h0]
  by_cases c : s ≥ 0
  · rw [if_pos c, Option.bind_some, decide_eq_true (show 0 ≤ s from c), Bool.true_and]
  · rw [if_neg c, decide_eq_false (show ¬ 0 ≤ s from c), Bool.false_and]
theorem vD_facts {l0 : List Int} {l1 : List S79} {a2 : Int} (h : vD l0 l1 a2 = true) : l0.length % 64 = 0 ∧ 1024 ≤ l0.length ∧ l0.length ≤ 65599 ∧ l1.length ≤ 2000 ∧ -1 ≤ a2 ∧ a2 ≤ 1000000 ∧ ∀ x ∈ l1, 0 ≤ x.f0 ∧ x.f0 < ((l0.length / 64 : Nat) : Int) ∧ x.f1.length = 64 := by
  unfold vD at h
  simp only [Bool.and_eq_true, decide_eq_true_eq, List.all_eq_true] at h
  obtain ⟨⟨⟨⟨⟨⟨h1, h2⟩, h3⟩, h4⟩, h5⟩, h6⟩, h7⟩ := h
  refine ⟨h1, h2, h3, h4, h5, h6, fun x hx => ?_⟩
  have := h7 x hx
  unfold pendOk at this
  simp only [Bool.and_eq_true, decide_eq_true_eq] at this
  exact ⟨this.1.1, this.1.2, this.2⟩

/-! ### impl_Disk_clone: a text by hand -/
-- import Derived.Deep.RegionLaw
set_option maxHeartbeats 4000000 in
set_option maxRecDepth 100000 in
theorem impl_Disk_clone.calls (A0 : Option Addr) (c0 : Nat) (l0 : List Int) (A1 : Option Addr) (c1 : Nat) (l1 : List S79) (a2 : Int) (a3 : Bool) (w : World) (hr0 : Kd.C (Kd.int .u8) w A0 l0.length l0) (hc0 : l0.length ≤ c0) (hr1 : Kd.C k79 w A1 l1.length l1) (hc1 : l1.length ≤ c1) (h0 : l0.length ≤ 1048576) (hok : okPendS l1) :
    Calls Try.prog 56 #[.agg #[.slice A0 l0.length c0, .slice A1 l1.length c1, .int .i64 a2, .bool a3]] w fun e w' => ∃ v0_ v1_ : Value, e = .returned (.agg #[v0_, v1_, .int .i64 a2, .bool a3]) ∧ Kd.R (Kd.int .u8) 5 w' w.heap.size (fun _ => True) v0_ l0 ∧ Kd.S k79 79 w' w.heap.size (fun k_ => some k_ ≠ (v0_ : Value).ownBlock) v1_ l1 ∧ Below w.heap.size w w' := by
  have HR0 := Aside0.mk hr0
  have HC0 := Aside0.mk hc0
  have HR1 := Aside0.mk hr1
  have HC1 := Aside0.mk hc1
  have HL := Aside0.mk h0
  have HOK := Aside0.mk hok
  clear hr0 hc0 hr1 hc1 h0 hok
  have hu25 := Try.underlying25
  have hu79 := Try.underlying79
  have HB := Aside0.mk (Below.refl w.heap.size w)
  go_enter Try.func56, Try.ntmps56
  go_wp2_with (first | ((with_reducible refine gate_builtin (b := .append) (xs := #[.tmp 12, .tmp 14]) rfl ?_); at_builtin; refine Kd.R_append_rows (Kd.int .u8) (w0 := w) w.heap.size rfl (.tmp 12) (.tmp 14) 22 5 (.int .u8 0) 1 rfl Try.underlying22 info5 rfl (by decide) (by omega) (.slice none 0 0) [] l0 _ _ _ (fun _ => True) (fun _ => False) rfl rfl (Kd.R_nil _ _ _ _ _) (Kd.C_alloc (Kd.C_alloc (Kd.C_alloc HR0.out _) _) _) (fun _ _ h => h) (fun _ h => h.elim) (fun _ _ => trivial) (below_alloc (below_alloc (below_alloc HB.out _) _) _) (by simp; omega) (by have := HL.out; simp; omega) ?_; intro v w2 ho hb hg hat; rw [List.nil_append] at ho; have N_K1 := Aside0.mk (blk_grown (blk_alloc (blk_alloc (blk_new w _) _) _) hg (by simp [Value.ownBlock])); have N_K2 := Aside0.mk (blk_grown (blk_alloc (blk_new2 w _ _) _) hg (by simp [Value.ownBlock])); have N_K3 := Aside0.mk (blk_grown (blk_new3 w _ _ _) hg (by simp [Value.ownBlock])); obtain ⟨DA, dc, rfl⟩ := Kd.R_slice ho; have HO := Aside0.mk ho; have HB2 := Aside0.mk hb; clear ho hb hg hat; obtain ⟨z0, z1, z2, z3, y0, y1, y2, y3⟩ := blk_cells4 N_K1.out; obtain ⟨x0, x1, x2, x3, u0, u1, u2, u3⟩ := blk_cells4 N_K3.out; have yl := blk_lt N_K1.out; have ul := blk_lt N_K3.out))
  go_loopg [5, 20] l1.length (fun kq v5 v20 w' => ∃ (i : Nat) (v1 : Value), v20 = .int .i64 i ∧ Aside0 (i ≤ l1.length ∧ kq = l1.length - i) ∧ Aside0 (w'.heap[w.heap.size + 1]? = some (.cells #[.slice none 0 0, .slice none 0 0, .int .i64 0, .bool false] 25 (0, 0))) ∧ Aside0 (w'.heap[w.heap.size + 1 + 1]? = some (.cells #[.slice DA l0.length dc, v1, .int .i64 a2, .bool a3] 25 (0, 0))) ∧ Aside0 (Kd.R (Kd.int .u8) 5 w' w.heap.size (fun _ => True) (.slice DA l0.length dc) l0) ∧ Aside0 (Kd.S k79 79 w' w.heap.size (fun k_ => some k_ ≠ (.slice DA l0.length dc : Value).ownBlock) v1 (l1.take i)) ∧ Aside0 (Below w.heap.size w w'))
  case atStart =>
    refine ⟨0, .slice none 0 0, rfl, ⟨by omega, rfl⟩, ⟨blk_far N_K2.out (by simp) _⟩, ⟨blk_put N_K3.out 0 _ rfl⟩, ⟨?_⟩, ⟨Kd.S_nil _ _ _ _ _⟩, ⟨below_setB HB2.out (by omega) _ _⟩⟩
    exact Kd.R_mono (Kd.R_far (p := ⟨w.heap.size + 1 + 1, 0, none⟩) (Kd.R_types HO.out N_K3.out (by decide)) (fun _ hk => hk.2) _) (fun _ _ => trivial)
  case round =>
    clear z0 z1 z2 z3 y0 y1 y2 y3 yl x0 x1 x2 x3 u0 u1 u2 u3 ul N_K1 N_K2 N_K3 HO HB HB2
    obtain ⟨i, v1, rfl, HI, K2, K3, HRo, HSo, HB⟩ := hrel
    obtain ⟨B1, b1, ev1⟩ := Kd.S_slice HSo.out
    generalize hn1 : (l1.take i).length = n1 at ev1
    have HN1 := Aside0.mk hn1
    clear hn1
    subst ev1
    obtain ⟨x0, x1, x2, x3, u0, u1, u2, u3⟩ := blk_cells4 K3.out
    have ul := blk_lt K3.out
    have hil : l1.length ≤ 1048576 := HOK.out.1
    by_cases ci : (i : Int) < (l1.length : Int)
    · obtain ⟨ad, A1', c1', e_, hx0, hx1, hl, hC⟩ := at_T79 (Kd.C_below HR1.out HB.out) (i : Int) (by omega) (by omega)
      cases e_
      rw [Int.toNat_natCast] at hx0 hx1
      have hp : l1.take (i + 1) = l1.take i ++ [rd_T79 l1 (i : Int)] := by
        unfold rd_T79
        rw [List.take_succ_eq_append_getElem (by omega), Int.toNat_natCast, List.getD_eq_getElem?_getD, List.getElem?_eq_getElem (by omega)]
        rfl
      have hm : (rd_T79 l1 (i : Int)).f1.length ≤ 1048576 := HOK.out.2 _ (by unfold rd_T79; rw [Int.toNat_natCast, List.getD_eq_getElem?_getD, List.getElem?_eq_getElem (by omega)]; exact List.getElem_mem _)
      have HP := Aside0.mk hp
      have HM := Aside0.mk hm
      have HC := Aside0.mk hC
      have HLp := Aside0.mk hl
      clear hp hm hC hl
      generalize rd_T79 l1 (i : Int) = p at *
      go_wp2_with fail
      have N_K2 := Aside0.mk (blk_alloc K2.out (.cells #[.int .i64 p.f0, .slice A1' p.f1.length c1'] 79))
      have N_K3 := Aside0.mk (blk_alloc K3.out (.cells #[.int .i64 p.f0, .slice A1' p.f1.length c1'] 79))
      have N_HB := Aside0.mk (below_alloc HB.out (.cells #[.int .i64 p.f0, .slice A1' p.f1.length c1'] 79))
      have N_HC := Aside0.mk (Kd.C_alloc HC.out (.cells #[.int .i64 p.f0, .slice A1' p.f1.length c1'] 79))
      have N_HR := Aside0.mk (Kd.R_alloc HRo.out (.cells #[.int .i64 p.f0, .slice A1' p.f1.length c1'] 79))
      have N_HS := Aside0.mk (Kd.S_bound (Kd.S_alloc HSo.out (.cells #[.int .i64 p.f0, .slice A1' p.f1.length c1'] 79)))
      have KP := Aside0.mk (blk_new wr (.cells #[.int .i64 p.f0, .slice A1' p.f1.length c1'] 79))
      clear K2 K3 HB HC HRo HSo x0 x1 x2 x3 u0 u1 u2 u3 ul hx0 hx1
      generalize hww : wr.alloc (.cells #[.int .i64 p.f0, .slice A1' p.f1.length c1'] 79) = ww at *
      have HWW := Aside0.mk hww
      clear hww
      generalize wr.heap.size = bp at *
      obtain ⟨x0, x1, x2, x3, u0, u1, u2, u3⟩ := blk_cells4 N_K3.out
      have ul := blk_lt N_K3.out
      have pl := blk_lt KP.out
      have pz0 : ww.cell? ⟨bp, 0, none⟩ = some (.int .i64 p.f0) := (blk_cell KP.out 0).trans rfl
      have pz1 : ww.cell? ⟨bp, 1, none⟩ = some (.slice A1' p.f1.length c1') := (blk_cell KP.out 1).trans rfl
      go_region_law (first
        | (refine Kd.R_append_rows_step (Kd.int .u8) (w0 := ww.drew) (W := ww.drew) ww.drew.heap.size (by rfl) (.const (.slice none 0 0)) (.tmp 29) 22 5 (.int .u8 0) 1 rfl Try.underlying22 info5 rfl (by decide) (by omega) (.slice none 0 0) [] p.f1 _ _ _ (fun _ => True) (fun _ => False) rfl rfl (Kd.R_nil _ _ _ _ _) (Kd.C_drew N_HC.out) (fun _ _ h => h) (fun _ h => h.elim) (fun _ _ => trivial) (Below.refl _ _) (Nat.le_refl _) (by have := HM.out; simp; omega) ?_
           intro v30 w3 ho hb hg hat
           rw [List.nil_append] at ho
           obtain ⟨EA, ec, ev30⟩ := Kd.R_slice ho
           subst ev30
           have HE := Aside0.mk ho
           have HB3 := Aside0.mk hb
           clear ho hb hg hat
           have K3d := Aside0.mk (blk_below (blk_drew N_K3.out) HB3.out)
           have KPd := Aside0.mk (blk_below (blk_drew KP.out) HB3.out)
           clear x0 x1 x2 x3 u0 u1 u2 u3 ul pl pz0 pz1
           obtain ⟨x0, x1, x2, x3, u0, u1, u2, u3⟩ := blk_cells4 K3d.out
           have ul := blk_lt K3d.out
           have pl := blk_lt KPd.out
           have pz0 : w3.cell? ⟨bp, 0, none⟩ = some (.int .i64 p.f0) := (blk_cell KPd.out 0).trans rfl
           have pz1 : w3.cell? ⟨bp, 1, none⟩ = some (.slice A1' p.f1.length c1') := (blk_cell KPd.out 1).trans rfl)
        | (have hle : w.heap.size ≤ ww.drew.heap.size := N_HB.out.size
           have HR3 := Aside0.mk (Kd.R_below (Kd.R_drew N_HR.out) HB3.out)
           have HS3 := Aside0.mk (Kd.S_below (Kd.S_drew N_HS.out) HB3.out)
           have HBB := Aside0.mk (below_step (below_drew N_HB.out) HB3.out)
           have hE0 := Kd.R_base HE.out
           have hD0 := Kd.R_lt N_HR.out
           have hS0 := Kd.S_lt N_HS.out
           have dE := Aside0.mk hE0
           have dD := Aside0.mk hD0
           have dS := Aside0.mk hS0
           clear hE0 hD0 hS0
           refine Kd.S_append_step k79 (w0 := w) (W := w3) w.heap.size (by rfl) (.tmp 25) (.tmp 32) 23 79 (.agg #[(.int .i64 0), (.slice none 0 0)]) 32 rfl Try.underlying23 info79 rfl (by decide) (by omega) (.slice B1 n1 b1) (l1.take i) p [.int .i64 p.f0, .slice EA p.f1.length ec] (fun k_ => some k_ ≠ (.slice DA l0.length dc : Value).ownBlock) (fun k_ => some k_ = (.slice EA p.f1.length ec : Value).ownBlock) rfl rfl ?aP ?aK ?aF ?aO ?aB ?aS ?aL ?_
           case aP => exact k79_mkM _ _ _ p (Kd.R_tight rfl (Kd.R_lower HE.out hle))
           case aK => exact fun k hk => ⟨fun he => by have h1 := dE.out k hk.symm; have h2 := dD.out k he.symm; exact absurd h2 (Nat.not_lt.2 h1), fun he => by have h1 := dE.out k hk.symm; have h2 := dS.out k he.symm; exact absurd h2 (Nat.not_lt.2 h1)⟩
           case aF => exact fun k hk => Kd.fresh' (Kd.R_lt HR3.out) k hk
           case aO => exact Kd.S_mono HS3.out (fun k hk => ⟨hk.1, fun he => by have h1 := dE.out k he.symm; exact absurd hk.2.2.1 (Nat.not_lt.2 h1)⟩)
           case aB => exact HBB.out
           case aS => exact HBB.out.size
           case aL => (have := HN1.out; simp only [List.length_take]; omega)
           intro v33 w5 ho hb hg hat
           have HS5 := Aside0.mk ho
           have HB5 := Aside0.mk hb
           have HR5 := Aside0.mk (Kd.R_over' HR3.out (Kd.S_typed HS3.out) (by decide) hg)
           have K3e := Aside0.mk (blk_grown K3d.out hg (Kd.S_ne HS3.out K3d.out (by decide)))
           have K2d := blk_below (blk_drew N_K2.out) HB3.out
           have K2e := Aside0.mk (blk_grown K2d hg (Kd.S_ne HS3.out K2d (by decide)))
           clear ho hb hg hat K2d
           obtain ⟨GA, gc, ev33⟩ := Kd.S_slice HS5.out
           generalize hn5 : (l1.take i ++ [p]).length = n5 at ev33
           have HN5 := Aside0.mk hn5
           clear hn5
           subst ev33
           clear x0 x1 x2 x3 u0 u1 u2 u3 ul pl pz0 pz1
           obtain ⟨x0, x1, x2, x3, u0, u1, u2, u3⟩ := blk_cells4 K3e.out
           have ul := blk_lt K3e.out))
      all_goals
        go_wp2_with fail
        go_roundg (l1.length - (i + 1))
        case measure => have := HI.out; omega
        case rel =>
          refine ⟨i + 1, .slice GA n5 gc, by first | rfl | simp, ⟨by omega, rfl⟩, ⟨blk_far K2e.out (by simp) _⟩, ⟨blk_put K3e.out 1 _ rfl⟩, ⟨?_⟩, ⟨?_⟩, ⟨below_setB HB5.out (by omega) _ _⟩⟩
          · exact Kd.R_mono (Kd.R_far (p := ⟨w.heap.size + 1 + 1, 1, none⟩) (Kd.R_types HR5.out K3e.out (by decide)) (fun _ hk => hk.2) _) (fun _ _ => trivial)
          · rw [HP.out]
            exact Kd.S_mono (Kd.S_far (p := ⟨w.heap.size + 1 + 1, 1, none⟩) (Kd.S_types HS5.out K3e.out (by decide)) (fun _ hk => hk.2) _) (fun _ hk => hk.1)
    · have hi : i = l1.length := by have := HI.out; omega
      subst hi
      obtain ⟨z0, z1, z2, z3, y0, y1, y2, y3⟩ := blk_cells4 K2.out
      have yl := blk_lt K2.out
      go_wp2_with fail
      rw [List.take_length] at HSo
      refine bodyPost_ret (results_cell_row rfl _ _ (w.heap.size + 1) 25 #[.slice DA l0.length dc, .slice B1 n1 b1, .int .i64 a2, .bool a3] (0, 0) _ rfl (blk_set4 K2.out) Try.underlying25 rfl (by kernel_rfl)) rfl ⟨_, _, rfl, ?_, ?_, ?_⟩
      · exact Kd.R_mono (Kd.R_far (p := ⟨w.heap.size + 1, 3, none⟩) (Kd.R_far (p := ⟨w.heap.size + 1, 2, none⟩) (Kd.R_far (p := ⟨w.heap.size + 1, 1, none⟩) (Kd.R_far (p := ⟨w.heap.size + 1, 0, none⟩) (Kd.R_types HRo.out K2.out (by decide)) (fun _ hk => hk.2) _) (fun _ hk => hk.2) _) (fun _ hk => hk.2) _) (fun _ hk => hk.2) _) (fun _ _ => trivial)
      · exact Kd.S_mono (Kd.S_far (p := ⟨w.heap.size + 1, 3, none⟩) (Kd.S_far (p := ⟨w.heap.size + 1, 2, none⟩) (Kd.S_far (p := ⟨w.heap.size + 1, 1, none⟩) (Kd.S_far (p := ⟨w.heap.size + 1, 0, none⟩) (Kd.S_types HSo.out K2.out (by decide)) (fun _ hk => hk.2) _) (fun _ hk => hk.2) _) (fun _ hk => hk.2) _) (fun _ hk => hk.2) _) (fun _ hk => hk.1)
      · exact below_setB (below_setB (below_setB (below_setB HB.out (by omega) _ _) (by omega) _ _) (by omega) _ _) (by omega) _ _

/-! ### impl_Disk_powered: a text by hand -/
-- import Derived.Recover
-- import Derived.Defers
def lostP : PanicEntry := { v := .iface 125 (.agg #[]), recovered := false }
set_option maxRecDepth 100000 in
theorem ne_lost (W : World) : (binOp .neq 20 (.iface 125 (.agg #[])) (.iface 125 (.agg #[]))).run Try.prog W = .ok (.bool false) W := by
  rfl
set_option maxRecDepth 100000 in
theorem pow_catch (b : Nat) (v0 v1 : Value) (f : Int) (d : Bool) (w : World) (K : w.heap[b]? = some (.cells #[v0, v1, .int .i64 f, .bool d] 25 (0, 0))) :
    CallsD Try.prog 106 #[.pointer (some ⟨b, 0, none⟩)] (.panicking [{ v := .iface 125 (.agg #[]), recovered := false }]) w fun e u' w' =>
      e = .returned (.tuple #[]) ∧ u' = .panicking [{ v := .iface 125 (.agg #[]), recovered := true }] ∧ w' = w.setCell ⟨b, 3, none⟩ (.bool true) := by
  obtain ⟨z0, z1, z2, z3, y0, y1, y2, y3⟩ := blk_cells4 K
  have hu25 := Try.underlying25
  refine callsD_of_wpS Try.func106 rfl fun c₀ cs hu => ?_
  apply wpS_seq
  apply wpS_region
  simp [wpOpsS, go_sem, recoverD, hu, Try.ntmps106, Exit.thenS]
  refine wpS_of_wp ?_
  simp only [List.size_toArray, List.length_cons, List.length_nil, Array.replicate_succ, Array.replicate_zero, List.push_toArray, List.append_toArray, List.nil_append, List.cons_append, List.setIfInBounds_toArray, List.set_cons_zero, List.set_cons_succ]
  clear hu
  have hne := ne_lost
  have yl := blk_lt K
  clear K
  go_wp2_with fail
  simp [bodyPostS, results, Try.results106]
set_option maxRecDepth 100000 in
theorem pow_idle (b : Nat) (w : World) :
    CallsD Try.prog 106 #[.pointer (some ⟨b, 0, none⟩)] .returning w fun e u' w' =>
      e = .returned (.tuple #[]) ∧ u' = .returning ∧ w' = w := by
  refine callsD_of_wpS Try.func106 rfl fun c₀ cs hu => ?_
  apply wpS_seq
  apply wpS_region
  simp [wpOpsS, go_sem, recoverD, hu, Try.ntmps106, Exit.thenS]
  refine wpS_of_wp ?_
  simp only [List.size_toArray, List.length_cons, List.length_nil, Array.replicate_succ, Array.replicate_zero, List.push_toArray, List.append_toArray, List.nil_append, List.cons_append, List.setIfInBounds_toArray, List.set_cons_zero, List.set_cons_succ]
  go_wp2_with fail
  cases c₀
  simp_all [bodyPostS, results, Try.results106]

/-! ### impl_Disk_powered1: a text by hand -/
-- import Derived.Recover
-- import Derived.Defers
set_option maxRecDepth 100000 in
theorem pow1_dies (b bf g : Nat) (cap : Array Value) (w : World) (X : World → Prop) (hcf : ∀ (args : Array Value) (W : World), (callFunc g args).run Try.prog W = .ok (.enter g args) W) (hf : w.cell? ⟨bf, 0, none⟩ = some (.func (.func g) #[] cap))
    (HC : Calls Try.prog g (#[.pointer (some ⟨b, 0, none⟩)] ++ cap) w fun e w' => e = .panicked [{ v := .iface 125 (.agg #[]), recovered := false }] ∧ X w')
    (hX : ∀ w', X w' → ∃ v0 v1 f d, w'.heap[b]? = some (.cells #[v0, v1, .int .i64 f, .bool d] 25 (0, 0))) :
    Calls Try.prog 105 #[.pointer (some ⟨b, 0, none⟩), .pointer (some ⟨bf, 0, none⟩)] w fun e w' => e = .returned (.tuple #[]) ∧ ∃ w1, X w1 ∧ w' = w1.setCell ⟨b, 3, none⟩ (.bool true) := by
  have hmf : ∀ (fn : Fn) (first cap : Array Value) (w : World), (Instr.makeFunc fn first cap).run Try.prog w = .ok (.func fn first cap) w := fun _ _ _ _ => rfl
  go_enter_defers Try.func105, Try.ntmps105
  go_wp2_with fail
  refine HC.mono ?_
  rintro e w1 ⟨rfl, hx⟩
  obtain ⟨v0, v1, f, d, hb⟩ := hX w1 hx
  go_wp2_with fail
  refine leaves_cons (f := 106) (args := #[.pointer (some ⟨b, 0, none⟩)]) (by simp) (by simp [go_sem]) ?_
  refine (pow_catch b v0 v1 f d w1 hb).mono ?_
  rintro e u' w2 ⟨rfl, rfl, rfl⟩
  simp [Leaves, settle, results, Try.results105, go_sem]
  exact ⟨w1, hx, rfl⟩
set_option maxRecDepth 100000 in
theorem pow1_lives (b bf g : Nat) (cap : Array Value) (w : World) (X : World → Prop) (hcf : ∀ (args : Array Value) (W : World), (callFunc g args).run Try.prog W = .ok (.enter g args) W) (hf : w.cell? ⟨bf, 0, none⟩ = some (.func (.func g) #[] cap))
    (HC : Calls Try.prog g (#[.pointer (some ⟨b, 0, none⟩)] ++ cap) w fun e w' => e = .returned (.tuple #[]) ∧ X w') :
    Calls Try.prog 105 #[.pointer (some ⟨b, 0, none⟩), .pointer (some ⟨bf, 0, none⟩)] w fun e w' => e = .returned (.tuple #[]) ∧ X w' := by
  have hmf : ∀ (fn : Fn) (first cap : Array Value) (w : World), (Instr.makeFunc fn first cap).run Try.prog w = .ok (.func fn first cap) w := fun _ _ _ _ => rfl
  go_enter_defers Try.func105, Try.ntmps105
  go_wp2_with fail
  refine HC.mono ?_
  rintro e w1 ⟨rfl, hx⟩
  go_wp2_with fail
  refine leaves_cons (f := 106) (args := #[.pointer (some ⟨b, 0, none⟩)]) (by simp) (by simp [go_sem]) ?_
  refine (pow_idle b w1).mono ?_
  rintro e u' w2 ⟨rfl, rfl, rfl⟩
  simp [Leaves, settle, results, Try.results105, go_sem]
  exact hx
end Go.Proofs.Yteddpdonmhiplaa.PR
