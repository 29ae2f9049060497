-- Made by this session's programs out of the translation and of its own texts.
import Derived.Test.YtbimdcekcemcoaaMFnExactDiskSyncc
namespace Go.Proofs.Ytbimdcekcemcoaa.PD
open Go.RowKit Go.Proofs.YtbimdcekcemcoaaW.PrintWords Go.Proofs.YtbimdcekcemcoaaW.PrintLast Go.Proofs.YtbimdcekcemcoaaW.PrintMore
attribute [local go_sem] max2_int min2_int max_two min_two max_three min_three max_four min_four   -- for this text's walks alone
set_option linter.unusedVariables false
set_option linter.unusedSimpArgs false

/-! ### spec_DiskSync: function 27 -/
mutual
def spec_DiskSync.j0 : Nat → Bool → List Int → List (S60) → Int → Bool → Option (List Int × (List (S60)) × Int × Bool)
  | 0, _, _, _, _, _ => none
  | k + 1, x11, x478000, x478001, x478002, x478003 => if x11 = true then ((spec_l1Copy.f k x478000 x478001 x478002 x478003).bind fun bt480 => (some (bt480.1, bt480.2.1, bt480.2.2.1, bt480.2.2.2))) else ((spec_l1Step.f k x478000 x478001 x478002 x478003).bind fun bt488 => (if bt488.2.2.2 = true then (some (bt488.1, bt488.2.1, bt488.2.2.1, bt488.2.2.2)) else (spec_DiskSync.l0 k 0 x478000 x478001 x478002 x478003 bt488.1 bt488.2.1 bt488.2.2.1 bt488.2.2.2)))
def spec_DiskSync.l0 : Nat → Int → List Int → List (S60) → Int → Bool → List Int → List (S60) → Int → Bool → Option (List Int × (List (S60)) × Int × Bool)
  | 0, _, _, _, _, _, _, _, _, _ => none
  | k + 1, x4, x478000, x478001, x478002, x478003, x497000, x497001, x497002, x497003 => if x4 < (x478001.length : Int) then (if 0 ≤ x4 then ((spec_l1Over.f x497000 ((rd_T60 x478001 x4).f0) ((rd_T60 x478001 x4).f1)).bind fun t499 => (spec_DiskSync.l0 k (wrap64 (x4 + 1)) x478000 x478001 x478002 x478003 t499 x497001 x497002 x497003)) else (none)) else (some (x497000, (([] : List (S60))), x497002, x497003))
end
def spec_DiskSync.f (k : Nat) (l0_0 : List Int) (l0_1 : List (S60)) (a0_2 : Int) (a0_3 : Bool) : Option (List Int × (List (S60)) × Int × Bool) := (spec_ValidDisk.f k l0_0 l0_1 a0_2 a0_3).bind fun t479 => (if t479 = true then (spec_DiskSync.j0 k a0_3 l0_0 l0_1 a0_2 a0_3) else (spec_DiskSync.j0 k true l0_0 l0_1 a0_2 a0_3))
theorem spec_DiskSync.mono_l : ∀ k, (∀ y0 y1 y2 y3 y4, LeO (spec_DiskSync.j0 k y0 y1 y2 y3 y4) (spec_DiskSync.j0 (k + 1) y0 y1 y2 y3 y4)) ∧ (∀ y0 y1 y2 y3 y4 y5 y6 y7 y8, LeO (spec_DiskSync.l0 k y0 y1 y2 y3 y4 y5 y6 y7 y8) (spec_DiskSync.l0 (k + 1) y0 y1 y2 y3 y4 y5 y6 y7 y8))
  | 0 => ⟨fun _ _ _ _ _ r h => by simp [spec_DiskSync.j0] at h, fun _ _ _ _ _ _ _ _ _ r h => by simp [spec_DiskSync.l0] at h⟩
  | k + 1 => by
    obtain ⟨ih0, ih1⟩ := spec_DiskSync.mono_l k
    refine ⟨?_, ?_⟩
    · intro y0 y1 y2 y3 y4
      unfold spec_DiskSync.j0
      repeat' first
      | (with_reducible exact ih0 _ _ _ _ _)
      | (with_reducible exact ih1 _ _ _ _ _ _ _ _ _)
      | (with_reducible exact spec_ValidDisk.mono _ _ _ _ _)
      | (with_reducible exact spec_l1Copy.mono _ _ _ _ _)
      | (with_reducible exact spec_l1Step.mono _ _ _ _ _)
      | (with_reducible exact LeO.refl _)
      | (with_reducible exact LeO.none _)
      | (with_reducible refine LeO.ite ?_ ?_)
      | (with_reducible refine LeO.bind ?_ (fun _ => ?_))
      | exact ih0 _ _ _ _ _
      | exact ih1 _ _ _ _ _ _ _ _ _
      | exact spec_ValidDisk.mono _ _ _ _ _
      | exact spec_l1Copy.mono _ _ _ _ _
      | exact spec_l1Step.mono _ _ _ _ _
      | exact LeO.none _
      | refine LeO.ite ?_ ?_
      | refine LeO.bind ?_ (fun _ => ?_)
    · intro y0 y1 y2 y3 y4 y5 y6 y7 y8
      unfold spec_DiskSync.l0
      repeat' first
      | (with_reducible exact ih0 _ _ _ _ _)
      | (with_reducible exact ih1 _ _ _ _ _ _ _ _ _)
      | (with_reducible exact spec_ValidDisk.mono _ _ _ _ _)
      | (with_reducible exact spec_l1Copy.mono _ _ _ _ _)
      | (with_reducible exact spec_l1Step.mono _ _ _ _ _)
      | (with_reducible exact LeO.refl _)
      | (with_reducible exact LeO.none _)
      | (with_reducible refine LeO.ite ?_ ?_)
      | (with_reducible refine LeO.bind ?_ (fun _ => ?_))
      | exact ih0 _ _ _ _ _
      | exact ih1 _ _ _ _ _ _ _ _ _
      | exact spec_ValidDisk.mono _ _ _ _ _
      | exact spec_l1Copy.mono _ _ _ _ _
      | exact spec_l1Step.mono _ _ _ _ _
      | exact LeO.none _
      | refine LeO.ite ?_ ?_
      | refine LeO.bind ?_ (fun _ => ?_)
theorem spec_DiskSync.mono : ∀ a0 a1 a2 a3 k, LeO (spec_DiskSync.f k a0 a1 a2 a3) (spec_DiskSync.f (k + 1) a0 a1 a2 a3) := by
  intro a0 a1 a2 a3 k
  obtain ⟨ih0, ih1⟩ := spec_DiskSync.mono_l k
  unfold spec_DiskSync.f
  repeat' first
      | (with_reducible exact ih0 _ _ _ _ _)
      | (with_reducible exact ih1 _ _ _ _ _ _ _ _ _)
      | (with_reducible exact spec_ValidDisk.mono _ _ _ _ _)
      | (with_reducible exact spec_l1Copy.mono _ _ _ _ _)
      | (with_reducible exact spec_l1Step.mono _ _ _ _ _)
      | (with_reducible exact LeO.refl _)
      | (with_reducible exact LeO.none _)
      | (with_reducible refine LeO.ite ?_ ?_)
      | (with_reducible refine LeO.bind ?_ (fun _ => ?_))
      | exact ih0 _ _ _ _ _
      | exact ih1 _ _ _ _ _ _ _ _ _
      | exact spec_ValidDisk.mono _ _ _ _ _
      | exact spec_l1Copy.mono _ _ _ _ _
      | exact spec_l1Step.mono _ _ _ _ _
      | exact LeO.none _
      | refine LeO.ite ?_ ?_
      | refine LeO.bind ?_ (fun _ => ?_)
def spec_DiskSync.T8 : Bool × List (List Nat × List Nat) := (true, [([], []), ([0], [0]), ([], []), ([2], [2]), ([], []), ([3, 4], [3, 4]), ([5], [5]), ([6], [6]), ([], []), ([8], [8]), ([], []), ([9, 10], [9, 10]), ([11], [11]), ([12], [12]), ([1, 7, 13], [1, 7, 13]), ([0, 1, 2, 3, 4, 5, 6, 7, 8, 9, 10, 11, 12, 13, 14], []), ([15, 14, 14, 0, 1, 2, 3, 4, 5, 6, 7, 8, 9, 10, 11, 12, 13, 14], [14, 15])])
def spec_DiskSync.B8 : List Nat := [0, 1, 0, 4, 0, 28, 60, 124, 0, 256, 0, 1792, 3840, 7936, 16383, 32767, 65535]
theorem spec_DiskSync.tab8 : rtab .any (opsOf Try.f27 8) = spec_DiskSync.T8 := by kernel_rfl
theorem spec_DiskSync.bits8 : waitsOk spec_DiskSync.T8.2 spec_DiskSync.B8 = true := by kernel_rfl
set_option maxHeartbeats 8000000 in
set_option maxRecDepth 100000 in
theorem spec_DiskSync.calls (k : Nat) (A0_0 : Option Addr) (c0_0 : Nat) (l0_0 : List Int) (A0_1 : Option Addr) (c0_1 : Nat) (l0_1 : List (S60)) (a0_2 : Int) (a0_3 : Bool) (r1 : List Int) (r2 : List (S60)) (r3 : Int) (r4 : Bool) (w : World) (hr0_0 : Kd.C (Kd.int .u8) w A0_0 l0_0.length l0_0) (hc0_0 : l0_0.length ≤ c0_0) (hr0_1 : Kd.C k60 w A0_1 l0_1.length l0_1) (hc0_1 : l0_1.length ≤ c0_1) (h : spec_DiskSync.f k l0_0 l0_1 a0_2 a0_3 = some (r1, r2, r3, r4)) :
    Calls Try.prog 27 #[.agg #[.slice A0_0 l0_0.length c0_0, .slice A0_1 l0_1.length c0_1, .int .i64 a0_2, .bool a0_3]] w fun e w' => ∃ v0_ v1_ : Value, e = .returned (.agg #[v0_, v1_, .int .i64 r3, .bool r4]) ∧ Kd.R (Kd.int .u8) 5 w' w.heap.size (fun _ => True) v0_ r1 ∧ Kd.S k60 60 w' w.heap.size (fun k_ => some k_ ≠ (v0_ : Value).ownBlock) v1_ r2 ∧ Below w.heap.size w w' := by
  have hu25 := Try.underlying25
  have HR0_0 := Aside0.mk hr0_0
  have HC0_0 := Aside0.mk hc0_0
  clear hr0_0 hc0_0
  have HR0_1 := Aside0.mk hr0_1
  have HC0_1 := Aside0.mk hc0_1
  clear hr0_1 hc0_1
  have HB := Aside0.mk (Below.refl w.heap.size w)
  have H : ((spec_ValidDisk.f k l0_0 l0_1 a0_2 a0_3).bind fun t479 => (if t479 = true then (spec_DiskSync.j0 k a0_3 l0_0 l0_1 a0_2 a0_3) else (spec_DiskSync.j0 k true l0_0 l0_1 a0_2 a0_3))) = some (r1, r2, r3, r4) := h
  clear h
  have HC2 := Aside0.mk H
  clear H
  go_enter Try.func27, Try.ntmps27
  go_upto_region 1 with (first | ((with_reducible refine gate_dst (N := 1) rfl ?_); refine box_event ?hg (N := 1) ?hd (cs := #[.slice A0_0 l0_0.length c0_0, .slice A0_1 l0_1.length c0_1, .int .i64 a0_2, .bool a0_3]) (t := 25) ?hr ?_; (case hd => rfl); (case hg => rfl); (case hr => first | (go_simp; done) | (go_simp; rfl)); intro gb477 hg w3 hbox hb; have n0_ := Aside0.mk (below_step (by repeat (first | (with_reducible first | exact HB.out | apply below_alloc | apply pw_below_drewN | apply below_drew1) | exact HB.out)) hb); have n1_ := Aside0.mk (hbox); have n2_ := Aside0.mk ((by rw [hg]; exact (below_size (by repeat (first | (with_reducible first | exact HB.out | apply below_alloc | apply pw_below_drewN | apply below_drew1) | exact HB.out))) : w.heap.size ≤ gb477)); have n3_ := Aside0.mk ((by rw [hg]; exact (below_size (by repeat (first | (with_reducible first | exact HB.out | apply below_alloc | apply pw_below_drewN | apply below_drew1) | exact HB.out))) : w.heap.size ≤ gb477)); clear HB; have HB := n0_; have BK477 := n1_; have GW477 := n2_; have GE477 := n3_; clear n0_ n1_ n2_ n3_; clear hb hbox hg) | ((with_reducible refine gate_dst (N := 2) rfl ?_); refine box_event ?hg (N := 2) ?hd (cs := #[.slice none 0 0, .slice none 0 0, .int .i64 0, .bool false]) (t := 25) ?hr ?_; (case hd => rfl); (case hg => rfl); (case hr => first | (go_simp; done) | (go_simp; rfl)); intro gb478 hg w4 hbox hb; have n0_ := Aside0.mk (blk_below (g := gb477) (o := .cells #[.slice A0_0 l0_0.length c0_0, .slice A0_1 l0_1.length c0_1, .int .i64 a0_2, .bool a0_3] 25 (0, 0)) (by (with_reducible repeat (first | refine blk_drewN ?_ _ | refine blk_drew ?_ | refine blk_alloc ?_ _)); exact BK477.out) hb); have n1_ := Aside0.mk (below_step (by repeat (first | (with_reducible first | exact HB.out | apply below_alloc | apply pw_below_drewN | apply below_drew1 | refine below_set ?_ GE477.out) | exact HB.out)) hb); have n2_ := Aside0.mk (hbox); have n3_ := Aside0.mk ((by rw [hg]; exact (below_size (by repeat (first | (with_reducible first | exact HB.out | apply below_alloc | apply pw_below_drewN | apply below_drew1 | refine below_set ?_ GE477.out) | exact HB.out))) : w.heap.size ≤ gb478)); have n4_ := Aside0.mk ((by rw [hg]; exact (below_size (by repeat (first | (with_reducible first | exact HB.out | apply below_alloc | apply pw_below_drewN | apply below_drew1 | refine below_set ?_ GE477.out) | exact HB.out))) : w.heap.size ≤ gb478)); have n5_ := Aside0.mk ((by rw [hg]; exact Nat.ne_of_lt (blk_lt (g := gb477) (o := .cells #[.slice A0_0 l0_0.length c0_0, .slice A0_1 l0_1.length c0_1, .int .i64 a0_2, .bool a0_3] 25 (0, 0)) (by (with_reducible repeat (first | refine blk_drewN ?_ _ | refine blk_drew ?_ | refine blk_alloc ?_ _)); exact BK477.out)) : gb477 ≠ gb478)); have n6_ := Aside0.mk ((by rw [hg]; exact Nat.ne_of_gt (blk_lt (g := gb477) (o := .cells #[.slice A0_0 l0_0.length c0_0, .slice A0_1 l0_1.length c0_1, .int .i64 a0_2, .bool a0_3] 25 (0, 0)) (by (with_reducible repeat (first | refine blk_drewN ?_ _ | refine blk_drew ?_ | refine blk_alloc ?_ _)); exact BK477.out)) : gb478 ≠ gb477)); clear BK477; clear HB; have BK477 := n0_; have HB := n1_; have BK478 := n2_; have GW478 := n3_; have GE478 := n4_; have NB477_478 := n5_; have NB478_477 := n6_; clear n0_ n1_ n2_ n3_ n4_ n5_ n6_; clear hb hbox hg))
  (try simp only [Act.put, List.setIfInBounds_toArray, List.set_cons_zero, List.set_cons_succ])
  go_cut [11] (fun v11 wc => ∃ (kq : Nat) (x11_1 : Bool), v11 = .bool x11_1 ∧ Aside0 (spec_DiskSync.j0 kq x11_1 l0_0 l0_1 a0_2 a0_3 = some (r1, r2, r3, r4)) ∧ Aside0 (kq ≤ k) ∧ Aside0 (wc.heap[gb477]? = some (.cells #[(.slice A0_0 l0_0.length c0_0), (.slice A0_1 l0_1.length c0_1), .int .i64 a0_2, .bool a0_3] 25 (0, 0))) ∧ Aside0 (wc.heap[gb478]? = some (.cells #[(.slice none 0 0), (.slice none 0 0), .int .i64 0, .bool false] 25 (0, 0))) ∧ Aside0 (Below w.heap.size w wc))
  case first =>
    have H := HC2.out
    clear HC2
    replace H := Option.bind_eq_some_iff.mp H
    obtain ⟨t479, A50, H⟩ := H
    replace H : (if t479 = true then (spec_DiskSync.j0 k a0_3 l0_0 l0_1 a0_2 a0_3) else (spec_DiskSync.j0 k true l0_0 l0_1 a0_2 a0_3)) = some (r1, r2, r3, r4) := H
    have A5 := Aside0.mk A50
    clear A50
    by_cases c6 : t479 = true
    · subst c6
      have H1 : (spec_DiskSync.j0 k a0_3 l0_0 l0_1 a0_2 a0_3) = some (r1, r2, r3, r4) := by rw [if_pos rfl] at H; exact H
      clear H
      have H := H1
      clear H1
      have H' := Aside0.mk H
      clear H
      have hnb7 := NB477_478.out
      have hnc7 := NB478_477.out
      have hcz8_0 : w4.cell? ⟨gb477, 0, none⟩ = some (.slice A0_0 l0_0.length c0_0) := (blk_cell BK477.out 0).trans rfl
      have hcz8_1 : w4.cell? ⟨gb477, 1, none⟩ = some (.slice A0_1 l0_1.length c0_1) := (blk_cell BK477.out 1).trans rfl
      have hcz8_2 : w4.cell? ⟨gb477, 2, none⟩ = some (.int .i64 a0_2) := (blk_cell BK477.out 2).trans rfl
      have hcz8_3 : w4.cell? ⟨gb477, 3, none⟩ = some (.bool a0_3) := (blk_cell BK477.out 3).trans rfl
      have hfz8_0 := blk_frozen BK477.out 0
      have hfz8_1 := blk_frozen BK477.out 1
      have hfz8_2 := blk_frozen BK477.out 2
      have hfz8_3 := blk_frozen BK477.out 3
      go_wp2_with (first | ((with_reducible refine gate_callee (f := 16) rfl ?_); refine goesL_ (some 6) rfl rfl Try.func16 (by kernel_rfl) rfl #[.agg #[.slice A0_0 l0_0.length c0_0, .slice A0_1 l0_1.length c0_1, .int .i64 a0_2, .bool a0_3]] rfl (by (try simp only [List.map_toArray, List.map_cons, List.map_nil]); first | done | rfl | (simp only [List.length_drop, List.length_take]; rfl)) ?_; (with_reducible refine (spec_ValidDisk.calls k _ _ l0_0 _ _ l0_1 a0_2 a0_3 true _ ?side1 ?side2 ?side3 ?side4 A5.out).mono ?_); (case side1 => repeat (first | exact (Kd.C_below HR0_0.out HB.out) | (with_reducible refine Kd.C_alloc ?_ _) | (with_reducible refine Kd.C_drewN ?_ _) | (with_reducible refine Kd.C_drew ?_))); (case side2 => exact HC0_0.out); (case side3 => repeat (first | exact (Kd.C_below HR0_1.out HB.out) | (with_reducible refine Kd.C_alloc ?_ _) | (with_reducible refine Kd.C_drewN ?_ _) | (with_reducible refine Kd.C_drew ?_))); (case side4 => exact HC0_1.out); rintro e w9 ⟨rfl, hb⟩; refine ⟨_, rfl, ?_⟩; have n0_ := Aside0.mk (blk_below (g := gb477) (o := .cells #[.slice A0_0 l0_0.length c0_0, .slice A0_1 l0_1.length c0_1, .int .i64 a0_2, .bool a0_3] 25 (0, 0)) (by (with_reducible repeat (first | refine blk_drewN ?_ _ | refine blk_drew ?_ | refine blk_alloc ?_ _)); exact BK477.out) hb); have n1_ := Aside0.mk (blk_below (g := gb478) (o := .cells #[.slice none 0 0, .slice none 0 0, .int .i64 0, .bool false] 25 (0, 0)) (by (with_reducible repeat (first | refine blk_drewN ?_ _ | refine blk_drew ?_ | refine blk_alloc ?_ _)); exact BK478.out) hb); have n2_ := Aside0.mk (below_step (by repeat (first | (with_reducible first | exact HB.out | apply below_alloc | apply pw_below_drewN | apply below_drew1 | refine below_set ?_ GE477.out | refine below_set ?_ GE478.out) | exact HB.out)) hb); clear BK477; clear BK478; clear HB; have BK477 := n0_; have BK478 := n1_; have HB := n2_; clear n0_ n1_ n2_; (try clear hb); (try clear hb2); (try clear hk); (try clear hi); have hcz10_0 : w9.cell? ⟨gb477, 0, none⟩ = some (.slice A0_0 l0_0.length c0_0) := (blk_cell BK477.out 0).trans rfl; have hcz10_1 : w9.cell? ⟨gb477, 1, none⟩ = some (.slice A0_1 l0_1.length c0_1) := (blk_cell BK477.out 1).trans rfl; have hcz10_2 : w9.cell? ⟨gb477, 2, none⟩ = some (.int .i64 a0_2) := (blk_cell BK477.out 2).trans rfl; have hcz10_3 : w9.cell? ⟨gb477, 3, none⟩ = some (.bool a0_3) := (blk_cell BK477.out 3).trans rfl; have hfz10_0 := blk_frozen BK477.out 0; have hfz10_1 := blk_frozen BK477.out 1; have hfz10_2 := blk_frozen BK477.out 2; have hfz10_3 := blk_frozen BK477.out 3))
      go_meet
      case rel => exact ⟨_, (a0_3), (by first | rfl | (simp; done) | (simp [*]; done)), H', ⟨by first | omega | exact Nat.le_refl _⟩, ⟨by (with_reducible repeat (first | refine blk_drewN ?_ _ | refine blk_drew ?_ | refine blk_alloc ?_ _)); exact BK477.out⟩, ⟨by (with_reducible repeat (first | refine blk_drewN ?_ _ | refine blk_drew ?_ | refine blk_alloc ?_ _)); exact BK478.out⟩, ⟨by repeat (first | (with_reducible first | exact HB.out | apply below_alloc | apply pw_below_drewN | apply below_drew1 | refine below_set ?_ GE477.out | refine below_set ?_ GE478.out) | exact HB.out)⟩⟩
    · replace c6 := Bool.eq_false_iff.mpr c6
      subst c6
      have H1 : (spec_DiskSync.j0 k true l0_0 l0_1 a0_2 a0_3) = some (r1, r2, r3, r4) := by rw [if_neg (show ¬ (false = true) by decide)] at H; exact H
      clear H
      have H := H1
      clear H1
      have H' := Aside0.mk H
      clear H
      have hnb11 := NB477_478.out
      have hnc11 := NB478_477.out
      have hcz12_0 : w4.cell? ⟨gb477, 0, none⟩ = some (.slice A0_0 l0_0.length c0_0) := (blk_cell BK477.out 0).trans rfl
      have hcz12_1 : w4.cell? ⟨gb477, 1, none⟩ = some (.slice A0_1 l0_1.length c0_1) := (blk_cell BK477.out 1).trans rfl
      have hcz12_2 : w4.cell? ⟨gb477, 2, none⟩ = some (.int .i64 a0_2) := (blk_cell BK477.out 2).trans rfl
      have hcz12_3 : w4.cell? ⟨gb477, 3, none⟩ = some (.bool a0_3) := (blk_cell BK477.out 3).trans rfl
      have hfz12_0 := blk_frozen BK477.out 0
      have hfz12_1 := blk_frozen BK477.out 1
      have hfz12_2 := blk_frozen BK477.out 2
      have hfz12_3 := blk_frozen BK477.out 3
      go_wp2_with (first | ((with_reducible refine gate_callee (f := 16) rfl ?_); refine goesL_ (some 6) rfl rfl Try.func16 (by kernel_rfl) rfl #[.agg #[.slice A0_0 l0_0.length c0_0, .slice A0_1 l0_1.length c0_1, .int .i64 a0_2, .bool a0_3]] rfl (by (try simp only [List.map_toArray, List.map_cons, List.map_nil]); first | done | rfl | (simp only [List.length_drop, List.length_take]; rfl)) ?_; (with_reducible refine (spec_ValidDisk.calls k _ _ l0_0 _ _ l0_1 a0_2 a0_3 false _ ?side1 ?side2 ?side3 ?side4 A5.out).mono ?_); (case side1 => repeat (first | exact (Kd.C_below HR0_0.out HB.out) | (with_reducible refine Kd.C_alloc ?_ _) | (with_reducible refine Kd.C_drewN ?_ _) | (with_reducible refine Kd.C_drew ?_))); (case side2 => exact HC0_0.out); (case side3 => repeat (first | exact (Kd.C_below HR0_1.out HB.out) | (with_reducible refine Kd.C_alloc ?_ _) | (with_reducible refine Kd.C_drewN ?_ _) | (with_reducible refine Kd.C_drew ?_))); (case side4 => exact HC0_1.out); rintro e w13 ⟨rfl, hb⟩; refine ⟨_, rfl, ?_⟩; have n0_ := Aside0.mk (blk_below (g := gb477) (o := .cells #[.slice A0_0 l0_0.length c0_0, .slice A0_1 l0_1.length c0_1, .int .i64 a0_2, .bool a0_3] 25 (0, 0)) (by (with_reducible repeat (first | refine blk_drewN ?_ _ | refine blk_drew ?_ | refine blk_alloc ?_ _)); exact BK477.out) hb); have n1_ := Aside0.mk (blk_below (g := gb478) (o := .cells #[.slice none 0 0, .slice none 0 0, .int .i64 0, .bool false] 25 (0, 0)) (by (with_reducible repeat (first | refine blk_drewN ?_ _ | refine blk_drew ?_ | refine blk_alloc ?_ _)); exact BK478.out) hb); have n2_ := Aside0.mk (below_step (by repeat (first | (with_reducible first | exact HB.out | apply below_alloc | apply pw_below_drewN | apply below_drew1 | refine below_set ?_ GE477.out | refine below_set ?_ GE478.out) | exact HB.out)) hb); clear BK477; clear BK478; clear HB; have BK477 := n0_; have BK478 := n1_; have HB := n2_; clear n0_ n1_ n2_; (try clear hb); (try clear hb2); (try clear hk); (try clear hi)))
      go_meet
      case rel => exact ⟨_, (true), (by first | rfl | (simp; done) | (simp [*]; done)), H', ⟨by first | omega | exact Nat.le_refl _⟩, ⟨by (with_reducible repeat (first | refine blk_drewN ?_ _ | refine blk_drew ?_ | refine blk_alloc ?_ _)); exact BK477.out⟩, ⟨by (with_reducible repeat (first | refine blk_drewN ?_ _ | refine blk_drew ?_ | refine blk_alloc ?_ _)); exact BK478.out⟩, ⟨by repeat (first | (with_reducible first | exact HB.out | apply below_alloc | apply pw_below_drewN | apply below_drew1 | refine below_set ?_ GE477.out | refine below_set ?_ GE478.out) | exact HB.out)⟩⟩
  case rest =>
    clear HC2
    try clear c1
    try clear c2
    try clear p2
    try clear c6
    try clear c7
    try clear c11
    try clear hcz10_0
    try clear hcz10_1
    try clear hcz10_2
    try clear hcz10_3
    try clear hcz12_0
    try clear hcz12_1
    try clear hcz12_2
    try clear hcz12_3
    try clear hcz8_0
    try clear hcz8_1
    try clear hcz8_2
    try clear hcz8_3
    try clear hfz10_0
    try clear hfz10_1
    try clear hfz10_2
    try clear hfz10_3
    try clear hfz12_0
    try clear hfz12_1
    try clear hfz12_2
    try clear hfz12_3
    try clear hfz8_0
    try clear hfz8_1
    try clear hfz8_2
    try clear hfz8_3
    obtain ⟨kq, x11_1, rfl, HA, HJ1, BK477, BK478, HB⟩ := hcut
    cases kq with
    | zero => exact absurd HA.out (by simp [spec_DiskSync.j0])
    | succ kj1 =>
      have H := HA.out
      clear HA
      simp only [spec_DiskSync.j0] at H
      by_cases c14 : x11_1 = true
      · subst c14
        have H1 : ((spec_l1Copy.f kj1 l0_0 l0_1 a0_2 a0_3).bind fun bt480 => (some (bt480.1, bt480.2.1, bt480.2.2.1, bt480.2.2.2))) = some (r1, r2, r3, r4) := by rw [if_pos rfl] at H; exact H
        clear H
        have H := H1
        clear H1
        replace H := Option.bind_eq_some_iff.mp H
        obtain ⟨⟨t480, t483, t486, t487⟩, A150, H⟩ := H
        replace H : (some (t480, t483, t486, t487)) = some (r1, r2, r3, r4) := H
        have A15 := Aside0.mk A150
        clear A150
        simp only [Option.some.injEq, Prod.mk.injEq] at H
        obtain ⟨rfl, rfl, rfl, rfl⟩ := H
        have hnb16 := NB477_478.out
        have hnc16 := NB478_477.out
        have hcz17_0 : wc.cell? ⟨gb477, 0, none⟩ = some (.slice A0_0 l0_0.length c0_0) := (blk_cell BK477.out 0).trans rfl
        have hcz17_1 : wc.cell? ⟨gb477, 1, none⟩ = some (.slice A0_1 l0_1.length c0_1) := (blk_cell BK477.out 1).trans rfl
        have hcz17_2 : wc.cell? ⟨gb477, 2, none⟩ = some (.int .i64 a0_2) := (blk_cell BK477.out 2).trans rfl
        have hcz17_3 : wc.cell? ⟨gb477, 3, none⟩ = some (.bool a0_3) := (blk_cell BK477.out 3).trans rfl
        have hfz17_0 := blk_frozen BK477.out 0
        have hfz17_1 := blk_frozen BK477.out 1
        have hfz17_2 := blk_frozen BK477.out 2
        have hfz17_3 := blk_frozen BK477.out 3
        go_wp2_with (first | ((with_reducible refine gate_callee (f := 47) rfl ?_); refine goesL_ (some 13) rfl rfl Try.func47 (by kernel_rfl) rfl #[.agg #[.slice A0_0 l0_0.length c0_0, .slice A0_1 l0_1.length c0_1, .int .i64 a0_2, .bool a0_3]] rfl (by (try simp only [List.map_toArray, List.map_cons, List.map_nil]); first | done | rfl | (simp only [List.length_drop, List.length_take]; rfl)) ?_; (with_reducible refine (spec_l1Copy.calls kj1 _ _ l0_0 _ _ l0_1 a0_2 a0_3 t480 t483 t486 t487 _ ?side1 ?side2 ?side3 ?side4 A15.out).mono ?_); (case side1 => repeat (first | exact (Kd.C_below HR0_0.out HB.out) | (with_reducible refine Kd.C_alloc ?_ _) | (with_reducible refine Kd.C_drewN ?_ _) | (with_reducible refine Kd.C_drew ?_))); (case side2 => exact HC0_0.out); (case side3 => repeat (first | exact (Kd.C_below HR0_1.out HB.out) | (with_reducible refine Kd.C_alloc ?_ _) | (with_reducible refine Kd.C_drewN ?_ _) | (with_reducible refine Kd.C_drew ?_))); (case side4 => exact HC0_1.out); rintro e w18 ⟨v481, v484, rfl, ho0, ho1, hb⟩; refine ⟨_, rfl, ?_⟩; have n0_ := Aside0.mk (Kd.R_lower ho0 (below_size (by repeat (first | (with_reducible first | exact HB.out | apply below_alloc | apply pw_below_drewN | apply below_drew1 | refine below_set ?_ GE477.out | refine below_set ?_ GE478.out) | exact HB.out)))); have n1_ := Aside0.mk (Kd.S_lower ho1 (below_size (by repeat (first | (with_reducible first | exact HB.out | apply below_alloc | apply pw_below_drewN | apply below_drew1 | refine below_set ?_ GE477.out | refine below_set ?_ GE478.out) | exact HB.out)))); have n2_ := Aside0.mk (blk_below (g := gb477) (o := .cells #[.slice A0_0 l0_0.length c0_0, .slice A0_1 l0_1.length c0_1, .int .i64 a0_2, .bool a0_3] 25 (0, 0)) (by (with_reducible repeat (first | refine blk_drewN ?_ _ | refine blk_drew ?_ | refine blk_alloc ?_ _)); exact BK477.out) hb); have n3_ := Aside0.mk (blk_below (g := gb478) (o := .cells #[.slice none 0 0, .slice none 0 0, .int .i64 0, .bool false] 25 (0, 0)) (by (with_reducible repeat (first | refine blk_drewN ?_ _ | refine blk_drew ?_ | refine blk_alloc ?_ _)); exact BK478.out) hb); have n4_ := Aside0.mk (below_step (by repeat (first | (with_reducible first | exact HB.out | apply below_alloc | apply pw_below_drewN | apply below_drew1 | refine below_set ?_ GE477.out | refine below_set ?_ GE478.out) | exact HB.out)) hb); clear BK477; clear BK478; clear HB; have HO482 := n0_; have HO485 := n1_; have BK477 := n2_; have BK478 := n3_; have HB := n4_; clear n0_ n1_ n2_ n3_ n4_; (try clear hb); (try clear hb2); (try clear hk); (try clear hi); (try clear ho0); (try clear ho1); obtain ⟨Ao19, co19, eo19⟩ := Kd.R_slice HO482.out; subst eo19; have hcz20_0 : w18.cell? ⟨gb478, 0, none⟩ = some (.slice none 0 0) := (blk_cell BK478.out 0).trans rfl; have hcz20_1 : w18.cell? ⟨gb478, 1, none⟩ = some (.slice none 0 0) := (blk_cell BK478.out 1).trans rfl; have hcz20_2 : w18.cell? ⟨gb478, 2, none⟩ = some (.int .i64 0) := (blk_cell BK478.out 2).trans rfl; have hcz20_3 : w18.cell? ⟨gb478, 3, none⟩ = some (.bool false) := (blk_cell BK478.out 3).trans rfl; have hfz20_0 := blk_frozen BK478.out 0; have hfz20_1 := blk_frozen BK478.out 1; have hfz20_2 := blk_frozen BK478.out 2; have hfz20_3 := blk_frozen BK478.out 3; obtain ⟨Ao21, co21, eo21⟩ := Kd.S_slice HO485.out; subst eo21))
        refine bodyPost_ret (results_cell_row rfl _ _ gb478 25 #[.slice Ao19 t480.length co19, .slice Ao21 t483.length co21, .int .i64 t486, .bool t487] (0, 0) _ rfl (by (with_reducible repeat (first | refine blk_drewN ?_ _ | refine blk_drew ?_ | refine blk_alloc ?_ _)); refine blk_put (cs := #[.slice Ao19 t480.length co19, .slice Ao21 t483.length co21, .int .i64 t486, .bool false]) ?_ 3 _ rfl; (with_reducible repeat (first | refine blk_drewN ?_ _ | refine blk_drew ?_ | refine blk_alloc ?_ _)); refine blk_put (cs := #[.slice Ao19 t480.length co19, .slice Ao21 t483.length co21, .int .i64 0, .bool false]) ?_ 2 _ rfl; (with_reducible repeat (first | refine blk_drewN ?_ _ | refine blk_drew ?_ | refine blk_alloc ?_ _)); refine blk_put (cs := #[.slice Ao19 t480.length co19, .slice none 0 0, .int .i64 0, .bool false]) ?_ 1 _ rfl; (with_reducible repeat (first | refine blk_drewN ?_ _ | refine blk_drew ?_ | refine blk_alloc ?_ _)); refine blk_put (cs := #[.slice none 0 0, .slice none 0 0, .int .i64 0, .bool false]) ?_ 0 _ rfl; (with_reducible repeat (first | refine blk_drewN ?_ _ | refine blk_drew ?_ | refine blk_alloc ?_ _)); exact BK478.out) Try.underlying25 rfl (by kernel_rfl)) rfl ?_
        exact ⟨_, _, by first | rfl | (simp [errW_none, errW_some] <;> rfl) | (simp [*, errW_none, errW_some] <;> rfl), by (with_reducible repeat (first | apply Kd.R_alloc | apply Kd.R_drewN | apply Kd.R_drew)); exact Kd.R_mono (Kd.R_far (p := ⟨gb478, 3, none⟩) (Kd.R_far (p := ⟨gb478, 2, none⟩) (Kd.R_far (p := ⟨gb478, 1, none⟩) (Kd.R_far (p := ⟨gb478, 0, none⟩) (Kd.R_types HO482.out BK478.out (by decide)) (fun _ hk => hk.2) (.slice Ao19 t480.length co19)) (fun _ hk => hk.2) (.slice Ao21 t483.length co21)) (fun _ hk => hk.2) (.int .i64 t486)) (fun _ hk => hk.2) (.bool t487)) (fun _ hk => trivial), by (with_reducible repeat (first | apply Kd.S_alloc | apply Kd.S_drewN | apply Kd.S_drew)); exact Kd.S_mono (Kd.S_far (p := ⟨gb478, 3, none⟩) (Kd.S_far (p := ⟨gb478, 2, none⟩) (Kd.S_far (p := ⟨gb478, 1, none⟩) (Kd.S_far (p := ⟨gb478, 0, none⟩) (Kd.S_types HO485.out BK478.out (by decide)) (fun _ hk => hk.2) (.slice Ao19 t480.length co19)) (fun _ hk => hk.2) (.slice Ao21 t483.length co21)) (fun _ hk => hk.2) (.int .i64 t486)) (fun _ hk => hk.2) (.bool t487)) (fun _ hk => hk.1), by repeat (first | (with_reducible first | exact HB.out | apply below_alloc | apply pw_below_drewN | apply below_drew1 | refine below_set ?_ GE477.out | refine below_set ?_ GE478.out) | exact HB.out)⟩
      · replace c14 := Bool.eq_false_iff.mpr c14
        subst c14
        have H1 : ((spec_l1Step.f kj1 l0_0 l0_1 a0_2 a0_3).bind fun bt488 => (if bt488.2.2.2 = true then (some (bt488.1, bt488.2.1, bt488.2.2.1, bt488.2.2.2)) else (spec_DiskSync.l0 kj1 0 l0_0 l0_1 a0_2 a0_3 bt488.1 bt488.2.1 bt488.2.2.1 bt488.2.2.2))) = some (r1, r2, r3, r4) := by rw [if_neg (show ¬ (false = true) by decide)] at H; exact H
        clear H
        have H := H1
        clear H1
        replace H := Option.bind_eq_some_iff.mp H
        obtain ⟨⟨t488, t491, t494, t495⟩, A220, H⟩ := H
        replace H : (if t495 = true then (some (t488, t491, t494, t495)) else (spec_DiskSync.l0 kj1 0 l0_0 l0_1 a0_2 a0_3 t488 t491 t494 t495)) = some (r1, r2, r3, r4) := H
        have A22 := Aside0.mk A220
        clear A220
        by_cases c23 : t495 = true
        · subst c23
          have H1 : (some (t488, t491, t494, true)) = some (r1, r2, r3, r4) := by rw [if_pos rfl] at H; exact H
          clear H
          have H := H1
          clear H1
          simp only [Option.some.injEq, Prod.mk.injEq] at H
          obtain ⟨rfl, rfl, rfl, rfl⟩ := H
          have hnb24 := NB477_478.out
          have hnc24 := NB478_477.out
          have hcz25_0 : wc.cell? ⟨gb477, 0, none⟩ = some (.slice A0_0 l0_0.length c0_0) := (blk_cell BK477.out 0).trans rfl
          have hcz25_1 : wc.cell? ⟨gb477, 1, none⟩ = some (.slice A0_1 l0_1.length c0_1) := (blk_cell BK477.out 1).trans rfl
          have hcz25_2 : wc.cell? ⟨gb477, 2, none⟩ = some (.int .i64 a0_2) := (blk_cell BK477.out 2).trans rfl
          have hcz25_3 : wc.cell? ⟨gb477, 3, none⟩ = some (.bool a0_3) := (blk_cell BK477.out 3).trans rfl
          have hfz25_0 := blk_frozen BK477.out 0
          have hfz25_1 := blk_frozen BK477.out 1
          have hfz25_2 := blk_frozen BK477.out 2
          have hfz25_3 := blk_frozen BK477.out 3
          go_wp2_with (first | ((with_reducible refine gate_callee (f := 48) rfl ?_); refine goesL_ (some 15) rfl rfl Try.func48 (by kernel_rfl) rfl #[.agg #[.slice A0_0 l0_0.length c0_0, .slice A0_1 l0_1.length c0_1, .int .i64 a0_2, .bool a0_3]] rfl (by (try simp only [List.map_toArray, List.map_cons, List.map_nil]); first | done | rfl | (simp only [List.length_drop, List.length_take]; rfl)) ?_; (with_reducible refine (spec_l1Step.calls kj1 _ _ l0_0 _ _ l0_1 a0_2 a0_3 t488 t491 t494 true _ ?side1 ?side2 ?side3 ?side4 A22.out).mono ?_); (case side1 => repeat (first | exact (Kd.C_below HR0_0.out HB.out) | (with_reducible refine Kd.C_alloc ?_ _) | (with_reducible refine Kd.C_drewN ?_ _) | (with_reducible refine Kd.C_drew ?_))); (case side2 => exact HC0_0.out); (case side3 => repeat (first | exact (Kd.C_below HR0_1.out HB.out) | (with_reducible refine Kd.C_alloc ?_ _) | (with_reducible refine Kd.C_drewN ?_ _) | (with_reducible refine Kd.C_drew ?_))); (case side4 => exact HC0_1.out); rintro e w26 ⟨v489, v492, rfl, ho0, ho1, hb⟩; refine ⟨_, rfl, ?_⟩; have n0_ := Aside0.mk (Kd.R_lower ho0 (below_size (by repeat (first | (with_reducible first | exact HB.out | apply below_alloc | apply pw_below_drewN | apply below_drew1 | refine below_set ?_ GE477.out | refine below_set ?_ GE478.out) | exact HB.out)))); have n1_ := Aside0.mk (Kd.S_lower ho1 (below_size (by repeat (first | (with_reducible first | exact HB.out | apply below_alloc | apply pw_below_drewN | apply below_drew1 | refine below_set ?_ GE477.out | refine below_set ?_ GE478.out) | exact HB.out)))); have n2_ := Aside0.mk (blk_below (g := gb477) (o := .cells #[.slice A0_0 l0_0.length c0_0, .slice A0_1 l0_1.length c0_1, .int .i64 a0_2, .bool a0_3] 25 (0, 0)) (by (with_reducible repeat (first | refine blk_drewN ?_ _ | refine blk_drew ?_ | refine blk_alloc ?_ _)); exact BK477.out) hb); have n3_ := Aside0.mk (blk_below (g := gb478) (o := .cells #[.slice none 0 0, .slice none 0 0, .int .i64 0, .bool false] 25 (0, 0)) (by (with_reducible repeat (first | refine blk_drewN ?_ _ | refine blk_drew ?_ | refine blk_alloc ?_ _)); exact BK478.out) hb); have n4_ := Aside0.mk (below_step (by repeat (first | (with_reducible first | exact HB.out | apply below_alloc | apply pw_below_drewN | apply below_drew1 | refine below_set ?_ GE477.out | refine below_set ?_ GE478.out) | exact HB.out)) hb); clear BK477; clear BK478; clear HB; have HO490 := n0_; have HO493 := n1_; have BK477 := n2_; have BK478 := n3_; have HB := n4_; clear n0_ n1_ n2_ n3_ n4_; (try clear hb); (try clear hb2); (try clear hk); (try clear hi); (try clear ho0); (try clear ho1)) | ((with_reducible refine gate_dst (N := 3) rfl ?_); refine box_event ?hg (N := 3) ?hd (cs := #[.slice none 0 0, .slice none 0 0, .int .i64 0, .bool false]) (t := 25) ?hr ?_; (case hd => rfl); (case hg => rfl); (case hr => first | (go_simp; done) | (go_simp; rfl)); intro gb496 hg w27 hbox hb; have n0_ := Aside0.mk (Kd.R_below (by (with_reducible repeat (first | apply Kd.R_alloc | apply Kd.R_drewN | apply Kd.R_drew)); exact HO490.out) hb); have n1_ := Aside0.mk (Kd.S_below (by (with_reducible repeat (first | apply Kd.S_alloc | apply Kd.S_drewN | apply Kd.S_drew)); exact HO493.out) hb); have n2_ := Aside0.mk (blk_below (g := gb477) (o := .cells #[.slice A0_0 l0_0.length c0_0, .slice A0_1 l0_1.length c0_1, .int .i64 a0_2, .bool a0_3] 25 (0, 0)) (by (with_reducible repeat (first | refine blk_drewN ?_ _ | refine blk_drew ?_ | refine blk_alloc ?_ _)); exact BK477.out) hb); have n3_ := Aside0.mk (blk_below (g := gb478) (o := .cells #[.slice none 0 0, .slice none 0 0, .int .i64 0, .bool false] 25 (0, 0)) (by (with_reducible repeat (first | refine blk_drewN ?_ _ | refine blk_drew ?_ | refine blk_alloc ?_ _)); exact BK478.out) hb); have n4_ := Aside0.mk (below_step (by repeat (first | (with_reducible first | exact HB.out | apply below_alloc | apply pw_below_drewN | apply below_drew1 | refine below_set ?_ GE477.out | refine below_set ?_ GE478.out) | exact HB.out)) hb); have n5_ := Aside0.mk (hbox); have n6_ := Aside0.mk ((by rw [hg]; exact (below_size (by repeat (first | (with_reducible first | exact HB.out | apply below_alloc | apply pw_below_drewN | apply below_drew1 | refine below_set ?_ GE477.out | refine below_set ?_ GE478.out) | exact HB.out))) : w.heap.size ≤ gb496)); have n7_ := Aside0.mk ((by rw [hg]; exact (below_size (by repeat (first | (with_reducible first | exact HB.out | apply below_alloc | apply pw_below_drewN | apply below_drew1 | refine below_set ?_ GE477.out | refine below_set ?_ GE478.out) | exact HB.out))) : w.heap.size ≤ gb496)); have n8_ := Aside0.mk ((by rw [hg]; exact Nat.ne_of_lt (blk_lt (g := gb477) (o := .cells #[.slice A0_0 l0_0.length c0_0, .slice A0_1 l0_1.length c0_1, .int .i64 a0_2, .bool a0_3] 25 (0, 0)) (by (with_reducible repeat (first | refine blk_drewN ?_ _ | refine blk_drew ?_ | refine blk_alloc ?_ _)); exact BK477.out)) : gb477 ≠ gb496)); have n9_ := Aside0.mk ((by rw [hg]; exact Nat.ne_of_gt (blk_lt (g := gb477) (o := .cells #[.slice A0_0 l0_0.length c0_0, .slice A0_1 l0_1.length c0_1, .int .i64 a0_2, .bool a0_3] 25 (0, 0)) (by (with_reducible repeat (first | refine blk_drewN ?_ _ | refine blk_drew ?_ | refine blk_alloc ?_ _)); exact BK477.out)) : gb496 ≠ gb477)); have n10_ := Aside0.mk ((by rw [hg]; exact Nat.ne_of_lt (blk_lt (g := gb478) (o := .cells #[.slice none 0 0, .slice none 0 0, .int .i64 0, .bool false] 25 (0, 0)) (by (with_reducible repeat (first | refine blk_drewN ?_ _ | refine blk_drew ?_ | refine blk_alloc ?_ _)); exact BK478.out)) : gb478 ≠ gb496)); have n11_ := Aside0.mk ((by rw [hg]; exact Nat.ne_of_gt (blk_lt (g := gb478) (o := .cells #[.slice none 0 0, .slice none 0 0, .int .i64 0, .bool false] 25 (0, 0)) (by (with_reducible repeat (first | refine blk_drewN ?_ _ | refine blk_drew ?_ | refine blk_alloc ?_ _)); exact BK478.out)) : gb496 ≠ gb478)); clear HO490; clear HO493; clear BK477; clear BK478; clear HB; have HO490 := n0_; have HO493 := n1_; have BK477 := n2_; have BK478 := n3_; have HB := n4_; have BK496 := n5_; have GW496 := n6_; have GE496 := n7_; have NB477_496 := n8_; have NB496_477 := n9_; have NB478_496 := n10_; have NB496_478 := n11_; clear n0_ n1_ n2_ n3_ n4_ n5_ n6_ n7_ n8_ n9_ n10_ n11_; clear hb hbox hg; obtain ⟨Ao28, co28, eo28⟩ := Kd.R_slice HO490.out; subst eo28; have hnb29 := NB496_477.out; have hnc29 := NB477_496.out; have hnb30 := NB496_478.out; have hnc30 := NB478_496.out; have hcz31_0 : w27.cell? ⟨gb496, 0, none⟩ = some (.slice none 0 0) := (blk_cell BK496.out 0).trans rfl; have hcz31_1 : w27.cell? ⟨gb496, 1, none⟩ = some (.slice none 0 0) := (blk_cell BK496.out 1).trans rfl; have hcz31_2 : w27.cell? ⟨gb496, 2, none⟩ = some (.int .i64 0) := (blk_cell BK496.out 2).trans rfl; have hcz31_3 : w27.cell? ⟨gb496, 3, none⟩ = some (.bool false) := (blk_cell BK496.out 3).trans rfl; have hfz31_0 := blk_frozen BK496.out 0; have hfz31_1 := blk_frozen BK496.out 1; have hfz31_2 := blk_frozen BK496.out 2; have hfz31_3 := blk_frozen BK496.out 3; obtain ⟨Ao32, co32, eo32⟩ := Kd.S_slice HO493.out; subst eo32; have hcz33_0 : w27.cell? ⟨gb478, 0, none⟩ = some (.slice none 0 0) := (blk_cell BK478.out 0).trans rfl; have hcz33_1 : w27.cell? ⟨gb478, 1, none⟩ = some (.slice none 0 0) := (blk_cell BK478.out 1).trans rfl; have hcz33_2 : w27.cell? ⟨gb478, 2, none⟩ = some (.int .i64 0) := (blk_cell BK478.out 2).trans rfl; have hcz33_3 : w27.cell? ⟨gb478, 3, none⟩ = some (.bool false) := (blk_cell BK478.out 3).trans rfl; have hfz33_0 := blk_frozen BK478.out 0; have hfz33_1 := blk_frozen BK478.out 1; have hfz33_2 := blk_frozen BK478.out 2; have hfz33_3 := blk_frozen BK478.out 3))
          refine bodyPost_ret (results_cell_row rfl _ _ gb478 25 #[.slice Ao28 t488.length co28, .slice Ao32 t491.length co32, .int .i64 t494, .bool true] (0, 0) _ rfl (by (with_reducible repeat (first | refine blk_drewN ?_ _ | refine blk_drew ?_ | refine blk_alloc ?_ _)); refine blk_put (cs := #[.slice Ao28 t488.length co28, .slice Ao32 t491.length co32, .int .i64 t494, .bool false]) ?_ 3 _ rfl; (with_reducible repeat (first | refine blk_drewN ?_ _ | refine blk_drew ?_ | refine blk_alloc ?_ _)); refine blk_put (cs := #[.slice Ao28 t488.length co28, .slice Ao32 t491.length co32, .int .i64 0, .bool false]) ?_ 2 _ rfl; (with_reducible repeat (first | refine blk_drewN ?_ _ | refine blk_drew ?_ | refine blk_alloc ?_ _)); refine blk_put (cs := #[.slice Ao28 t488.length co28, .slice none 0 0, .int .i64 0, .bool false]) ?_ 1 _ rfl; (with_reducible repeat (first | refine blk_drewN ?_ _ | refine blk_drew ?_ | refine blk_alloc ?_ _)); refine blk_put (cs := #[.slice none 0 0, .slice none 0 0, .int .i64 0, .bool false]) ?_ 0 _ rfl; (with_reducible repeat (first | refine blk_drewN ?_ _ | refine blk_drew ?_ | refine blk_alloc ?_ _)); refine blk_far ?_ NB478_496.out _; (with_reducible repeat (first | refine blk_drewN ?_ _ | refine blk_drew ?_ | refine blk_alloc ?_ _)); refine blk_far ?_ NB478_496.out _; (with_reducible repeat (first | refine blk_drewN ?_ _ | refine blk_drew ?_ | refine blk_alloc ?_ _)); refine blk_far ?_ NB478_496.out _; (with_reducible repeat (first | refine blk_drewN ?_ _ | refine blk_drew ?_ | refine blk_alloc ?_ _)); refine blk_far ?_ NB478_496.out _; (with_reducible repeat (first | refine blk_drewN ?_ _ | refine blk_drew ?_ | refine blk_alloc ?_ _)); exact BK478.out) Try.underlying25 rfl (by kernel_rfl)) rfl ?_
          exact ⟨_, _, by first | rfl | (simp [errW_none, errW_some] <;> rfl) | (simp [*, errW_none, errW_some] <;> rfl), by (with_reducible repeat (first | apply Kd.R_alloc | apply Kd.R_drewN | apply Kd.R_drew)); exact Kd.R_mono (Kd.R_far (p := ⟨gb478, 3, none⟩) (Kd.R_far (p := ⟨gb478, 2, none⟩) (Kd.R_far (p := ⟨gb478, 1, none⟩) (Kd.R_far (p := ⟨gb478, 0, none⟩) (Kd.R_far (p := ⟨gb496, 3, none⟩) (Kd.R_far (p := ⟨gb496, 2, none⟩) (Kd.R_far (p := ⟨gb496, 1, none⟩) (Kd.R_far (p := ⟨gb496, 0, none⟩) (Kd.R_types (Kd.R_types HO490.out BK496.out (by decide)) BK478.out (by decide)) (fun _ hk => hk.1.2) (.slice Ao28 t488.length co28)) (fun _ hk => hk.1.2) (.slice Ao32 t491.length co32)) (fun _ hk => hk.1.2) (.int .i64 t494)) (fun _ hk => hk.1.2) (.bool true)) (fun _ hk => hk.2) (.slice Ao28 t488.length co28)) (fun _ hk => hk.2) (.slice Ao32 t491.length co32)) (fun _ hk => hk.2) (.int .i64 t494)) (fun _ hk => hk.2) (.bool true)) (fun _ hk => trivial), by (with_reducible repeat (first | apply Kd.S_alloc | apply Kd.S_drewN | apply Kd.S_drew)); exact Kd.S_mono (Kd.S_far (p := ⟨gb478, 3, none⟩) (Kd.S_far (p := ⟨gb478, 2, none⟩) (Kd.S_far (p := ⟨gb478, 1, none⟩) (Kd.S_far (p := ⟨gb478, 0, none⟩) (Kd.S_far (p := ⟨gb496, 3, none⟩) (Kd.S_far (p := ⟨gb496, 2, none⟩) (Kd.S_far (p := ⟨gb496, 1, none⟩) (Kd.S_far (p := ⟨gb496, 0, none⟩) (Kd.S_types (Kd.S_types HO493.out BK496.out (by decide)) BK478.out (by decide)) (fun _ hk => hk.1.2) (.slice Ao28 t488.length co28)) (fun _ hk => hk.1.2) (.slice Ao32 t491.length co32)) (fun _ hk => hk.1.2) (.int .i64 t494)) (fun _ hk => hk.1.2) (.bool true)) (fun _ hk => hk.2) (.slice Ao28 t488.length co28)) (fun _ hk => hk.2) (.slice Ao32 t491.length co32)) (fun _ hk => hk.2) (.int .i64 t494)) (fun _ hk => hk.2) (.bool true)) (fun _ hk => hk.1.1), by repeat (first | (with_reducible first | exact HB.out | apply below_alloc | apply pw_below_drewN | apply below_drew1 | refine below_set ?_ GE477.out | refine below_set ?_ GE478.out | refine below_set ?_ GE496.out) | exact HB.out)⟩
        · replace c23 := Bool.eq_false_iff.mpr c23
          subst c23
          have H1 : (spec_DiskSync.l0 kj1 0 l0_0 l0_1 a0_2 a0_3 t488 t491 t494 false) = some (r1, r2, r3, r4) := by rw [if_neg (show ¬ (false = true) by decide)] at H; exact H
          clear H
          have H := H1
          clear H1
          have H' := Aside0.mk H
          clear H
          have hnb34 := NB477_478.out
          have hnc34 := NB478_477.out
          have hcz35_0 : wc.cell? ⟨gb477, 0, none⟩ = some (.slice A0_0 l0_0.length c0_0) := (blk_cell BK477.out 0).trans rfl
          have hcz35_1 : wc.cell? ⟨gb477, 1, none⟩ = some (.slice A0_1 l0_1.length c0_1) := (blk_cell BK477.out 1).trans rfl
          have hcz35_2 : wc.cell? ⟨gb477, 2, none⟩ = some (.int .i64 a0_2) := (blk_cell BK477.out 2).trans rfl
          have hcz35_3 : wc.cell? ⟨gb477, 3, none⟩ = some (.bool a0_3) := (blk_cell BK477.out 3).trans rfl
          have hfz35_0 := blk_frozen BK477.out 0
          have hfz35_1 := blk_frozen BK477.out 1
          have hfz35_2 := blk_frozen BK477.out 2
          have hfz35_3 := blk_frozen BK477.out 3
          go_wp2_with (first | ((with_reducible refine gate_callee (f := 48) rfl ?_); refine goesL_ (some 15) rfl rfl Try.func48 (by kernel_rfl) rfl #[.agg #[.slice A0_0 l0_0.length c0_0, .slice A0_1 l0_1.length c0_1, .int .i64 a0_2, .bool a0_3]] rfl (by (try simp only [List.map_toArray, List.map_cons, List.map_nil]); first | done | rfl | (simp only [List.length_drop, List.length_take]; rfl)) ?_; (with_reducible refine (spec_l1Step.calls kj1 _ _ l0_0 _ _ l0_1 a0_2 a0_3 t488 t491 t494 false _ ?side1 ?side2 ?side3 ?side4 A22.out).mono ?_); (case side1 => repeat (first | exact (Kd.C_below HR0_0.out HB.out) | (with_reducible refine Kd.C_alloc ?_ _) | (with_reducible refine Kd.C_drewN ?_ _) | (with_reducible refine Kd.C_drew ?_))); (case side2 => exact HC0_0.out); (case side3 => repeat (first | exact (Kd.C_below HR0_1.out HB.out) | (with_reducible refine Kd.C_alloc ?_ _) | (with_reducible refine Kd.C_drewN ?_ _) | (with_reducible refine Kd.C_drew ?_))); (case side4 => exact HC0_1.out); rintro e w36 ⟨v489, v492, rfl, ho0, ho1, hb⟩; refine ⟨_, rfl, ?_⟩; have n0_ := Aside0.mk (Kd.R_lower ho0 (below_size (by repeat (first | (with_reducible first | exact HB.out | apply below_alloc | apply pw_below_drewN | apply below_drew1 | refine below_set ?_ GE477.out | refine below_set ?_ GE478.out) | exact HB.out)))); have n1_ := Aside0.mk (Kd.S_lower ho1 (below_size (by repeat (first | (with_reducible first | exact HB.out | apply below_alloc | apply pw_below_drewN | apply below_drew1 | refine below_set ?_ GE477.out | refine below_set ?_ GE478.out) | exact HB.out)))); have n2_ := Aside0.mk (blk_below (g := gb477) (o := .cells #[.slice A0_0 l0_0.length c0_0, .slice A0_1 l0_1.length c0_1, .int .i64 a0_2, .bool a0_3] 25 (0, 0)) (by (with_reducible repeat (first | refine blk_drewN ?_ _ | refine blk_drew ?_ | refine blk_alloc ?_ _)); exact BK477.out) hb); have n3_ := Aside0.mk (blk_below (g := gb478) (o := .cells #[.slice none 0 0, .slice none 0 0, .int .i64 0, .bool false] 25 (0, 0)) (by (with_reducible repeat (first | refine blk_drewN ?_ _ | refine blk_drew ?_ | refine blk_alloc ?_ _)); exact BK478.out) hb); have n4_ := Aside0.mk (below_step (by repeat (first | (with_reducible first | exact HB.out | apply below_alloc | apply pw_below_drewN | apply below_drew1 | refine below_set ?_ GE477.out | refine below_set ?_ GE478.out) | exact HB.out)) hb); clear BK477; clear BK478; clear HB; have HO490 := n0_; have HO493 := n1_; have BK477 := n2_; have BK478 := n3_; have HB := n4_; clear n0_ n1_ n2_ n3_ n4_; (try clear hb); (try clear hb2); (try clear hk); (try clear hi); (try clear ho0); (try clear ho1)) | ((with_reducible refine gate_dst (N := 3) rfl ?_); refine box_event ?hg (N := 3) ?hd (cs := #[.slice none 0 0, .slice none 0 0, .int .i64 0, .bool false]) (t := 25) ?hr ?_; (case hd => rfl); (case hg => rfl); (case hr => first | (go_simp; done) | (go_simp; rfl)); intro gb496 hg w37 hbox hb; have n0_ := Aside0.mk (Kd.R_below (by (with_reducible repeat (first | apply Kd.R_alloc | apply Kd.R_drewN | apply Kd.R_drew)); exact HO490.out) hb); have n1_ := Aside0.mk (Kd.S_below (by (with_reducible repeat (first | apply Kd.S_alloc | apply Kd.S_drewN | apply Kd.S_drew)); exact HO493.out) hb); have n2_ := Aside0.mk (blk_below (g := gb477) (o := .cells #[.slice A0_0 l0_0.length c0_0, .slice A0_1 l0_1.length c0_1, .int .i64 a0_2, .bool a0_3] 25 (0, 0)) (by (with_reducible repeat (first | refine blk_drewN ?_ _ | refine blk_drew ?_ | refine blk_alloc ?_ _)); exact BK477.out) hb); have n3_ := Aside0.mk (blk_below (g := gb478) (o := .cells #[.slice none 0 0, .slice none 0 0, .int .i64 0, .bool false] 25 (0, 0)) (by (with_reducible repeat (first | refine blk_drewN ?_ _ | refine blk_drew ?_ | refine blk_alloc ?_ _)); exact BK478.out) hb); have n4_ := Aside0.mk (below_step (by repeat (first | (with_reducible first | exact HB.out | apply below_alloc | apply pw_below_drewN | apply below_drew1 | refine below_set ?_ GE477.out | refine below_set ?_ GE478.out) | exact HB.out)) hb); have n5_ := Aside0.mk (hbox); have n6_ := Aside0.mk ((by rw [hg]; exact (below_size (by repeat (first | (with_reducible first | exact HB.out | apply below_alloc | apply pw_below_drewN | apply below_drew1 | refine below_set ?_ GE477.out | refine below_set ?_ GE478.out) | exact HB.out))) : w.heap.size ≤ gb496)); have n7_ := Aside0.mk ((by rw [hg]; exact (below_size (by repeat (first | (with_reducible first | exact HB.out | apply below_alloc | apply pw_below_drewN | apply below_drew1 | refine below_set ?_ GE477.out | refine below_set ?_ GE478.out) | exact HB.out))) : w.heap.size ≤ gb496)); have n8_ := Aside0.mk ((by rw [hg]; exact Nat.ne_of_lt (blk_lt (g := gb477) (o := .cells #[.slice A0_0 l0_0.length c0_0, .slice A0_1 l0_1.length c0_1, .int .i64 a0_2, .bool a0_3] 25 (0, 0)) (by (with_reducible repeat (first | refine blk_drewN ?_ _ | refine blk_drew ?_ | refine blk_alloc ?_ _)); exact BK477.out)) : gb477 ≠ gb496)); have n9_ := Aside0.mk ((by rw [hg]; exact Nat.ne_of_gt (blk_lt (g := gb477) (o := .cells #[.slice A0_0 l0_0.length c0_0, .slice A0_1 l0_1.length c0_1, .int .i64 a0_2, .bool a0_3] 25 (0, 0)) (by (with_reducible repeat (first | refine blk_drewN ?_ _ | refine blk_drew ?_ | refine blk_alloc ?_ _)); exact BK477.out)) : gb496 ≠ gb477)); have n10_ := Aside0.mk ((by rw [hg]; exact Nat.ne_of_lt (blk_lt (g := gb478) (o := .cells #[.slice none 0 0, .slice none 0 0, .int .i64 0, .bool false] 25 (0, 0)) (by (with_reducible repeat (first | refine blk_drewN ?_ _ | refine blk_drew ?_ | refine blk_alloc ?_ _)); exact BK478.out)) : gb478 ≠ gb496)); have n11_ := Aside0.mk ((by rw [hg]; exact Nat.ne_of_gt (blk_lt (g := gb478) (o := .cells #[.slice none 0 0, .slice none 0 0, .int .i64 0, .bool false] 25 (0, 0)) (by (with_reducible repeat (first | refine blk_drewN ?_ _ | refine blk_drew ?_ | refine blk_alloc ?_ _)); exact BK478.out)) : gb496 ≠ gb478)); clear HO490; clear HO493; clear BK477; clear BK478; clear HB; have HO490 := n0_; have HO493 := n1_; have BK477 := n2_; have BK478 := n3_; have HB := n4_; have BK496 := n5_; have GW496 := n6_; have GE496 := n7_; have NB477_496 := n8_; have NB496_477 := n9_; have NB478_496 := n10_; have NB496_478 := n11_; clear n0_ n1_ n2_ n3_ n4_ n5_ n6_ n7_ n8_ n9_ n10_ n11_; clear hb hbox hg; obtain ⟨Ao38, co38, eo38⟩ := Kd.R_slice HO490.out; subst eo38; have hnb39 := NB496_477.out; have hnc39 := NB477_496.out; have hnb40 := NB496_478.out; have hnc40 := NB478_496.out; have hcz41_0 : w37.cell? ⟨gb496, 0, none⟩ = some (.slice none 0 0) := (blk_cell BK496.out 0).trans rfl; have hcz41_1 : w37.cell? ⟨gb496, 1, none⟩ = some (.slice none 0 0) := (blk_cell BK496.out 1).trans rfl; have hcz41_2 : w37.cell? ⟨gb496, 2, none⟩ = some (.int .i64 0) := (blk_cell BK496.out 2).trans rfl; have hcz41_3 : w37.cell? ⟨gb496, 3, none⟩ = some (.bool false) := (blk_cell BK496.out 3).trans rfl; have hfz41_0 := blk_frozen BK496.out 0; have hfz41_1 := blk_frozen BK496.out 1; have hfz41_2 := blk_frozen BK496.out 2; have hfz41_3 := blk_frozen BK496.out 3; obtain ⟨Ao42, co42, eo42⟩ := Kd.S_slice HO493.out; subst eo42))
          go_loopg [4] kj1 (fun kq v4 w' => ∃ (x4_2 : Int) (x497000_2 : List Int) (u497000 : Value), v4 = .int .i64 x4_2 ∧ Aside0 (spec_DiskSync.l0 kq x4_2 l0_0 l0_1 a0_2 a0_3 x497000_2 t491 t494 false = some (r1, r2, r3, r4)) ∧ Aside0 (kq ≤ kj1) ∧ Aside0 (Kd.R (Kd.int .u8) 5 w' w.heap.size (fun _ => True) u497000 x497000_2) ∧ Aside0 (Kd.S k60 60 w' w.heap.size (fun k_ => some k_ ≠ (u497000 : Value).ownBlock) (.slice Ao42 t491.length co42) t491) ∧ Aside0 (w'.heap[gb477]? = some (.cells #[(.slice A0_0 l0_0.length c0_0), (.slice A0_1 l0_1.length c0_1), .int .i64 a0_2, .bool a0_3] 25 (0, 0))) ∧ Aside0 (w'.heap[gb478]? = some (.cells #[(.slice none 0 0), (.slice none 0 0), .int .i64 0, .bool false] 25 (0, 0))) ∧ Aside0 (w'.heap[gb496]? = some (.cells #[u497000, (.slice Ao42 t491.length co42), .int .i64 t494, .bool false] 25 (0, 0))) ∧ Aside0 (Below w.heap.size w w'))
          case atStart => exact ⟨(0), (t488), (.slice Ao38 t488.length co38), (by first | rfl | (simp; done) | (simp [*]; done)), H', ⟨Nat.le_refl _⟩, ⟨by (with_reducible repeat (first | apply Kd.R_alloc | apply Kd.R_drewN | apply Kd.R_drew)); exact Kd.R_mono (Kd.R_far (p := ⟨gb496, 3, none⟩) (Kd.R_far (p := ⟨gb496, 2, none⟩) (Kd.R_far (p := ⟨gb496, 1, none⟩) (Kd.R_far (p := ⟨gb496, 0, none⟩) (Kd.R_types HO490.out BK496.out (by decide)) (fun _ hk => hk.2) (.slice Ao38 t488.length co38)) (fun _ hk => hk.2) (.slice Ao42 t491.length co42)) (fun _ hk => hk.2) (.int .i64 t494)) (fun _ hk => hk.2) (.bool false)) (fun _ hk => trivial)⟩, ⟨by (with_reducible repeat (first | apply Kd.S_alloc | apply Kd.S_drewN | apply Kd.S_drew)); exact Kd.S_mono (Kd.S_far (p := ⟨gb496, 3, none⟩) (Kd.S_far (p := ⟨gb496, 2, none⟩) (Kd.S_far (p := ⟨gb496, 1, none⟩) (Kd.S_far (p := ⟨gb496, 0, none⟩) (Kd.S_types HO493.out BK496.out (by decide)) (fun _ hk => hk.2) (.slice Ao38 t488.length co38)) (fun _ hk => hk.2) (.slice Ao42 t491.length co42)) (fun _ hk => hk.2) (.int .i64 t494)) (fun _ hk => hk.2) (.bool false)) (fun _ hk => hk.1)⟩, ⟨by (with_reducible repeat (first | refine blk_drewN ?_ _ | refine blk_drew ?_ | refine blk_alloc ?_ _)); refine blk_far ?_ NB477_496.out _; (with_reducible repeat (first | refine blk_drewN ?_ _ | refine blk_drew ?_ | refine blk_alloc ?_ _)); refine blk_far ?_ NB477_496.out _; (with_reducible repeat (first | refine blk_drewN ?_ _ | refine blk_drew ?_ | refine blk_alloc ?_ _)); refine blk_far ?_ NB477_496.out _; (with_reducible repeat (first | refine blk_drewN ?_ _ | refine blk_drew ?_ | refine blk_alloc ?_ _)); refine blk_far ?_ NB477_496.out _; (with_reducible repeat (first | refine blk_drewN ?_ _ | refine blk_drew ?_ | refine blk_alloc ?_ _)); exact BK477.out⟩, ⟨by (with_reducible repeat (first | refine blk_drewN ?_ _ | refine blk_drew ?_ | refine blk_alloc ?_ _)); refine blk_far ?_ NB478_496.out _; (with_reducible repeat (first | refine blk_drewN ?_ _ | refine blk_drew ?_ | refine blk_alloc ?_ _)); refine blk_far ?_ NB478_496.out _; (with_reducible repeat (first | refine blk_drewN ?_ _ | refine blk_drew ?_ | refine blk_alloc ?_ _)); refine blk_far ?_ NB478_496.out _; (with_reducible repeat (first | refine blk_drewN ?_ _ | refine blk_drew ?_ | refine blk_alloc ?_ _)); refine blk_far ?_ NB478_496.out _; (with_reducible repeat (first | refine blk_drewN ?_ _ | refine blk_drew ?_ | refine blk_alloc ?_ _)); exact BK478.out⟩, ⟨by (with_reducible repeat (first | refine blk_drewN ?_ _ | refine blk_drew ?_ | refine blk_alloc ?_ _)); refine blk_put (cs := #[.slice Ao38 t488.length co38, .slice Ao42 t491.length co42, .int .i64 t494, .bool false]) ?_ 3 _ rfl; (with_reducible repeat (first | refine blk_drewN ?_ _ | refine blk_drew ?_ | refine blk_alloc ?_ _)); refine blk_put (cs := #[.slice Ao38 t488.length co38, .slice Ao42 t491.length co42, .int .i64 0, .bool false]) ?_ 2 _ rfl; (with_reducible repeat (first | refine blk_drewN ?_ _ | refine blk_drew ?_ | refine blk_alloc ?_ _)); refine blk_put (cs := #[.slice Ao38 t488.length co38, .slice none 0 0, .int .i64 0, .bool false]) ?_ 1 _ rfl; (with_reducible repeat (first | refine blk_drewN ?_ _ | refine blk_drew ?_ | refine blk_alloc ?_ _)); refine blk_put (cs := #[.slice none 0 0, .slice none 0 0, .int .i64 0, .bool false]) ?_ 0 _ rfl; (with_reducible repeat (first | refine blk_drewN ?_ _ | refine blk_drew ?_ | refine blk_alloc ?_ _)); exact BK496.out⟩, ⟨by repeat (first | (with_reducible first | exact HB.out | apply below_alloc | apply pw_below_drewN | apply below_drew1 | refine below_set ?_ GE477.out | refine below_set ?_ GE478.out | refine below_set ?_ GE496.out) | exact HB.out)⟩⟩
          case round =>
            clear H'
            try clear c1
            try clear c2
            try clear p2
            try clear c3
            try clear c4
            try clear c6
            try clear c7
            try clear c11
            try clear c14
            try clear c16
            try clear c23
            try clear c24
            try clear c27
            try clear c29
            try clear c30
            try clear c34
            try clear c39
            try clear c40
            try clear hcz10_0
            try clear hcz10_1
            try clear hcz10_2
            try clear hcz10_3
            try clear hcz12_0
            try clear hcz12_1
            try clear hcz12_2
            try clear hcz12_3
            try clear hcz17_0
            try clear hcz17_1
            try clear hcz17_2
            try clear hcz17_3
            try clear hcz20_0
            try clear hcz20_1
            try clear hcz20_2
            try clear hcz20_3
            try clear hcz25_0
            try clear hcz25_1
            try clear hcz25_2
            try clear hcz25_3
            try clear hcz31_0
            try clear hcz31_1
            try clear hcz31_2
            try clear hcz31_3
            try clear hcz33_0
            try clear hcz33_1
            try clear hcz33_2
            try clear hcz33_3
            try clear hcz35_0
            try clear hcz35_1
            try clear hcz35_2
            try clear hcz35_3
            try clear hcz41_0
            try clear hcz41_1
            try clear hcz41_2
            try clear hcz41_3
            try clear hcz8_0
            try clear hcz8_1
            try clear hcz8_2
            try clear hcz8_3
            try clear hfz10_0
            try clear hfz10_1
            try clear hfz10_2
            try clear hfz10_3
            try clear hfz12_0
            try clear hfz12_1
            try clear hfz12_2
            try clear hfz12_3
            try clear hfz17_0
            try clear hfz17_1
            try clear hfz17_2
            try clear hfz17_3
            try clear hfz20_0
            try clear hfz20_1
            try clear hfz20_2
            try clear hfz20_3
            try clear hfz25_0
            try clear hfz25_1
            try clear hfz25_2
            try clear hfz25_3
            try clear hfz31_0
            try clear hfz31_1
            try clear hfz31_2
            try clear hfz31_3
            try clear hfz33_0
            try clear hfz33_1
            try clear hfz33_2
            try clear hfz33_3
            try clear hfz35_0
            try clear hfz35_1
            try clear hfz35_2
            try clear hfz35_3
            try clear hfz41_0
            try clear hfz41_1
            try clear hfz41_2
            try clear hfz41_3
            try clear hfz8_0
            try clear hfz8_1
            try clear hfz8_2
            try clear hfz8_3
            try clear p2
            obtain ⟨x4_2, x497000_2, u497000, rfl, HA, HK2, HO_497000, HO_497001, BK477, BK478, BK496, HB⟩ := hrel
            cases gk with
            | zero => exact absurd HA.out (by simp [spec_DiskSync.l0])
            | succ k2 =>
              have H := HA.out
              clear HA
              simp only [spec_DiskSync.l0] at H
              by_cases c43 : x4_2 < (l0_1.length : Int)
              · rw [if_pos c43] at H
                have c43b0 : decide (x4_2 < (l0_1.length : Int)) = true := decide_eq_true c43
                clear c43
                by_cases c44 : 0 ≤ x4_2
                · rw [if_pos c44] at H
                  have c44b0 : decide (0 ≤ x4_2) = true := decide_eq_true c44
                  clear c44
                  replace H := Option.bind_eq_some_iff.mp H
                  obtain ⟨t499, A450, H⟩ := H
                  replace H : (spec_DiskSync.l0 k2 (wrap64 (x4_2 + 1)) l0_0 l0_1 a0_2 a0_3 t499 t491 t494 false) = some (r1, r2, r3, r4) := H
                  have A45 := Aside0.mk A450
                  clear A450
                  have H' := Aside0.mk H
                  clear H
                  have hnb46 := NB477_478.out
                  have hnc46 := NB478_477.out
                  have hnb47 := NB477_496.out
                  have hnc47 := NB496_477.out
                  have hcz48_0 : wr.cell? ⟨gb477, 0, none⟩ = some (.slice A0_0 l0_0.length c0_0) := (blk_cell BK477.out 0).trans rfl
                  have hcz48_1 : wr.cell? ⟨gb477, 1, none⟩ = some (.slice A0_1 l0_1.length c0_1) := (blk_cell BK477.out 1).trans rfl
                  have hcz48_2 : wr.cell? ⟨gb477, 2, none⟩ = some (.int .i64 a0_2) := (blk_cell BK477.out 2).trans rfl
                  have hcz48_3 : wr.cell? ⟨gb477, 3, none⟩ = some (.bool a0_3) := (blk_cell BK477.out 3).trans rfl
                  have hfz48_0 := blk_frozen BK477.out 0
                  have hfz48_1 := blk_frozen BK477.out 1
                  have hfz48_2 := blk_frozen BK477.out 2
                  have hfz48_3 := blk_frozen BK477.out 3
                  try go_wp2
                  have n0_ := Aside0.mk (Kd.R_drew HO_497000.out)
                  have n1_ := Aside0.mk (Kd.S_drew HO_497001.out)
                  have n2_ := Aside0.mk (blk_drew BK477.out)
                  have n3_ := Aside0.mk (blk_drew BK478.out)
                  have n4_ := Aside0.mk (blk_drew BK496.out)
                  have n5_ := Aside0.mk (below_drew1 HB.out)
                  clear HO_497000
                  clear HO_497001
                  clear BK477
                  clear BK478
                  clear BK496
                  clear HB
                  have HO_497000 := n0_
                  have HO_497001 := n1_
                  have BK477 := n2_
                  have BK478 := n3_
                  have BK496 := n4_
                  have HB := n5_
                  clear n0_ n1_ n2_ n3_ n4_ n5_
                  have p497 : 0 ≤ (x4_2 : Int) := of_decide_eq_true (by first | (with_reducible assumption) | assumption)
                  have q497 : x4_2 < (l0_1.length : Int) := of_decide_eq_true (by first | (with_reducible assumption) | assumption)
                  obtain ⟨ad497, A497_1, c497_1, e497, hx497_0, hx497_1, hl497_1, hi497_1⟩ := at_T60 HR0_1.out x4_2 p497 q497
                  have hw497_1 := hx497_1
                  have hw497_0 := hx497_0
                  cases e497
                  replace hx497_0 := (HB.out.cell (World.block_lt_of_cell? w _ hx497_0)).trans hx497_0
                  replace hx497_1 := (HB.out.cell (World.block_lt_of_cell? w _ hx497_1)).trans hx497_1
                  have HR497_1 := Aside0.mk hi497_1
                  have HC497_1 := Aside0.mk hl497_1
                  clear hi497_1 hl497_1
                  replace p497 := eq_true p497
                  replace q497 := eq_true q497
                  have p498 : 0 ≤ (x4_2 : Int) := of_decide_eq_true (by first | (with_reducible assumption) | assumption)
                  have q498 : x4_2 < (l0_1.length : Int) := of_decide_eq_true (by first | (with_reducible assumption) | assumption)
                  obtain ⟨ad498, A498_1, c498_1, e498, hx498_0, hx498_1, hl498_1, hi498_1⟩ := at_T60 HR0_1.out x4_2 p498 q498
                  have hw498_1 := hx498_1
                  have hw498_0 := hx498_0
                  obtain rfl : ad497 = ad498 := (by injection e498)
                  replace hx498_0 := (HB.out.cell (World.block_lt_of_cell? w _ hx498_0)).trans hx498_0
                  replace hx498_1 := (HB.out.cell (World.block_lt_of_cell? w _ hx498_1)).trans hx498_1
                  have HR498_1 := Aside0.mk hi498_1
                  have HC498_1 := Aside0.mk hl498_1
                  clear hi498_1 hl498_1
                  replace p498 := eq_true p498
                  replace q498 := eq_true q498
                  have ea_ := Option.some.inj (hx497_1.symm.trans hx498_1)
                  injection ea_ with ea_ en_ ec_
                  subst ea_
                  subst ec_
                  clear en_
                  obtain ⟨Ao50, co50, eo50⟩ := Kd.R_slice HO_497000.out
                  (first | subst eo50 | (injection eo50 with f1_ f2_ f3_; have f4_ := f1_.symm; have f5_ := f3_.symm; clear f1_ f2_ f3_; subst f4_; subst f5_))
                  refine start_ (n := 17) (S := fun w' => w'.cell? ⟨gb496, 0, none⟩ = some (.slice Ao50 x497000_2.length co50) ∧ w'.cell? ⟨gb496, 1, none⟩ = some (.slice Ao42 t491.length co42) ∧ w'.cell? ⟨gb496, 2, none⟩ = some (.int .i64 t494) ∧ w'.cell? ⟨gb496, 3, none⟩ = some (.bool false) ∧ w'.cell? ⟨gb477, 0, none⟩ = some (.slice A0_0 l0_0.length c0_0) ∧ w'.cell? ⟨gb477, 1, none⟩ = some (.slice (some ad497) l0_1.length c0_1) ∧ w'.cell? ⟨gb477, 2, none⟩ = some (.int .i64 a0_2) ∧ w'.cell? ⟨gb477, 3, none⟩ = some (.bool a0_3) ∧ w'.cell? (ad497.add ((x4_2).toNat * 2)) = some (.int .i64 ((rd_T60 l0_1 x4_2).f0)) ∧ w'.cell? ⟨(ad497.add ((x4_2).toNat * 2)).block, (ad497.add ((x4_2).toNat * 2)).off + 1, none⟩ = some (.slice A497_1 ((rd_T60 l0_1 x4_2).f1).length c497_1) ∧ w'.cell? (ad497.add ((x4_2).toNat * 2)) = some (.int .i64 ((rd_T60 l0_1 x4_2).f0)) ∧ w'.cell? ⟨(ad497.add ((x4_2).toNat * 2)).block, (ad497.add ((x4_2).toNat * 2)).off + 1, none⟩ = some (.slice A497_1 ((rd_T60 l0_1 x4_2).f1).length c497_1)) (ds := [16]) #[false, false, false, false, false, false, false, false, false, false, false, false, false, false, false, false, false] (by kernel_rfl) rfl rfl ⟨(blk_cell BK496.out 0).trans rfl, (blk_cell BK496.out 1).trans rfl, (blk_cell BK496.out 2).trans rfl, (blk_cell BK496.out 3).trans rfl, (blk_cell BK477.out 0).trans rfl, (blk_cell BK477.out 1).trans rfl, (blk_cell BK477.out 2).trans rfl, (blk_cell BK477.out 3).trans rfl, ((HB.out.cell (World.block_lt_of_cell? w _ hw497_0)).trans hw497_0), ((HB.out.cell (World.block_lt_of_cell? w _ hw497_1)).trans hw497_1), ((HB.out.cell (World.block_lt_of_cell? w _ hw498_0)).trans hw498_0), ((HB.out.cell (World.block_lt_of_cell? w _ hw498_1)).trans hw498_1)⟩ (fun hHeld => ?_); refine with_tabW spec_DiskSync.tab8 spec_DiskSync.bits8 (fun HT_ HW_ => ?_)
                  generalize wr.drew = w49 at HO_497000 HO_497001 BK477 BK478 BK496 HB HR497_1 HR498_1 hx497_0 hx497_1 hx498_0 hx498_1 hHeld ⊢
                  refine pure_ (i := 0) (N := some 26) (v := ?_) (a' := ?_) #[true, false, false, false, false, false, false, false, false, false, false, false, false, false, false, false, false] rfl rfl (any_of HT_.out (by kernel_rfl)) (fun _ _ _ h => h) (Or.inl ⟨by rfl, ?_⟩) ?_ ?_
                  rotate_left
                  · intro w'
                    go_simp
                    with_reducible rfl
                  rotate_left
                  · simp only [Act.put, List.setIfInBounds_toArray, List.set_cons_zero, List.set_cons_succ, i64_w, i32_w]
                    rfl
                  refine pure_ (i := 2) (N := some 28) (v := ?_) (a' := ?_) #[true, false, true, false, false, false, false, false, false, false, false, false, false, false, false, false, false] rfl rfl (any_of HT_.out (by kernel_rfl)) (fun _ _ _ h => h) (Or.inl ⟨by rfl, ?_⟩) ?_ ?_
                  rotate_left
                  · intro w'
                    go_simp
                    with_reducible rfl
                  rotate_left
                  · simp only [Act.put, List.setIfInBounds_toArray, List.set_cons_zero, List.set_cons_succ, i64_w, i32_w]
                    rfl
                  refine pure_ (i := 4) (N := some 30) (v := ?_) (a' := ?_) #[true, false, true, false, true, false, false, false, false, false, false, false, false, false, false, false, false] rfl rfl (any_of HT_.out (by kernel_rfl)) (fun _ _ _ h => h) (Or.inl ⟨by rfl, ?_⟩) ?_ ?_
                  rotate_left
                  · intro w'
                    go_simp
                    with_reducible rfl
                  rotate_left
                  · simp only [Act.put, List.setIfInBounds_toArray, List.set_cons_zero, List.set_cons_succ, i64_w, i32_w]
                    rfl
                  refine pure_ (i := 8) (N := some 34) (v := ?_) (a' := ?_) #[true, false, true, false, true, false, false, false, true, false, false, false, false, false, false, false, false] rfl rfl (any_of HT_.out (by kernel_rfl)) (fun _ _ _ h => h) (Or.inl ⟨by rfl, ?_⟩) ?_ ?_
                  rotate_left
                  · intro w'
                    go_simp
                    with_reducible rfl
                  rotate_left
                  · simp only [Act.put, List.setIfInBounds_toArray, List.set_cons_zero, List.set_cons_succ, i64_w, i32_w]
                    rfl
                  refine pure_ (i := 10) (N := some 36) (v := ?_) (a' := ?_) #[true, false, true, false, true, false, false, false, true, false, true, false, false, false, false, false, false] rfl rfl (any_of HT_.out (by kernel_rfl)) (fun _ _ _ h => h) (Or.inl ⟨by rfl, ?_⟩) ?_ ?_
                  rotate_left
                  · intro w'
                    go_simp
                    with_reducible rfl
                  rotate_left
                  · simp only [Act.put, List.setIfInBounds_toArray, List.set_cons_zero, List.set_cons_succ, i64_w, i32_w]
                    rfl
                  refine take_ (i := 1) (N := some 27) (v := ?_) (a' := ?_) #[true, true, true, false, true, false, false, false, true, false, true, false, false, false, false, false, false] rfl rfl (take_ofW HT_.out HW_.out (by kernel_rfl)) (fun _ _ _ h => h) (Or.inl ⟨by rfl, ?_⟩) hHeld ?_ ?_
                  rotate_left
                  · rintro w' ⟨s0, s1, s2, s3, s4, s5, s6, s7, s8, s9, s10, s11⟩
                    go_simp
                    with_reducible rfl
                  rotate_left
                  · simp only [Act.put, List.setIfInBounds_toArray, List.set_cons_zero, List.set_cons_succ, i64_w, i32_w]
                    rfl
                  refine take_ (i := 3) (N := some 29) (v := ?_) (a' := ?_) #[true, true, true, true, true, false, false, false, true, false, true, false, false, false, false, false, false] rfl rfl (take_ofW HT_.out HW_.out (by kernel_rfl)) (fun _ _ _ h => h) (Or.inl ⟨by rfl, ?_⟩) hHeld ?_ ?_
                  rotate_left
                  · rintro w' ⟨s0, s1, s2, s3, s4, s5, s6, s7, s8, s9, s10, s11⟩
                    go_simp
                    with_reducible rfl
                  rotate_left
                  · simp only [Act.put, List.setIfInBounds_toArray, List.set_cons_zero, List.set_cons_succ, i64_w, i32_w]
                    rfl
                  refine pure_ (i := 5) (N := some 31) (v := ?_) (a' := ?_) #[true, true, true, true, true, true, false, false, true, false, true, false, false, false, false, false, false] rfl rfl (any_of HT_.out (by kernel_rfl)) (fun _ _ _ h => h) (Or.inl ⟨by rfl, ?_⟩) ?_ ?_
                  rotate_left
                  · intro w'
                    go_simp
                    with_reducible rfl
                  rotate_left
                  · simp only [Act.put, List.setIfInBounds_toArray, List.set_cons_zero, List.set_cons_succ, i64_w, i32_w]
                    rfl
                  refine pure_ (i := 6) (N := some 32) (v := ?_) (a' := ?_) #[true, true, true, true, true, true, true, false, true, false, true, false, false, false, false, false, false] rfl rfl (any_of HT_.out (by kernel_rfl)) (fun _ _ _ h => h) (Or.inl ⟨by rfl, ?_⟩) ?_ ?_
                  rotate_left
                  · intro w'
                    go_simp
                    with_reducible rfl
                  rotate_left
                  · simp only [Act.put, List.setIfInBounds_toArray, List.set_cons_zero, List.set_cons_succ, i64_w, i32_w]
                    rfl
                  refine take_ (i := 7) (N := some 33) (v := ?_) (a' := ?_) #[true, true, true, true, true, true, true, true, true, false, true, false, false, false, false, false, false] rfl rfl (take_ofW HT_.out HW_.out (by kernel_rfl)) (fun _ _ _ h => h) (Or.inl ⟨by rfl, ?_⟩) hHeld ?_ ?_
                  rotate_left
                  · rintro w' ⟨s0, s1, s2, s3, s4, s5, s6, s7, s8, s9, s10, s11⟩
                    go_simp
                    with_reducible rfl
                  rotate_left
                  · simp only [Act.put, List.setIfInBounds_toArray, List.set_cons_zero, List.set_cons_succ, i64_w, i32_w]
                    rfl
                  refine take_ (i := 9) (N := some 35) (v := ?_) (a' := ?_) #[true, true, true, true, true, true, true, true, true, true, true, false, false, false, false, false, false] rfl rfl (take_ofW HT_.out HW_.out (by kernel_rfl)) (fun _ _ _ h => h) (Or.inl ⟨by rfl, ?_⟩) hHeld ?_ ?_
                  rotate_left
                  · rintro w' ⟨s0, s1, s2, s3, s4, s5, s6, s7, s8, s9, s10, s11⟩
                    go_simp
                    with_reducible rfl
                  rotate_left
                  · simp only [Act.put, List.setIfInBounds_toArray, List.set_cons_zero, List.set_cons_succ, i64_w, i32_w]
                    rfl
                  refine pure_ (i := 11) (N := some 37) (v := ?_) (a' := ?_) #[true, true, true, true, true, true, true, true, true, true, true, true, false, false, false, false, false] rfl rfl (any_of HT_.out (by kernel_rfl)) (fun _ _ _ h => h) (Or.inl ⟨by rfl, ?_⟩) ?_ ?_
                  rotate_left
                  · intro w'
                    go_simp
                    with_reducible rfl
                  rotate_left
                  · simp only [Act.put, List.setIfInBounds_toArray, List.set_cons_zero, List.set_cons_succ, i64_w, i32_w]
                    rfl
                  refine pure_ (i := 12) (N := some 38) (v := ?_) (a' := ?_) #[true, true, true, true, true, true, true, true, true, true, true, true, true, false, false, false, false] rfl rfl (any_of HT_.out (by kernel_rfl)) (fun _ _ _ h => h) (Or.inl ⟨by rfl, ?_⟩) ?_ ?_
                  rotate_left
                  · intro w'
                    go_simp
                    with_reducible rfl
                  rotate_left
                  · simp only [Act.put, List.setIfInBounds_toArray, List.set_cons_zero, List.set_cons_succ, i64_w, i32_w]
                    rfl
                  refine take_ (i := 13) (N := some 39) (v := ?_) (a' := ?_) #[true, true, true, true, true, true, true, true, true, true, true, true, true, true, false, false, false] rfl rfl (take_ofW HT_.out HW_.out (by kernel_rfl)) (fun _ _ _ h => h) (Or.inl ⟨by rfl, ?_⟩) hHeld ?_ ?_
                  rotate_left
                  · rintro w' ⟨s0, s1, s2, s3, s4, s5, s6, s7, s8, s9, s10, s11⟩
                    go_simp
                    with_reducible rfl
                  rotate_left
                  · simp only [Act.put, List.setIfInBounds_toArray, List.set_cons_zero, List.set_cons_succ, i64_w, i32_w]
                    rfl
                  refine one_ (i := 14) (N := some 40) #[true, true, true, true, true, true, true, true, true, true, true, true, true, true, true, false, false] rfl rfl (one_of HT_.out (by kernel_rfl)) (by decide) (fun K hK => ?_)
                  refine goes_ Try.func53 (by kernel_rfl) rfl #[.slice Ao50 x497000_2.length co50, .int .i64 ((rd_T60 l0_1 x4_2).f0), .slice A497_1 ((rd_T60 l0_1 x4_2).f1).length c497_1] (by rfl) rfl rfl (by (try simp only [List.map_toArray, List.map_cons, List.map_nil]); first | done | rfl | (simp only [List.length_drop, List.length_take]; rfl)) ?_
                  with_reducible refine (spec_l1Over.calls _ _ x497000_2 ((rd_T60 l0_1 x4_2).f0) _ _ ((rd_T60 l0_1 x4_2).f1) t499 _ ?side1 ?side2 ?side3 ?side4 A45.out).mono ?_
                  (case side1 => repeat (first | exact (Kd.R_reads' HO_497000.out).2.2 | (with_reducible refine Kd.C_alloc ?_ _) | (with_reducible refine Kd.C_drewN ?_ _) | (with_reducible refine Kd.C_drew ?_)))
                  (case side2 => exact (Kd.R_reads' HO_497000.out).2.1)
                  (case side3 => repeat (first | exact (Kd.C_below HR498_1.out HB.out) | (with_reducible refine Kd.C_alloc ?_ _) | (with_reducible refine Kd.C_drewN ?_ _) | (with_reducible refine Kd.C_drew ?_)))
                  (case side4 => exact HC498_1.out)
                  rintro e w51 ⟨v500, rfl, ho0, hb⟩
                  refine ⟨_, rfl, ?_⟩
                  have n0_ := Aside0.mk (Kd.R_elder' (by (with_reducible repeat (first | apply Kd.R_alloc | apply Kd.R_drewN | apply Kd.R_drew)); exact HO_497000.out) (Kd.R_base ho0) hb)
                  have n1_ := Aside0.mk (Kd.S_elder' (by (with_reducible repeat (first | apply Kd.S_alloc | apply Kd.S_drewN | apply Kd.S_drew)); exact HO_497001.out) (Kd.R_base ho0) hb)
                  have n2_ := Aside0.mk (Kd.R_lower (Kd.R_new' ho0 (Kd.R_lt (by (with_reducible repeat (first | apply Kd.R_alloc | apply Kd.R_drewN | apply Kd.R_drew)); exact HO_497000.out))) (below_size (by repeat (first | (with_reducible first | exact HB.out | apply below_alloc | apply pw_below_drewN | apply below_drew1 | refine below_set ?_ GE477.out | refine below_set ?_ GE478.out | refine below_set ?_ GE496.out) | exact HB.out))))
                  have n3_ := Aside0.mk (blk_below (g := gb477) (o := .cells #[.slice A0_0 l0_0.length c0_0, .slice (some ad497) l0_1.length c0_1, .int .i64 a0_2, .bool a0_3] 25 (0, 0)) (by (with_reducible repeat (first | refine blk_drewN ?_ _ | refine blk_drew ?_ | refine blk_alloc ?_ _)); exact BK477.out) hb)
                  have n4_ := Aside0.mk (blk_below (g := gb478) (o := .cells #[.slice none 0 0, .slice none 0 0, .int .i64 0, .bool false] 25 (0, 0)) (by (with_reducible repeat (first | refine blk_drewN ?_ _ | refine blk_drew ?_ | refine blk_alloc ?_ _)); exact BK478.out) hb)
                  have n5_ := Aside0.mk (blk_below (g := gb496) (o := .cells #[.slice Ao50 x497000_2.length co50, .slice Ao42 t491.length co42, .int .i64 t494, .bool false] 25 (0, 0)) (by (with_reducible repeat (first | refine blk_drewN ?_ _ | refine blk_drew ?_ | refine blk_alloc ?_ _)); exact BK496.out) hb)
                  have n6_ := Aside0.mk (below_step (by repeat (first | (with_reducible first | exact HB.out | apply below_alloc | apply pw_below_drewN | apply below_drew1 | refine below_set ?_ GE477.out | refine below_set ?_ GE478.out | refine below_set ?_ GE496.out) | exact HB.out)) hb)
                  clear HO_497000
                  clear HO_497001
                  clear BK477
                  clear BK478
                  clear BK496
                  clear HB
                  have HO_497000 := n0_
                  have HO_497001 := n1_
                  have HO501 := n2_
                  have BK477 := n3_
                  have BK478 := n4_
                  have BK496 := n5_
                  have HB := n6_
                  clear n0_ n1_ n2_ n3_ n4_ n5_ n6_
                  (try clear hb)
                  (try clear hb2)
                  (try clear hk)
                  (try clear hi)
                  (try clear ho0)
                  obtain ⟨Ao52, co52, eo52⟩ := Kd.R_slice HO501.out
                  (first | subst eo52 | (injection eo52 with f1_ f2_ f3_; have f4_ := f1_.symm; have f5_ := f3_.symm; clear f1_ f2_ f3_; subst f4_; subst f5_))
                  refine hK.out _ _ ⟨(blk_cell BK496.out 0).trans rfl, (blk_cell BK496.out 1).trans rfl, (blk_cell BK496.out 2).trans rfl, (blk_cell BK496.out 3).trans rfl, (blk_cell BK477.out 0).trans rfl, (blk_cell BK477.out 1).trans rfl, (blk_cell BK477.out 2).trans rfl, (blk_cell BK477.out 3).trans rfl, ((HB.out.cell (World.block_lt_of_cell? w _ hw497_0)).trans hw497_0), ((HB.out.cell (World.block_lt_of_cell? w _ hw497_1)).trans hw497_1), ((HB.out.cell (World.block_lt_of_cell? w _ hw498_0)).trans hw498_0), ((HB.out.cell (World.block_lt_of_cell? w _ hw498_1)).trans hw498_1)⟩ (fun hHeld => ?_)
                  clear hK K
                  refine norm_ (a' := ?_) ?_ ?_
                  rotate_left
                  · show Act.put _ (some 40) _ = _
                    simp only [Act.put, List.setIfInBounds_toArray, List.set_cons_zero, List.set_cons_succ, i64_w, i32_w]
                    rfl
                  refine pure_ (i := 15) (N := some 41) (v := ?_) (a' := ?_) #[true, true, true, true, true, true, true, true, true, true, true, true, true, true, true, true, false] rfl rfl (any_of HT_.out (by kernel_rfl)) (fun _ _ _ h => h) (Or.inl ⟨by rfl, ?_⟩) ?_ ?_
                  rotate_left
                  · intro w'
                    go_simp
                    with_reducible rfl
                  rotate_left
                  · simp only [Act.put, List.setIfInBounds_toArray, List.set_cons_zero, List.set_cons_succ, i64_w, i32_w]
                    rfl
                  refine last_ (i := 16) (N := none) #[true, true, true, true, true, true, true, true, true, true, true, true, true, true, true, true, true] rfl rfl (one_of HT_.out (by kernel_rfl)) (by decide) (fun K hK => ?_)
                  have hs53 : w51.cell? ⟨gb496, 0, none⟩ = some (.slice Ao50 x497000_2.length co50) := (blk_cell BK496.out 0).trans rfl
                  have hfs53 := blk_frozen BK496.out 0
                  have hns53_0 := NB477_496.out
                  have hns53_1 := NB478_496.out
                  have hms53_0 := NB496_477.out
                  have hms53_1 := NB496_478.out
                  refine skip_ (w1 := ?_) (by rfl) rfl ?_ ?_
                  rotate_left
                  · go_simp
                    rfl
                  refine hK.out _ _ ?_
                  clear hK K
                  refine done_ (done_of HT_.out (by kernel_rfl)) ?_
                  try go_wp2
                  go_roundg k2
                  case measure => have := HJ1.out; have := HK2.out; omega
                  case rel => exact ⟨(wrap64 (x4_2 + 1)), (t499), (.slice Ao52 t499.length co52), (by first | rfl | (simp; done) | (simp [*]; done)), H', ⟨by have := HJ1.out; have := HK2.out; omega⟩, ⟨by (with_reducible repeat (first | apply Kd.R_alloc | apply Kd.R_drewN | apply Kd.R_drew)); exact Kd.R_mono (Kd.R_far (p := ⟨gb496, 0, none⟩) (Kd.R_types HO501.out BK496.out (by decide)) (fun _ hk => hk.2) (.slice Ao52 t499.length co52)) (fun _ hk => trivial)⟩, ⟨by (with_reducible repeat (first | apply Kd.S_alloc | apply Kd.S_drewN | apply Kd.S_drew)); exact Kd.S_mono (Kd.S_far (p := ⟨gb496, 0, none⟩) (Kd.S_types HO_497001.out BK496.out (by decide)) (fun _ hk => hk.2) (.slice Ao52 t499.length co52)) (fun _ hk => hk.1.2)⟩, ⟨by (with_reducible repeat (first | refine blk_drewN ?_ _ | refine blk_drew ?_ | refine blk_alloc ?_ _)); refine blk_far ?_ NB477_496.out _; (with_reducible repeat (first | refine blk_drewN ?_ _ | refine blk_drew ?_ | refine blk_alloc ?_ _)); exact BK477.out⟩, ⟨by (with_reducible repeat (first | refine blk_drewN ?_ _ | refine blk_drew ?_ | refine blk_alloc ?_ _)); refine blk_far ?_ NB478_496.out _; (with_reducible repeat (first | refine blk_drewN ?_ _ | refine blk_drew ?_ | refine blk_alloc ?_ _)); exact BK478.out⟩, ⟨by (with_reducible repeat (first | refine blk_drewN ?_ _ | refine blk_drew ?_ | refine blk_alloc ?_ _)); refine blk_put (cs := #[.slice Ao50 x497000_2.length co50, .slice Ao42 t491.length co42, .int .i64 t494, .bool false]) ?_ 0 _ rfl; (with_reducible repeat (first | refine blk_drewN ?_ _ | refine blk_drew ?_ | refine blk_alloc ?_ _)); exact BK496.out⟩, ⟨by repeat (first | (with_reducible first | exact HB.out | apply below_alloc | apply pw_below_drewN | apply below_drew1 | refine below_set ?_ GE477.out | refine below_set ?_ GE478.out | refine below_set ?_ GE496.out) | exact HB.out)⟩⟩
                · rw [if_neg c44] at H
                  exact absurd H (by simp)
              · rw [if_neg c43] at H
                have c43b0 : decide (x4_2 < (l0_1.length : Int)) = false := decide_eq_false c43
                clear c43
                obtain ⟨y502, hy502⟩ : ∃ y_ : List (S60), y_ = (([] : List (S60))) := ⟨_, rfl⟩
                replace H : (some (x497000_2, y502, t494, false)) = some (r1, r2, r3, r4) := by first | (rw [hy502]; with_reducible exact H) | (have H2_ := (Option.bind_some _ _).symm.trans H; rw [hy502]; with_reducible exact H2_) | (have H2_ := (Option.bind_some _ _).symm.trans H; with_reducible exact H2_) | with_reducible exact H | (rw [hy502]; exact H) | exact H
                have Ny502 := Aside0.mk hy502
                clear hy502
                simp only [Option.some.injEq, Prod.mk.injEq] at H
                obtain ⟨rfl, rfl, rfl, rfl⟩ := H
                have hnb54 := NB477_478.out
                have hnc54 := NB478_477.out
                have hnb55 := NB477_496.out
                have hnc55 := NB496_477.out
                have hcz56_0 : wr.cell? ⟨gb477, 0, none⟩ = some (.slice A0_0 l0_0.length c0_0) := (blk_cell BK477.out 0).trans rfl
                have hcz56_1 : wr.cell? ⟨gb477, 1, none⟩ = some (.slice A0_1 l0_1.length c0_1) := (blk_cell BK477.out 1).trans rfl
                have hcz56_2 : wr.cell? ⟨gb477, 2, none⟩ = some (.int .i64 a0_2) := (blk_cell BK477.out 2).trans rfl
                have hcz56_3 : wr.cell? ⟨gb477, 3, none⟩ = some (.bool a0_3) := (blk_cell BK477.out 3).trans rfl
                have hfz56_0 := blk_frozen BK477.out 0
                have hfz56_1 := blk_frozen BK477.out 1
                have hfz56_2 := blk_frozen BK477.out 2
                have hfz56_3 := blk_frozen BK477.out 3
                go_wp2_with (first | ((with_reducible refine gate_dst (N := 42) rfl ?_); refine Kd.S_lit k60 _ 60 ?hg (N := 42) ?hd (xs := ([] : List (S60))) (inner := []) (ok := fun _ => True) (okp := fun _ => True) ?hr ?hp (fun _ hk => hk) trivial (Below.refl _ _) (Nat.le_refl _) (by simp) ?_; (case hd => rfl); (case hg => rfl); (case hr => first | (go_simp; done) | (go_simp; rfl)); (case hp => exact (Reps.none _ _)); intro v503 w57 ho58 hb hg_ hnew_; clear hg_ hnew_; (first | rw [← Ny502.out] at ho58 | (simp only [Int.reduceToNat] at ho58; rw [← Ny502.out] at ho58)); have n0_ := Aside0.mk (Kd.R_below (by (with_reducible repeat (first | apply Kd.R_alloc | apply Kd.R_drewN | apply Kd.R_drew)); exact HO_497000.out) hb); have n1_ := Aside0.mk (Kd.S_elder' (by (with_reducible repeat (first | apply Kd.S_alloc | apply Kd.S_drewN | apply Kd.S_drew)); exact HO_497001.out) (Kd.S_base ho58) hb); have n2_ := Aside0.mk (Kd.S_lower (Kd.S_new' (Kd.S_new' ho58 (Kd.R_lt (by (with_reducible repeat (first | apply Kd.R_alloc | apply Kd.R_drewN | apply Kd.R_drew)); exact HO_497000.out))) (Kd.S_lt (by (with_reducible repeat (first | apply Kd.S_alloc | apply Kd.S_drewN | apply Kd.S_drew)); exact HO_497001.out))) (below_size (by repeat (first | (with_reducible first | exact HB.out | apply below_alloc | apply pw_below_drewN | apply below_drew1 | refine below_set ?_ GE477.out | refine below_set ?_ GE478.out | refine below_set ?_ GE496.out) | exact HB.out)))); have n3_ := Aside0.mk (blk_below (g := gb477) (o := .cells #[.slice A0_0 l0_0.length c0_0, .slice A0_1 l0_1.length c0_1, .int .i64 a0_2, .bool a0_3] 25 (0, 0)) (by (with_reducible repeat (first | refine blk_drewN ?_ _ | refine blk_drew ?_ | refine blk_alloc ?_ _)); exact BK477.out) hb); have n4_ := Aside0.mk (blk_below (g := gb478) (o := .cells #[.slice none 0 0, .slice none 0 0, .int .i64 0, .bool false] 25 (0, 0)) (by (with_reducible repeat (first | refine blk_drewN ?_ _ | refine blk_drew ?_ | refine blk_alloc ?_ _)); exact BK478.out) hb); have n5_ := Aside0.mk (blk_below (g := gb496) (o := .cells #[u497000, .slice Ao42 t491.length co42, .int .i64 t494, .bool false] 25 (0, 0)) (by (with_reducible repeat (first | refine blk_drewN ?_ _ | refine blk_drew ?_ | refine blk_alloc ?_ _)); exact BK496.out) hb); have n6_ := Aside0.mk (below_step (by repeat (first | (with_reducible first | exact HB.out | apply below_alloc | apply pw_below_drewN | apply below_drew1 | refine below_set ?_ GE477.out | refine below_set ?_ GE478.out | refine below_set ?_ GE496.out) | exact HB.out)) hb); clear HO_497000; clear HO_497001; clear BK477; clear BK478; clear BK496; clear HB; have HO_497000 := n0_; have HO_497001 := n1_; have HO504 := n2_; have BK477 := n3_; have BK478 := n4_; have BK496 := n5_; have HB := n6_; clear n0_ n1_ n2_ n3_ n4_ n5_ n6_; clear hb ho58; obtain ⟨Ao59, co59, eo59⟩ := Kd.S_slice HO504.out; subst eo59; have hnb60 := NB496_478.out; have hnc60 := NB478_496.out; have hcz61_0 : w57.cell? ⟨gb496, 0, none⟩ = some (u497000) := (blk_cell BK496.out 0).trans rfl; have hcz61_1 : w57.cell? ⟨gb496, 1, none⟩ = some (.slice Ao42 t491.length co42) := (blk_cell BK496.out 1).trans rfl; have hcz61_2 : w57.cell? ⟨gb496, 2, none⟩ = some (.int .i64 t494) := (blk_cell BK496.out 2).trans rfl; have hcz61_3 : w57.cell? ⟨gb496, 3, none⟩ = some (.bool false) := (blk_cell BK496.out 3).trans rfl; have hfz61_0 := blk_frozen BK496.out 0; have hfz61_1 := blk_frozen BK496.out 1; have hfz61_2 := blk_frozen BK496.out 2; have hfz61_3 := blk_frozen BK496.out 3; obtain ⟨Ao62, co62, eo62⟩ := Kd.R_slice HO_497000.out; subst eo62; have hcz63_0 : w57.cell? ⟨gb478, 0, none⟩ = some (.slice none 0 0) := (blk_cell BK478.out 0).trans rfl; have hcz63_1 : w57.cell? ⟨gb478, 1, none⟩ = some (.slice none 0 0) := (blk_cell BK478.out 1).trans rfl; have hcz63_2 : w57.cell? ⟨gb478, 2, none⟩ = some (.int .i64 0) := (blk_cell BK478.out 2).trans rfl; have hcz63_3 : w57.cell? ⟨gb478, 3, none⟩ = some (.bool false) := (blk_cell BK478.out 3).trans rfl; have hfz63_0 := blk_frozen BK478.out 0; have hfz63_1 := blk_frozen BK478.out 1; have hfz63_2 := blk_frozen BK478.out 2; have hfz63_3 := blk_frozen BK478.out 3))
                refine bodyPost_ret (results_cell_row rfl _ _ gb478 25 #[.slice Ao62 x497000_2.length co62, .slice Ao59 y502.length co59, .int .i64 t494, .bool false] (0, 0) _ rfl (by (with_reducible repeat (first | refine blk_drewN ?_ _ | refine blk_drew ?_ | refine blk_alloc ?_ _)); refine blk_put (cs := #[.slice Ao62 x497000_2.length co62, .slice Ao59 y502.length co59, .int .i64 t494, .bool false]) ?_ 3 _ rfl; (with_reducible repeat (first | refine blk_drewN ?_ _ | refine blk_drew ?_ | refine blk_alloc ?_ _)); refine blk_put (cs := #[.slice Ao62 x497000_2.length co62, .slice Ao59 y502.length co59, .int .i64 0, .bool false]) ?_ 2 _ rfl; (with_reducible repeat (first | refine blk_drewN ?_ _ | refine blk_drew ?_ | refine blk_alloc ?_ _)); refine blk_put (cs := #[.slice Ao62 x497000_2.length co62, .slice none 0 0, .int .i64 0, .bool false]) ?_ 1 _ rfl; (with_reducible repeat (first | refine blk_drewN ?_ _ | refine blk_drew ?_ | refine blk_alloc ?_ _)); refine blk_put (cs := #[.slice none 0 0, .slice none 0 0, .int .i64 0, .bool false]) ?_ 0 _ rfl; (with_reducible repeat (first | refine blk_drewN ?_ _ | refine blk_drew ?_ | refine blk_alloc ?_ _)); refine blk_far ?_ NB478_496.out _; (with_reducible repeat (first | refine blk_drewN ?_ _ | refine blk_drew ?_ | refine blk_alloc ?_ _)); exact BK478.out) Try.underlying25 rfl (by kernel_rfl)) rfl ?_
                exact ⟨_, _, by first | rfl | (simp [errW_none, errW_some] <;> rfl) | (simp [*, errW_none, errW_some] <;> rfl), by (with_reducible repeat (first | apply Kd.R_alloc | apply Kd.R_drewN | apply Kd.R_drew)); exact Kd.R_mono (Kd.R_far (p := ⟨gb478, 3, none⟩) (Kd.R_far (p := ⟨gb478, 2, none⟩) (Kd.R_far (p := ⟨gb478, 1, none⟩) (Kd.R_far (p := ⟨gb478, 0, none⟩) (Kd.R_far (p := ⟨gb496, 1, none⟩) (Kd.R_types (Kd.R_types HO_497000.out BK496.out (by decide)) BK478.out (by decide)) (fun _ hk => hk.1.2) (.slice Ao59 y502.length co59)) (fun _ hk => hk.2) (.slice Ao62 x497000_2.length co62)) (fun _ hk => hk.2) (.slice Ao59 y502.length co59)) (fun _ hk => hk.2) (.int .i64 t494)) (fun _ hk => hk.2) (.bool false)) (fun _ hk => trivial), by (with_reducible repeat (first | apply Kd.S_alloc | apply Kd.S_drewN | apply Kd.S_drew)); exact Kd.S_mono (Kd.S_far (p := ⟨gb478, 3, none⟩) (Kd.S_far (p := ⟨gb478, 2, none⟩) (Kd.S_far (p := ⟨gb478, 1, none⟩) (Kd.S_far (p := ⟨gb478, 0, none⟩) (Kd.S_far (p := ⟨gb496, 1, none⟩) (Kd.S_types (Kd.S_types HO504.out BK496.out (by decide)) BK478.out (by decide)) (fun _ hk => hk.1.2) (.slice Ao59 y502.length co59)) (fun _ hk => hk.2) (.slice Ao62 x497000_2.length co62)) (fun _ hk => hk.2) (.slice Ao59 y502.length co59)) (fun _ hk => hk.2) (.int .i64 t494)) (fun _ hk => hk.2) (.bool false)) (fun _ hk => hk.1.1.1.2), by repeat (first | (with_reducible first | exact HB.out | apply below_alloc | apply pw_below_drewN | apply below_drew1 | refine below_set ?_ GE477.out | refine below_set ?_ GE478.out | refine below_set ?_ GE496.out) | exact HB.out)⟩

/-! ### L_eqByteS: a text by hand -/
-- needs laws_eqByteS.f
theorem eqByteS_loop (l : List Int) (hL : l.length ≤ 281474976710656) : ∀ (d i : Nat), i + d = l.length → Ev (fun k => laws_eqByteS.l0 k l l (i : Int)) true
  | 0, i, hd => Ev.step (fun k => by simp only [laws_eqByteS.l0]; rw [if_neg (by omega)]) (Ev.now _)
  | d + 1, i, hd => 
    Ev.step (fun k => by simp only [laws_eqByteS.l0]; rw [if_pos (by omega), if_pos (by omega), if_pos (by omega), if_true, show wrap64 ((i : Int) + 1) = ((i + 1 : Nat) : Int) by unfold wrap64; omega])
      (eqByteS_loop l hL d (i + 1) (by omega))
theorem eqByteS_ev (l : List Int) (hL : l.length ≤ 281474976710656) : Ev (fun k => laws_eqByteS.f k l l) true :=
  Ev.congr (fun k => by unfold laws_eqByteS.f; rw [if_pos rfl]; rfl) (eqByteS_loop l hL l.length 0 (by omega))

/-! ### L_toByteS: a text by hand -/
-- needs laws_toByteS.f
theorem toByteS_loop (l : List Int) (hL : l.length ≤ 281474976710656) : ∀ (d i : Nat) (x : List Int), i + d = l.length → x.length = l.length → (∀ j, j < i → x[j]? = l[j]?) →
    Ev (fun k => laws_toByteS.l0 k l x (i : Int)) l
  | 0, i, x, hd, hx, hj => by
    obtain rfl : x = l := List.ext_getElem? fun j => by
      by_cases h : j < i
      · exact hj j h
      · rw [List.getElem?_eq_none (by omega), List.getElem?_eq_none (by omega)]
    exact Ev.step (fun k => by simp only [laws_toByteS.l0]; rw [if_neg (by omega)]) (Ev.now _)
  | d + 1, i, x, hd, hx, hj => by
    refine Ev.step (fun k => by simp only [laws_toByteS.l0]; rw [if_pos (by omega), if_pos (by omega), if_pos (by omega), Int.toNat_natCast, show wrap64 ((i : Int) + 1) = ((i + 1 : Nat) : Int) by unfold wrap64; omega])
      (toByteS_loop l hL d (i + 1) (x.set i (rd l i)) (by omega) (by simpa using hx) fun j hlt => ?_)
    rcases Nat.lt_or_ge j i with h | h
    · rw [List.getElem?_set_ne (by omega)]; exact hj j h
    · obtain rfl : j = i := by omega
      rw [List.getElem?_set_self (by omega)]
      simp [rd, List.getD_eq_getElem?_getD, List.getElem?_eq_getElem (show j < l.length by omega)]
theorem toByteS_ev (l : List Int) (hL : l.length ≤ 281474976710656) : Ev (fun k => laws_toByteS.f k l) l := by
  refine Ev.congr (fun k => ?_) (toByteS_loop l hL l.length 0 (List.replicate l.length 0) (by omega) (by simp) (fun j h => by omega))
  unfold laws_toByteS.f
  rw [if_pos (by omega), Int.toNat_natCast, if_pos hL]
  rfl

/-! ### L_evDisk: a text by hand -/
-- needs laws_szPendS.f laws_toPendS.f laws_eqPendS.f
def cvPend (l : List S78) : List S60 := l.map fun x => ⟨x.f0, x.f1⟩
def okPendS (l : List S60) : Prop := l.length ≤ 1048576 ∧ ∀ x ∈ l, x.f1.length ≤ 1048576
theorem szByteS_at (l : List Int) (a : Int) (h0 : 0 ≤ a) (h1 : a ≤ 1048576) (hL : l.length ≤ maxLen) : ∃ r, laws_szByteS.f l a = some r ∧ r ≤ a ∧ (0 ≤ r → l.length ≤ 1048576) := by
  unfold maxLen at hL
  have e : wrap64 (a - (l.length : Int)) = a - l.length := by unfold wrap64; omega
  unfold laws_szByteS.f
  rw [e]
  by_cases c : a - (l.length : Int) < 0
  · exact ⟨-1, by rw [if_pos c], by omega, by omega⟩
  · exact ⟨_, by rw [if_neg c], by omega, by omega⟩
theorem szPend_at (b : Int) (l : List Int) (a : Int) (h0 : 0 ≤ a) (h1 : a ≤ 1048576) (hL : l.length ≤ maxLen) : ∃ r, laws_szPend.f b l a = some r ∧ r ≤ a ∧ (0 ≤ r → l.length ≤ 1048576) := by
  obtain ⟨r, hr, h2, h3⟩ := szByteS_at l a h0 h1 hL
  unfold laws_szPend.f
  rw [hr]
  by_cases c : r < 0
  · exact ⟨-1, by simp [c], by omega, by omega⟩
  · exact ⟨r, by simp [c], h2, h3⟩
theorem szPendS_loop (l : List S78) (hL : l.length ≤ 1048576) (hF : ∀ x ∈ l, x.f1.length ≤ maxLen) : ∀ (d i : Nat) (a : Int), i + d = l.length → 0 ≤ a → a ≤ 1048576 → (∀ j, j < i → (l.getD j z78).f1.length ≤ 1048576) →
    ∃ r, Ev (fun k => laws_szPendS.l0 k l a (i : Int)) r ∧ r ≤ a ∧ (0 ≤ r → ∀ j, j < l.length → (l.getD j z78).f1.length ≤ 1048576)
  | 0, i, a, hd, h0, h1, hj => ⟨a, Ev.step (fun k => by simp only [laws_szPendS.l0]; rw [if_neg (by omega)]) (Ev.now _), by omega, fun _ j hlt => hj j (by omega)⟩
  | d + 1, i, a, hd, h0, h1, hj => by
    have hm : l.getD i z78 ∈ l := by
      rw [List.getD_eq_getElem?_getD, List.getElem?_eq_getElem (show i < l.length by omega)]
      exact List.getElem_mem _
    obtain ⟨r, hr, h2, h3⟩ := szPend_at (l.getD i z78).f0 (l.getD i z78).f1 a h0 h1 (hF _ hm)
    have hr' : laws_szPend.f (rd_T78 l (i : Int)).f0 (rd_T78 l (i : Int)).f1 a = some r := by unfold rd_T78; rw [Int.toNat_natCast]; exact hr
    by_cases c : r < 0
    · exact ⟨-1, Ev.step (fun k => by simp only [laws_szPendS.l0]; rw [if_pos (by omega), if_pos (by omega), hr']; simp only [Option.bind_some]; rw [if_pos c]) (Ev.now _), by omega, by omega⟩
    · obtain ⟨r2, he, h4, h5⟩ := szPendS_loop l hL hF d (i + 1) r (by omega) (by omega) (by omega) (fun j hlt => by
        rcases Nat.lt_or_ge j i with h | h
        · exact hj j h
        · obtain rfl : j = i := by omega
          exact h3 (by omega))
      exact ⟨r2, Ev.step (fun k => by simp only [laws_szPendS.l0]; rw [if_pos (by omega), if_pos (by omega), hr']; simp only [Option.bind_some]; rw [if_neg c, show wrap64 ((i : Int) + 1) = ((i + 1 : Nat) : Int) by unfold wrap64; omega]) he, by omega, h5⟩
theorem szPendS_ev (l : List S78) (a : Int) (h0 : 0 ≤ a) (h1 : a ≤ 1048576) (hL : l.length ≤ maxLen) (hF : ∀ x ∈ l, x.f1.length ≤ maxLen) :
    ∃ r, Ev (fun k => laws_szPendS.f k l a) r ∧ r ≤ a ∧ (0 ≤ r → l.length ≤ 1048576 ∧ ∀ x ∈ l, x.f1.length ≤ 1048576) := by
  unfold maxLen at hL
  have e : wrap64 (a - (l.length : Int)) = a - l.length := by unfold wrap64; omega
  by_cases c : a - (l.length : Int) < 0
  · exact ⟨-1, Ev.congr (fun k => by unfold laws_szPendS.f; rw [e, if_pos c]) (Ev.now _), by omega, by omega⟩
  · obtain ⟨r, he, h2, h3⟩ := szPendS_loop l (by omega) hF l.length 0 (a - l.length) (by omega) (by omega) (by omega) (fun j h => by omega)
    refine ⟨r, Ev.congr (fun k => by unfold laws_szPendS.f; rw [e, if_neg c]; rfl) he, by omega, fun h => ⟨by omega, fun x hx => ?_⟩⟩
    obtain ⟨j, hj, rfl⟩ := List.getElem_of_mem hx
    have := h3 h j hj
    rwa [List.getD_eq_getElem?_getD, List.getElem?_eq_getElem hj] at this
theorem szDisk_ev (l0 : List Int) (l1 : List S78) (a2 : Int) (a3 : Bool) (hL : l0.length ≤ maxLen) (hL1 : l1.length ≤ maxLen) (hF : ∀ x ∈ l1, x.f1.length ≤ maxLen) :
    ∃ r, Ev (fun k => laws_szDisk.f k l0 l1 a2 a3 1048576) r ∧ (0 ≤ r → l0.length ≤ 1048576 ∧ okPendS (cvPend l1)) := by
  obtain ⟨r, hr, h2, h3⟩ := szByteS_at l0 1048576 (by omega) (by omega) hL
  by_cases c : r < 0
  · exact ⟨-1, Ev.congr (fun k => by unfold laws_szDisk.f; rw [hr]; simp only [Option.bind_some]; rw [if_pos c]) (Ev.now _), by omega⟩
  · obtain ⟨q, hq, h4, h5⟩ := szPendS_ev l1 r (by omega) (by omega) hL1 hF
    by_cases c2 : q < 0
    · exact ⟨-1, Ev.congr (fun k => by unfold laws_szDisk.f; rw [hr]; simp only [Option.bind_some]; rw [if_neg c]) (Ev.bind hq (Ev.congr (fun k => by rw [if_pos c2]) (Ev.now _))), by omega⟩
    · refine ⟨q, Ev.congr (fun k => by unfold laws_szDisk.f; rw [hr]; simp only [Option.bind_some]; rw [if_neg c]) (Ev.bind hq (Ev.congr (fun k => by rw [if_neg c2]) (Ev.now _))), fun h => ⟨h3 (by omega), ?_⟩⟩
      obtain ⟨h6, h7⟩ := h5 (by omega)
      refine ⟨by simpa [cvPend] using h6, fun x hx => ?_⟩
      obtain ⟨y, hy, rfl⟩ := List.mem_map.1 hx
      exact h7 y hy
theorem toPendS_loop (l : List S78) (hL : okPendS (cvPend l)) : ∀ (d i : Nat) (x : List S60), i + d = l.length → x.length = l.length → (∀ j, j < i → x[j]? = (cvPend l)[j]?) →
    Ev (fun k => laws_toPendS.l0 k l x (i : Int)) (cvPend l)
  | 0, i, x, hd, hx, hj => by
    obtain rfl : x = cvPend l := List.ext_getElem? fun j => by
      by_cases h : j < i
      · exact hj j h
      · rw [List.getElem?_eq_none (by omega), List.getElem?_eq_none (by simp [cvPend]; omega)]
    exact Ev.step (fun k => by simp only [laws_toPendS.l0]; rw [if_neg (by omega)]) (Ev.now _)
  | d + 1, i, x, hd, hx, hj => by
    have hl : l.length ≤ 1048576 := by have := hL.1; simpa [cvPend] using this
    have hm : l.getD i z78 ∈ l := by
      rw [List.getD_eq_getElem?_getD, List.getElem?_eq_getElem (show i < l.length by omega)]
      exact List.getElem_mem _
    have he : Ev (fun k => laws_toPend.f k (rd_T78 l (i : Int)).f0 (rd_T78 l (i : Int)).f1) ((rd_T78 l (i : Int)).f0, (rd_T78 l (i : Int)).f1) := by
      have h2 : (l.getD i z78).f1.length ≤ 1048576 := hL.2 _ (List.mem_map.2 ⟨_, hm, rfl⟩)
      unfold laws_toPend.f rd_T78
      rw [Int.toNat_natCast]
      exact Ev.bind (toByteS_ev _ (by omega)) (Ev.now _)
    refine Ev.step (fun k => by simp only [laws_toPendS.l0]; rw [if_pos (by omega), if_pos (by omega)]) (Ev.bind he ?_)
    refine Ev.congr (fun k => by rw [if_pos (by omega), Int.toNat_natCast, show wrap64 ((i : Int) + 1) = ((i + 1 : Nat) : Int) by unfold wrap64; omega])
      (toPendS_loop l hL d (i + 1) (x.set i ⟨(rd_T78 l (i : Int)).f0, (rd_T78 l (i : Int)).f1⟩) (by omega) (by simpa using hx) fun j hlt => ?_)
    rcases Nat.lt_or_ge j i with h | h
    · rw [List.getElem?_set_ne (by omega)]; exact hj j h
    · obtain rfl : j = i := by omega
      rw [List.getElem?_set_self (by omega)]
      simp [rd_T78, cvPend, List.getD_eq_getElem?_getD, List.getElem?_eq_getElem (show j < l.length by omega)]
theorem toPendS_ev (l : List S78) (hL : okPendS (cvPend l)) : Ev (fun k => laws_toPendS.f k l) (cvPend l) := by
  have hl : l.length ≤ 1048576 := by have := hL.1; simpa [cvPend] using this
  refine Ev.congr (fun k => ?_) (toPendS_loop l hL l.length 0 (List.replicate l.length z60) (by omega) (by simp) (fun j h => by omega))
  unfold laws_toPendS.f
  rw [if_pos (by omega), Int.toNat_natCast, if_pos (by omega)]
  rfl
theorem toDisk_ev (l0 : List Int) (l1 : List S78) (a2 : Int) (a3 : Bool) (h0 : l0.length ≤ 1048576) (h1 : okPendS (cvPend l1)) : Ev (fun k => laws_toDisk.f k l0 l1 a2 a3) (l0, cvPend l1, a2, a3) :=
  Ev.bind (toByteS_ev l0 (by omega)) (Ev.bind (toPendS_ev l1 h1) (Ev.now _))
theorem eqPend_ev (a : Int) (l : List Int) (h : l.length ≤ 281474976710656) : Ev (fun k => laws_eqPend.f k a l a l) true :=
  Ev.congr (fun k => by unfold laws_eqPend.f; rw [if_pos rfl]) (Ev.bind (eqByteS_ev l h) (Ev.congr (fun k => by rw [if_pos rfl]) (Ev.now _)))
theorem eqPendS_loop (l : List S60) (hL : okPendS l) : ∀ (d i : Nat), i + d = l.length → Ev (fun k => laws_eqPendS.l0 k l l (i : Int)) true
  | 0, i, hd => Ev.step (fun k => by simp only [laws_eqPendS.l0]; rw [if_neg (by omega)]) (Ev.now _)
  | d + 1, i, hd => by
    have hl := hL.1
    have hm : rd_T60 l (i : Int) ∈ l := by
      unfold rd_T60
      rw [Int.toNat_natCast, List.getD_eq_getElem?_getD, List.getElem?_eq_getElem (show i < l.length by omega)]
      exact List.getElem_mem _
    exact Ev.step (fun k => by simp only [laws_eqPendS.l0]; rw [if_pos (by omega), if_pos (by omega), if_pos (by omega)])
      (Ev.bind (eqPend_ev _ _ (by have := hL.2 _ hm; omega)) (Ev.congr (fun k => by rw [if_pos rfl, show wrap64 ((i : Int) + 1) = ((i + 1 : Nat) : Int) by unfold wrap64; omega]) (eqPendS_loop l hL d (i + 1) (by omega))))
theorem eqPendS_ev (l : List S60) (hL : okPendS l) : Ev (fun k => laws_eqPendS.f k l l) true :=
  Ev.congr (fun k => by unfold laws_eqPendS.f; rw [if_pos rfl]; rfl) (eqPendS_loop l hL l.length 0 (by omega))
theorem eqDisk_ev (l0 : List Int) (l1 : List S60) (a2 : Int) (a3 : Bool) (h0 : l0.length ≤ 1048576) (h1 : okPendS l1) : Ev (fun k => laws_eqDisk.f k l0 l1 a2 a3 l0 l1 a2 a3) true := by
  unfold laws_eqDisk.f
  refine Ev.bind (eqByteS_ev l0 (by omega)) (Ev.congr (fun k => by rw [if_pos rfl]) (Ev.bind (eqPendS_ev l1 h1) (Ev.congr (fun k => by rw [if_pos rfl, if_pos rfl, bne_self_eq_false, if_neg (by decide)]) (Ev.now _))))

/-! ### spec_DiskCrash: function 29 -/
def spec_DiskCrash.l0 : Nat → List Bool → List Int → Int → List Int → List (S60) → Int → Bool → Option (List Int × (List (S60)) × Int × Bool)
  | 0, _, _, _, _, _, _, _ => none
  | k + 1, x1, x5, x6, x581000, x581001, x581002, x581003 => if x6 < (x581001.length : Int) then (if x6 < (x1.length : Int) then (if 0 ≤ x6 then (if rdOf false x1 x6 = true then ((spec_l1Over.f x5 ((rd_T60 x581001 x6).f0) ((rd_T60 x581001 x6).f1)).bind fun t592 => (spec_DiskCrash.l0 k x1 t592 (wrap64 (x6 + 1)) x581000 x581001 x581002 x581003)) else (spec_DiskCrash.l0 k x1 x5 (wrap64 (x6 + 1)) x581000 x581001 x581002 x581003)) else (none)) else (spec_DiskCrash.l0 k x1 x5 (wrap64 (x6 + 1)) x581000 x581001 x581002 x581003)) else (some (x5, ([] : List (S60)), (-1), false))
def spec_DiskCrash.f (k : Nat) (l0_0 : List Int) (l0_1 : List (S60)) (a0_2 : Int) (a0_3 : Bool) (l1 : List Bool) : Option (List Int × (List (S60)) × Int × Bool) := (spec_ValidDisk.f k l0_0 l0_1 a0_2 a0_3).bind fun t582 => (if t582 = true then ((some (([] : List Int) : List Int)).bind fun y583 => (if y583.length + l0_0.length < 140737488355328 then (spec_DiskCrash.l0 k l1 (y583 ++ l0_0) 0 l0_0 l0_1 a0_2 a0_3) else (none))) else (some (([] : List Int), ([] : List (S60)), 0, false)))
theorem spec_DiskCrash.mono_l : ∀ k, (∀ y0 y1 y2 y3 y4 y5 y6, LeO (spec_DiskCrash.l0 k y0 y1 y2 y3 y4 y5 y6) (spec_DiskCrash.l0 (k + 1) y0 y1 y2 y3 y4 y5 y6))
  | 0 => fun _ _ _ _ _ _ _ r h => by simp [spec_DiskCrash.l0] at h
  | k + 1 => by
    have ih0 := spec_DiskCrash.mono_l k
    · intro y0 y1 y2 y3 y4 y5 y6
      unfold spec_DiskCrash.l0
      repeat' first
      | (with_reducible exact ih0 _ _ _ _ _ _ _)
      | (with_reducible exact spec_ValidDisk.mono _ _ _ _ _)
      | (with_reducible exact LeO.refl _)
      | (with_reducible exact LeO.none _)
      | (with_reducible refine LeO.ite ?_ ?_)
      | (with_reducible refine LeO.bind ?_ (fun _ => ?_))
      | exact ih0 _ _ _ _ _ _ _
      | exact spec_ValidDisk.mono _ _ _ _ _
      | exact LeO.none _
      | refine LeO.ite ?_ ?_
      | refine LeO.bind ?_ (fun _ => ?_)
theorem spec_DiskCrash.mono : ∀ a0 a1 a2 a3 a4 k, LeO (spec_DiskCrash.f k a0 a1 a2 a3 a4) (spec_DiskCrash.f (k + 1) a0 a1 a2 a3 a4) := by
  intro a0 a1 a2 a3 a4 k
  have ih0 := spec_DiskCrash.mono_l k
  unfold spec_DiskCrash.f
  repeat' first
      | (with_reducible exact ih0 _ _ _ _ _ _ _)
      | (with_reducible exact spec_ValidDisk.mono _ _ _ _ _)
      | (with_reducible exact LeO.refl _)
      | (with_reducible exact LeO.none _)
      | (with_reducible refine LeO.ite ?_ ?_)
      | (with_reducible refine LeO.bind ?_ (fun _ => ?_))
      | exact ih0 _ _ _ _ _ _ _
      | exact spec_ValidDisk.mono _ _ _ _ _
      | exact LeO.none _
      | refine LeO.ite ?_ ?_
      | refine LeO.bind ?_ (fun _ => ?_)
def spec_DiskCrash.T8 : Bool × List (List Nat × List Nat) := (true, [([], []), ([], []), ([1], [1]), ([], []), ([2, 3], [2, 3]), ([4], [4]), ([5], [5]), ([], []), ([7], [7]), ([], []), ([8, 9], [8, 9]), ([10], [10]), ([11], [11]), ([0, 6, 12], [0, 6, 12]), ([13, 13, 0, 1, 2, 3, 4, 5, 6, 7, 8, 9, 10, 11, 12, 13], [0, 13])])
def spec_DiskCrash.B8 : List Nat := [0, 0, 2, 0, 14, 30, 62, 0, 128, 0, 896, 1920, 3968, 8191, 16383]
theorem spec_DiskCrash.tab8 : rtab .any (opsOf Try.f29 8) = spec_DiskCrash.T8 := by kernel_rfl
theorem spec_DiskCrash.bits8 : waitsOk spec_DiskCrash.T8.2 spec_DiskCrash.B8 = true := by kernel_rfl
set_option maxHeartbeats 8000000 in
set_option maxRecDepth 100000 in
theorem spec_DiskCrash.calls (k : Nat) (A0_0 : Option Addr) (c0_0 : Nat) (l0_0 : List Int) (A0_1 : Option Addr) (c0_1 : Nat) (l0_1 : List (S60)) (a0_2 : Int) (a0_3 : Bool) (A1 : Option Addr) (c1 : Nat) (l1 : List Bool) (r1 : List Int) (r2 : List (S60)) (r3 : Int) (r4 : Bool) (w : World) (hr0_0 : Kd.C (Kd.int .u8) w A0_0 l0_0.length l0_0) (hc0_0 : l0_0.length ≤ c0_0) (hr0_1 : Kd.C k60 w A0_1 l0_1.length l0_1) (hc0_1 : l0_1.length ≤ c0_1) (hr1 : Kd.C Kd.bool w A1 l1.length l1) (hc1 : l1.length ≤ c1) (h : spec_DiskCrash.f k l0_0 l0_1 a0_2 a0_3 l1 = some (r1, r2, r3, r4)) :
    Calls Try.prog 29 #[.agg #[.slice A0_0 l0_0.length c0_0, .slice A0_1 l0_1.length c0_1, .int .i64 a0_2, .bool a0_3], .slice A1 l1.length c1] w fun e w' => ∃ v0_ v1_ : Value, e = .returned (.agg #[v0_, v1_, .int .i64 r3, .bool r4]) ∧ Kd.R (Kd.int .u8) 5 w' w.heap.size (fun _ => True) v0_ r1 ∧ Kd.S k60 60 w' w.heap.size (fun k_ => some k_ ≠ (v0_ : Value).ownBlock) v1_ r2 ∧ Below w.heap.size w w' := by
  have hu25 := Try.underlying25
  have HR0_0 := Aside0.mk hr0_0
  have HC0_0 := Aside0.mk hc0_0
  clear hr0_0 hc0_0
  have HR0_1 := Aside0.mk hr0_1
  have HC0_1 := Aside0.mk hc0_1
  clear hr0_1 hc0_1
  have HR1 := Aside0.mk hr1
  have HC1 := Aside0.mk hc1
  clear hr1 hc1
  have HB := Aside0.mk (Below.refl w.heap.size w)
  have H : ((spec_ValidDisk.f k l0_0 l0_1 a0_2 a0_3).bind fun t582 => (if t582 = true then ((some (([] : List Int) : List Int)).bind fun y583 => (if y583.length + l0_0.length < 140737488355328 then (spec_DiskCrash.l0 k l1 (y583 ++ l0_0) 0 l0_0 l0_1 a0_2 a0_3) else (none))) else (some (([] : List Int), ([] : List (S60)), 0, false)))) = some (r1, r2, r3, r4) := h
  clear h
  replace H := Option.bind_eq_some_iff.mp H
  obtain ⟨t582, A30, H⟩ := H
  replace H : (if t582 = true then ((some (([] : List Int) : List Int)).bind fun y583 => (if y583.length + l0_0.length < 140737488355328 then (spec_DiskCrash.l0 k l1 (y583 ++ l0_0) 0 l0_0 l0_1 a0_2 a0_3) else (none))) else (some (([] : List Int), ([] : List (S60)), 0, false))) = some (r1, r2, r3, r4) := H
  have A3 := Aside0.mk A30
  clear A30
  by_cases c4 : t582 = true
  · subst c4
    have H1 : ((some (([] : List Int) : List Int)).bind fun y583 => (if y583.length + l0_0.length < 140737488355328 then (spec_DiskCrash.l0 k l1 (y583 ++ l0_0) 0 l0_0 l0_1 a0_2 a0_3) else (none))) = some (r1, r2, r3, r4) := by rw [if_pos rfl] at H; exact H
    clear H
    have H := H1
    clear H1
    obtain ⟨y583, hy583⟩ : ∃ y_ : List Int, y_ = (([] : List Int)) := ⟨_, rfl⟩
    replace H : (if y583.length + l0_0.length < 140737488355328 then (spec_DiskCrash.l0 k l1 (y583 ++ l0_0) 0 l0_0 l0_1 a0_2 a0_3) else (none)) = some (r1, r2, r3, r4) := by first | (rw [hy583]; with_reducible exact H) | (have H2_ := (Option.bind_some _ _).symm.trans H; rw [hy583]; with_reducible exact H2_) | (have H2_ := (Option.bind_some _ _).symm.trans H; with_reducible exact H2_) | with_reducible exact H | (rw [hy583]; exact H) | exact H
    have Ny583 := Aside0.mk hy583
    clear hy583
    by_cases c5 : y583.length + l0_0.length < 140737488355328
    · rw [if_pos c5] at H
      have LMc5 := Aside0.mk c5
      clear c5
      obtain ⟨y586, hy586⟩ : ∃ y_ : List Int, y_ = (y583 ++ l0_0) := ⟨_, rfl⟩
      replace H : (spec_DiskCrash.l0 k l1 y586 0 l0_0 l0_1 a0_2 a0_3) = some (r1, r2, r3, r4) := by first | (rw [hy586]; with_reducible exact H) | (have H2_ := (Option.bind_some _ _).symm.trans H; rw [hy586]; with_reducible exact H2_) | (have H2_ := (Option.bind_some _ _).symm.trans H; with_reducible exact H2_) | with_reducible exact H | (rw [hy586]; exact H) | exact H
      have Ny586 := Aside0.mk hy586
      clear hy586
      have H' := Aside0.mk H
      clear H
      go_enter Try.func29, Try.ntmps29
      go_wp2_with (first | ((with_reducible refine gate_dst (N := 2) rfl ?_); refine box_event ?hg (N := 2) ?hd (cs := #[.slice A0_0 l0_0.length c0_0, .slice A0_1 l0_1.length c0_1, .int .i64 a0_2, .bool a0_3]) (t := 25) ?hr ?_; (case hd => rfl); (case hg => rfl); (case hr => first | (go_simp; done) | (go_simp; rfl)); intro gb580 hg w6 hbox hb; have n0_ := Aside0.mk (below_step (by repeat (first | (with_reducible first | exact HB.out | apply below_alloc | apply pw_below_drewN | apply below_drew1) | exact HB.out)) hb); have n1_ := Aside0.mk (hbox); have n2_ := Aside0.mk ((by rw [hg]; exact (below_size (by repeat (first | (with_reducible first | exact HB.out | apply below_alloc | apply pw_below_drewN | apply below_drew1) | exact HB.out))) : w.heap.size ≤ gb580)); have n3_ := Aside0.mk ((by rw [hg]; exact (below_size (by repeat (first | (with_reducible first | exact HB.out | apply below_alloc | apply pw_below_drewN | apply below_drew1) | exact HB.out))) : w.heap.size ≤ gb580)); clear HB; have HB := n0_; have BK580 := n1_; have GW580 := n2_; have GE580 := n3_; clear n0_ n1_ n2_ n3_; clear hb hbox hg) | ((with_reducible refine gate_dst (N := 4) rfl ?_); refine box_event ?hg (N := 4) ?hd (cs := #[.slice none 0 0, .slice none 0 0, .int .i64 0, .bool false]) (t := 25) ?hr ?_; (case hd => rfl); (case hg => rfl); (case hr => first | (go_simp; done) | (go_simp; rfl)); intro gb581 hg w7 hbox hb; have n0_ := Aside0.mk (blk_below (g := gb580) (o := .cells #[.slice A0_0 l0_0.length c0_0, .slice A0_1 l0_1.length c0_1, .int .i64 a0_2, .bool a0_3] 25 (0, 0)) (by (with_reducible repeat (first | refine blk_drewN ?_ _ | refine blk_drew ?_ | refine blk_alloc ?_ _)); exact BK580.out) hb); have n1_ := Aside0.mk (below_step (by repeat (first | (with_reducible first | exact HB.out | apply below_alloc | apply pw_below_drewN | apply below_drew1 | refine below_set ?_ GE580.out) | exact HB.out)) hb); have n2_ := Aside0.mk (hbox); have n3_ := Aside0.mk ((by rw [hg]; exact (below_size (by repeat (first | (with_reducible first | exact HB.out | apply below_alloc | apply pw_below_drewN | apply below_drew1 | refine below_set ?_ GE580.out) | exact HB.out))) : w.heap.size ≤ gb581)); have n4_ := Aside0.mk ((by rw [hg]; exact (below_size (by repeat (first | (with_reducible first | exact HB.out | apply below_alloc | apply pw_below_drewN | apply below_drew1 | refine below_set ?_ GE580.out) | exact HB.out))) : w.heap.size ≤ gb581)); have n5_ := Aside0.mk ((by rw [hg]; exact Nat.ne_of_lt (blk_lt (g := gb580) (o := .cells #[.slice A0_0 l0_0.length c0_0, .slice A0_1 l0_1.length c0_1, .int .i64 a0_2, .bool a0_3] 25 (0, 0)) (by (with_reducible repeat (first | refine blk_drewN ?_ _ | refine blk_drew ?_ | refine blk_alloc ?_ _)); exact BK580.out)) : gb580 ≠ gb581)); have n6_ := Aside0.mk ((by rw [hg]; exact Nat.ne_of_gt (blk_lt (g := gb580) (o := .cells #[.slice A0_0 l0_0.length c0_0, .slice A0_1 l0_1.length c0_1, .int .i64 a0_2, .bool a0_3] 25 (0, 0)) (by (with_reducible repeat (first | refine blk_drewN ?_ _ | refine blk_drew ?_ | refine blk_alloc ?_ _)); exact BK580.out)) : gb581 ≠ gb580)); clear BK580; clear HB; have BK580 := n0_; have HB := n1_; have BK581 := n2_; have GW581 := n3_; have GE581 := n4_; have NB580_581 := n5_; have NB581_580 := n6_; clear n0_ n1_ n2_ n3_ n4_ n5_ n6_; clear hb hbox hg; have hnb8 := NB580_581.out; have hnc8 := NB581_580.out; have hcz9_0 : w7.cell? ⟨gb580, 0, none⟩ = some (.slice A0_0 l0_0.length c0_0) := (blk_cell BK580.out 0).trans rfl; have hcz9_1 : w7.cell? ⟨gb580, 1, none⟩ = some (.slice A0_1 l0_1.length c0_1) := (blk_cell BK580.out 1).trans rfl; have hcz9_2 : w7.cell? ⟨gb580, 2, none⟩ = some (.int .i64 a0_2) := (blk_cell BK580.out 2).trans rfl; have hcz9_3 : w7.cell? ⟨gb580, 3, none⟩ = some (.bool a0_3) := (blk_cell BK580.out 3).trans rfl; have hfz9_0 := blk_frozen BK580.out 0; have hfz9_1 := blk_frozen BK580.out 1; have hfz9_2 := blk_frozen BK580.out 2; have hfz9_3 := blk_frozen BK580.out 3) | ((with_reducible refine gate_callee (f := 16) rfl ?_); refine goesL_ (some 8) rfl rfl Try.func16 (by kernel_rfl) rfl #[.agg #[.slice A0_0 l0_0.length c0_0, .slice A0_1 l0_1.length c0_1, .int .i64 a0_2, .bool a0_3]] rfl (by (try simp only [List.map_toArray, List.map_cons, List.map_nil]); first | done | rfl | (simp only [List.length_drop, List.length_take]; rfl)) ?_; (with_reducible refine (spec_ValidDisk.calls k _ _ l0_0 _ _ l0_1 a0_2 a0_3 true _ ?side1 ?side2 ?side3 ?side4 A3.out).mono ?_); (case side1 => repeat (first | exact (Kd.C_below HR0_0.out HB.out) | (with_reducible refine Kd.C_alloc ?_ _) | (with_reducible refine Kd.C_drewN ?_ _) | (with_reducible refine Kd.C_drew ?_))); (case side2 => exact HC0_0.out); (case side3 => repeat (first | exact (Kd.C_below HR0_1.out HB.out) | (with_reducible refine Kd.C_alloc ?_ _) | (with_reducible refine Kd.C_drewN ?_ _) | (with_reducible refine Kd.C_drew ?_))); (case side4 => exact HC0_1.out); rintro e w10 ⟨rfl, hb⟩; refine ⟨_, rfl, ?_⟩; have n0_ := Aside0.mk (blk_below (g := gb580) (o := .cells #[.slice A0_0 l0_0.length c0_0, .slice A0_1 l0_1.length c0_1, .int .i64 a0_2, .bool a0_3] 25 (0, 0)) (by (with_reducible repeat (first | refine blk_drewN ?_ _ | refine blk_drew ?_ | refine blk_alloc ?_ _)); exact BK580.out) hb); have n1_ := Aside0.mk (blk_below (g := gb581) (o := .cells #[.slice none 0 0, .slice none 0 0, .int .i64 0, .bool false] 25 (0, 0)) (by (with_reducible repeat (first | refine blk_drewN ?_ _ | refine blk_drew ?_ | refine blk_alloc ?_ _)); exact BK581.out) hb); have n2_ := Aside0.mk (below_step (by repeat (first | (with_reducible first | exact HB.out | apply below_alloc | apply pw_below_drewN | apply below_drew1 | refine below_set ?_ GE580.out | refine below_set ?_ GE581.out) | exact HB.out)) hb); clear BK580; clear BK581; clear HB; have BK580 := n0_; have BK581 := n1_; have HB := n2_; clear n0_ n1_ n2_; (try clear hb); (try clear hb2); (try clear hk); (try clear hi)) | ((with_reducible refine gate_dst (N := 11) rfl ?_); refine Kd.R_lit (Kd.int .u8) _ 5 ?hg (N := 11) ?hd (xs := ([] : List Int)) (inner := []) (ok := fun _ => True) (okp := fun _ => True) ?hr ?hp (fun _ hk => hk) trivial (Below.refl _ _) (Nat.le_refl _) (by simp) ?_; (case hd => rfl); (case hg => rfl); (case hr => first | (go_simp; done) | (go_simp; rfl)); (case hp => exact (Reps.none _ _)); intro v584 w11 ho12 hb hg_ hnew_; clear hg_ hnew_; (first | rw [← Ny583.out] at ho12 | (simp only [Int.reduceToNat] at ho12; rw [← Ny583.out] at ho12)); have n0_ := Aside0.mk (Kd.R_lower ho12 (below_size (by repeat (first | (with_reducible first | exact HB.out | apply below_alloc | apply pw_below_drewN | apply below_drew1 | refine below_set ?_ GE580.out | refine below_set ?_ GE581.out) | exact HB.out)))); have n1_ := Aside0.mk (blk_below (g := gb580) (o := .cells #[.slice A0_0 l0_0.length c0_0, .slice A0_1 l0_1.length c0_1, .int .i64 a0_2, .bool a0_3] 25 (0, 0)) (by (with_reducible repeat (first | refine blk_drewN ?_ _ | refine blk_drew ?_ | refine blk_alloc ?_ _)); exact BK580.out) hb); have n2_ := Aside0.mk (blk_below (g := gb581) (o := .cells #[.slice none 0 0, .slice none 0 0, .int .i64 0, .bool false] 25 (0, 0)) (by (with_reducible repeat (first | refine blk_drewN ?_ _ | refine blk_drew ?_ | refine blk_alloc ?_ _)); exact BK581.out) hb); have n3_ := Aside0.mk (below_step (by repeat (first | (with_reducible first | exact HB.out | apply below_alloc | apply pw_below_drewN | apply below_drew1 | refine below_set ?_ GE580.out | refine below_set ?_ GE581.out) | exact HB.out)) hb); clear BK580; clear BK581; clear HB; have HO585 := n0_; have BK580 := n1_; have BK581 := n2_; have HB := n3_; clear n0_ n1_ n2_ n3_; clear hb ho12; have hcz13_0 : w11.cell? ⟨gb580, 0, none⟩ = some (.slice A0_0 l0_0.length c0_0) := (blk_cell BK580.out 0).trans rfl; have hcz13_1 : w11.cell? ⟨gb580, 1, none⟩ = some (.slice A0_1 l0_1.length c0_1) := (blk_cell BK580.out 1).trans rfl; have hcz13_2 : w11.cell? ⟨gb580, 2, none⟩ = some (.int .i64 a0_2) := (blk_cell BK580.out 2).trans rfl; have hcz13_3 : w11.cell? ⟨gb580, 3, none⟩ = some (.bool a0_3) := (blk_cell BK580.out 3).trans rfl; have hfz13_0 := blk_frozen BK580.out 0; have hfz13_1 := blk_frozen BK580.out 1; have hfz13_2 := blk_frozen BK580.out 2; have hfz13_3 := blk_frozen BK580.out 3) | ((with_reducible refine gate_builtin (b := .append) (xs := #[.tmp 11, .tmp 13]) rfl ?_); at_builtin; refine Kd.R_append_rows (Kd.int .u8) (w0 := w) w.heap.size rfl (.tmp 11) (.tmp 13) 22 5 (.int .u8 0) 1 rfl Try.underlying22 info5 rfl (by decide) (by omega) v584 y583 l0_0 _ _ _ (fun _ => True) (fun _ => False) rfl rfl ?aO ?aR (fun _ _ h => h) (fun _ h => h.elim) ?aF ?aB ?aS ?aL ?_; (case aR => repeat (first | exact (Kd.C_below HR0_0.out HB.out) | (with_reducible refine Kd.C_alloc ?_ _) | (with_reducible refine Kd.C_drewN ?_ _) | (with_reducible refine Kd.C_drew ?_))); (case aB => exact (by repeat (first | (with_reducible first | exact HB.out | apply below_alloc | apply pw_below_drewN | apply below_drew1 | refine below_set ?_ GE580.out | refine below_set ?_ GE581.out) | exact HB.out))); (case aF => exact (fun _ _ => trivial)); (case aO => exact (by (with_reducible repeat (first | apply Kd.R_alloc | apply Kd.R_drewN | apply Kd.R_drew)); exact HO585.out)); (case aS => exact (below_size (by repeat (first | (with_reducible first | exact HB.out | apply below_alloc | apply pw_below_drewN | apply below_drew1 | refine below_set ?_ GE580.out | refine below_set ?_ GE581.out) | exact HB.out)))); (case aL => have := LMc5.out; omega); intro v587 w14 ho hb hg hat; rw [← Ny586.out] at ho; have n0_ := Aside0.mk (blk_grown (g := gb580) (o := .cells #[.slice A0_0 l0_0.length c0_0, .slice A0_1 l0_1.length c0_1, .int .i64 a0_2, .bool a0_3] 25 (0, 0)) (by (with_reducible repeat (first | refine blk_drewN ?_ _ | refine blk_drew ?_ | refine blk_alloc ?_ _)); exact BK580.out) hg (Kd.R_ne HO585.out BK580.out (by decide))); have n1_ := Aside0.mk (blk_grown (g := gb581) (o := .cells #[.slice none 0 0, .slice none 0 0, .int .i64 0, .bool false] 25 (0, 0)) (by (with_reducible repeat (first | refine blk_drewN ?_ _ | refine blk_drew ?_ | refine blk_alloc ?_ _)); exact BK581.out) hg (Kd.R_ne HO585.out BK581.out (by decide))); have n2_ := Aside0.mk (hb); have n3_ := Aside0.mk (ho); clear BK580; clear BK581; clear HB; clear HO585; have BK580 := n0_; have BK581 := n1_; have HB := n2_; have HO588 := n3_; clear n0_ n1_ n2_ n3_; clear ho hb hg hat))
      go_loopg [5, 6] k (fun kq v5 v6 w' => ∃ (x5_1 : List Int) (x6_1 : Int), v6 = .int .i64 x6_1 ∧ Aside0 (spec_DiskCrash.l0 kq l1 x5_1 x6_1 l0_0 l0_1 a0_2 a0_3 = some (r1, r2, r3, r4)) ∧ Aside0 (kq ≤ k) ∧ Aside0 (Kd.R (Kd.int .u8) 5 w' w.heap.size (fun _ => True) v5 x5_1) ∧ Aside0 (w'.heap[gb580]? = some (.cells #[(.slice A0_0 l0_0.length c0_0), (.slice A0_1 l0_1.length c0_1), .int .i64 a0_2, .bool a0_3] 25 (0, 0))) ∧ Aside0 (w'.heap[gb581]? = some (.cells #[(.slice none 0 0), (.slice none 0 0), .int .i64 0, .bool false] 25 (0, 0))) ∧ Aside0 (Below w.heap.size w w'))
      case atStart => exact ⟨(y586), (0), (by first | rfl | (simp; done) | (simp [*]; done)), H', ⟨Nat.le_refl _⟩, ⟨by (with_reducible repeat (first | apply Kd.R_alloc | apply Kd.R_drewN | apply Kd.R_drew)); exact HO588.out⟩, ⟨by (with_reducible repeat (first | refine blk_drewN ?_ _ | refine blk_drew ?_ | refine blk_alloc ?_ _)); exact BK580.out⟩, ⟨by (with_reducible repeat (first | refine blk_drewN ?_ _ | refine blk_drew ?_ | refine blk_alloc ?_ _)); exact BK581.out⟩, ⟨by repeat (first | (with_reducible first | exact HB.out | apply below_alloc | apply pw_below_drewN | apply below_drew1 | refine below_set ?_ GE580.out | refine below_set ?_ GE581.out) | exact HB.out)⟩⟩
      case round =>
        clear H'
        try clear c1
        try clear c2
        try clear p2
        try clear c4
        try clear c5
        try clear c8
        try clear hcz13_0
        try clear hcz13_1
        try clear hcz13_2
        try clear hcz13_3
        try clear hcz9_0
        try clear hcz9_1
        try clear hcz9_2
        try clear hcz9_3
        try clear hfz13_0
        try clear hfz13_1
        try clear hfz13_2
        try clear hfz13_3
        try clear hfz9_0
        try clear hfz9_1
        try clear hfz9_2
        try clear hfz9_3
        obtain ⟨x5_1, x6_1, rfl, HA, HK1, HO_5, BK580, BK581, HB⟩ := hrel
        cases gk with
        | zero => exact absurd HA.out (by simp [spec_DiskCrash.l0])
        | succ k1 =>
          have H := HA.out
          clear HA
          simp only [spec_DiskCrash.l0] at H
          by_cases c15 : x6_1 < (l0_1.length : Int)
          · rw [if_pos c15] at H
            have c15b0 : decide (x6_1 < (l0_1.length : Int)) = true := decide_eq_true c15
            clear c15
            by_cases c16 : x6_1 < (l1.length : Int)
            · rw [if_pos c16] at H
              have c16b0 : decide (x6_1 < (l1.length : Int)) = true := decide_eq_true c16
              clear c16
              by_cases c17 : 0 ≤ x6_1
              · rw [if_pos c17] at H
                have c17b0 : decide (0 ≤ x6_1) = true := decide_eq_true c17
                clear c17
                obtain ⟨bq18, hbq18⟩ : ∃ b_ : Bool, b_ = (rdOf false l1 x6_1) := ⟨_, rfl⟩
                replace H : (if bq18 = true then ((spec_l1Over.f x5_1 ((rd_T60 l0_1 x6_1).f0) ((rd_T60 l0_1 x6_1).f1)).bind fun t592 => (spec_DiskCrash.l0 k1 l1 t592 (wrap64 (x6_1 + 1)) l0_0 l0_1 a0_2 a0_3)) else (spec_DiskCrash.l0 k1 l1 x5_1 (wrap64 (x6_1 + 1)) l0_0 l0_1 a0_2 a0_3)) = some (r1, r2, r3, r4) := by rw [← hbq18] at H; exact H
                have Nbq18 := Aside0.mk hbq18
                clear hbq18
                by_cases c19 : bq18 = true
                · subst c19
                  have H1 : ((spec_l1Over.f x5_1 ((rd_T60 l0_1 x6_1).f0) ((rd_T60 l0_1 x6_1).f1)).bind fun t592 => (spec_DiskCrash.l0 k1 l1 t592 (wrap64 (x6_1 + 1)) l0_0 l0_1 a0_2 a0_3)) = some (r1, r2, r3, r4) := by rw [if_pos rfl] at H; exact H
                  clear H
                  have H := H1
                  clear H1
                  replace H := Option.bind_eq_some_iff.mp H
                  obtain ⟨t592, A200, H⟩ := H
                  replace H : (spec_DiskCrash.l0 k1 l1 t592 (wrap64 (x6_1 + 1)) l0_0 l0_1 a0_2 a0_3) = some (r1, r2, r3, r4) := H
                  have A20 := Aside0.mk A200
                  clear A200
                  have H' := Aside0.mk H
                  clear H
                  have hnb21 := NB580_581.out
                  have hnc21 := NB581_580.out
                  have hcz22_0 : wr.cell? ⟨gb580, 0, none⟩ = some (.slice A0_0 l0_0.length c0_0) := (blk_cell BK580.out 0).trans rfl
                  have hcz22_1 : wr.cell? ⟨gb580, 1, none⟩ = some (.slice A0_1 l0_1.length c0_1) := (blk_cell BK580.out 1).trans rfl
                  have hcz22_2 : wr.cell? ⟨gb580, 2, none⟩ = some (.int .i64 a0_2) := (blk_cell BK580.out 2).trans rfl
                  have hcz22_3 : wr.cell? ⟨gb580, 3, none⟩ = some (.bool a0_3) := (blk_cell BK580.out 3).trans rfl
                  have hfz22_0 := blk_frozen BK580.out 0
                  have hfz22_1 := blk_frozen BK580.out 1
                  have hfz22_2 := blk_frozen BK580.out 2
                  have hfz22_3 := blk_frozen BK580.out 3
                  have p589 : 0 ≤ (x6_1 : Int) := of_decide_eq_true (by first | (with_reducible assumption) | assumption)
                  have q589 : x6_1 < (l1.length : Int) := of_decide_eq_true (by first | (with_reducible assumption) | assumption)
                  obtain ⟨ad589, e589, hx589_0⟩ := Kd.at_bool HR1.out x6_1 p589 q589
                  (try rw [← Nbq18.out] at hx589_0)
                  cases e589
                  replace hx589_0 := (HB.out.cell (World.block_lt_of_cell? w _ hx589_0)).trans hx589_0
                  replace p589 := eq_true p589
                  replace q589 := eq_true q589
                  try go_wp2
                  have n0_ := Aside0.mk (Kd.R_drew HO_5.out)
                  have n1_ := Aside0.mk (blk_drew BK580.out)
                  have n2_ := Aside0.mk (blk_drew BK581.out)
                  have n3_ := Aside0.mk (below_drew1 HB.out)
                  clear HO_5
                  clear BK580
                  clear BK581
                  clear HB
                  have HO_5 := n0_
                  have BK580 := n1_
                  have BK581 := n2_
                  have HB := n3_
                  clear n0_ n1_ n2_ n3_
                  have p590 : 0 ≤ (x6_1 : Int) := of_decide_eq_true (by first | (with_reducible assumption) | assumption)
                  have q590 : x6_1 < (l0_1.length : Int) := of_decide_eq_true (by first | (with_reducible assumption) | assumption)
                  obtain ⟨ad590, A590_1, c590_1, e590, hx590_0, hx590_1, hl590_1, hi590_1⟩ := at_T60 HR0_1.out x6_1 p590 q590
                  have hw590_1 := hx590_1
                  have hw590_0 := hx590_0
                  cases e590
                  replace hx590_0 := (HB.out.cell (World.block_lt_of_cell? w _ hx590_0)).trans hx590_0
                  replace hx590_1 := (HB.out.cell (World.block_lt_of_cell? w _ hx590_1)).trans hx590_1
                  have HR590_1 := Aside0.mk hi590_1
                  have HC590_1 := Aside0.mk hl590_1
                  clear hi590_1 hl590_1
                  replace p590 := eq_true p590
                  replace q590 := eq_true q590
                  have p591 : 0 ≤ (x6_1 : Int) := of_decide_eq_true (by first | (with_reducible assumption) | assumption)
                  have q591 : x6_1 < (l0_1.length : Int) := of_decide_eq_true (by first | (with_reducible assumption) | assumption)
                  obtain ⟨ad591, A591_1, c591_1, e591, hx591_0, hx591_1, hl591_1, hi591_1⟩ := at_T60 HR0_1.out x6_1 p591 q591
                  have hw591_1 := hx591_1
                  have hw591_0 := hx591_0
                  obtain rfl : ad590 = ad591 := (by injection e591)
                  replace hx591_0 := (HB.out.cell (World.block_lt_of_cell? w _ hx591_0)).trans hx591_0
                  replace hx591_1 := (HB.out.cell (World.block_lt_of_cell? w _ hx591_1)).trans hx591_1
                  have HR591_1 := Aside0.mk hi591_1
                  have HC591_1 := Aside0.mk hl591_1
                  clear hi591_1 hl591_1
                  replace p591 := eq_true p591
                  replace q591 := eq_true q591
                  have ea_ := Option.some.inj (hx590_1.symm.trans hx591_1)
                  injection ea_ with ea_ en_ ec_
                  subst ea_
                  subst ec_
                  clear en_
                  obtain ⟨Ao24, co24, eo24⟩ := Kd.R_slice HO_5.out
                  (first | subst eo24 | (injection eo24 with f1_ f2_ f3_; have f4_ := f1_.symm; have f5_ := f3_.symm; clear f1_ f2_ f3_; subst f4_; subst f5_))
                  refine start_ (n := 15) (S := fun w' => w'.cell? ⟨gb580, 0, none⟩ = some (.slice A0_0 l0_0.length c0_0) ∧ w'.cell? ⟨gb580, 1, none⟩ = some (.slice (some ad590) l0_1.length c0_1) ∧ w'.cell? ⟨gb580, 2, none⟩ = some (.int .i64 a0_2) ∧ w'.cell? ⟨gb580, 3, none⟩ = some (.bool a0_3) ∧ w'.cell? (ad590.add ((x6_1).toNat * 2)) = some (.int .i64 ((rd_T60 l0_1 x6_1).f0)) ∧ w'.cell? ⟨(ad590.add ((x6_1).toNat * 2)).block, (ad590.add ((x6_1).toNat * 2)).off + 1, none⟩ = some (.slice A590_1 ((rd_T60 l0_1 x6_1).f1).length c590_1) ∧ w'.cell? (ad590.add ((x6_1).toNat * 2)) = some (.int .i64 ((rd_T60 l0_1 x6_1).f0)) ∧ w'.cell? ⟨(ad590.add ((x6_1).toNat * 2)).block, (ad590.add ((x6_1).toNat * 2)).off + 1, none⟩ = some (.slice A590_1 ((rd_T60 l0_1 x6_1).f1).length c590_1)) (ds := []) #[false, false, false, false, false, false, false, false, false, false, false, false, false, false, false] (by kernel_rfl) rfl rfl ⟨(blk_cell BK580.out 0).trans rfl, (blk_cell BK580.out 1).trans rfl, (blk_cell BK580.out 2).trans rfl, (blk_cell BK580.out 3).trans rfl, ((HB.out.cell (World.block_lt_of_cell? w _ hw590_0)).trans hw590_0), ((HB.out.cell (World.block_lt_of_cell? w _ hw590_1)).trans hw590_1), ((HB.out.cell (World.block_lt_of_cell? w _ hw591_0)).trans hw591_0), ((HB.out.cell (World.block_lt_of_cell? w _ hw591_1)).trans hw591_1)⟩ (fun hHeld => ?_); refine with_tabW spec_DiskCrash.tab8 spec_DiskCrash.bits8 (fun HT_ HW_ => ?_)
                  generalize wr.drew = w23 at HO_5 BK580 BK581 HB HR590_1 HR591_1 hx590_0 hx590_1 hx591_0 hx591_1 hHeld ⊢
                  refine pure_ (i := 0) (N := some 32) (v := ?_) (a' := ?_) #[true, false, false, false, false, false, false, false, false, false, false, false, false, false, false] rfl rfl (any_of HT_.out (by kernel_rfl)) (fun _ _ _ h => h) (Or.inl ⟨by rfl, ?_⟩) ?_ ?_
                  rotate_left
                  · intro w'
                    go_simp
                    with_reducible rfl
                  rotate_left
                  · simp only [Act.put, List.setIfInBounds_toArray, List.set_cons_zero, List.set_cons_succ, i64_w, i32_w]
                    rfl
                  refine pure_ (i := 1) (N := some 33) (v := ?_) (a' := ?_) #[true, true, false, false, false, false, false, false, false, false, false, false, false, false, false] rfl rfl (any_of HT_.out (by kernel_rfl)) (fun _ _ _ h => h) (Or.inl ⟨by rfl, ?_⟩) ?_ ?_
                  rotate_left
                  · intro w'
                    go_simp
                    with_reducible rfl
                  rotate_left
                  · simp only [Act.put, List.setIfInBounds_toArray, List.set_cons_zero, List.set_cons_succ, i64_w, i32_w]
                    rfl
                  refine pure_ (i := 3) (N := some 35) (v := ?_) (a' := ?_) #[true, true, false, true, false, false, false, false, false, false, false, false, false, false, false] rfl rfl (any_of HT_.out (by kernel_rfl)) (fun _ _ _ h => h) (Or.inl ⟨by rfl, ?_⟩) ?_ ?_
                  rotate_left
                  · intro w'
                    go_simp
                    with_reducible rfl
                  rotate_left
                  · simp only [Act.put, List.setIfInBounds_toArray, List.set_cons_zero, List.set_cons_succ, i64_w, i32_w]
                    rfl
                  refine pure_ (i := 7) (N := some 39) (v := ?_) (a' := ?_) #[true, true, false, true, false, false, false, true, false, false, false, false, false, false, false] rfl rfl (any_of HT_.out (by kernel_rfl)) (fun _ _ _ h => h) (Or.inl ⟨by rfl, ?_⟩) ?_ ?_
                  rotate_left
                  · intro w'
                    go_simp
                    with_reducible rfl
                  rotate_left
                  · simp only [Act.put, List.setIfInBounds_toArray, List.set_cons_zero, List.set_cons_succ, i64_w, i32_w]
                    rfl
                  refine pure_ (i := 9) (N := some 41) (v := ?_) (a' := ?_) #[true, true, false, true, false, false, false, true, false, true, false, false, false, false, false] rfl rfl (any_of HT_.out (by kernel_rfl)) (fun _ _ _ h => h) (Or.inl ⟨by rfl, ?_⟩) ?_ ?_
                  rotate_left
                  · intro w'
                    go_simp
                    with_reducible rfl
                  rotate_left
                  · simp only [Act.put, List.setIfInBounds_toArray, List.set_cons_zero, List.set_cons_succ, i64_w, i32_w]
                    rfl
                  refine take_ (i := 2) (N := some 34) (v := ?_) (a' := ?_) #[true, true, true, true, false, false, false, true, false, true, false, false, false, false, false] rfl rfl (take_ofW HT_.out HW_.out (by kernel_rfl)) (fun _ _ _ h => h) (Or.inl ⟨by rfl, ?_⟩) hHeld ?_ ?_
                  rotate_left
                  · rintro w' ⟨s0, s1, s2, s3, s4, s5, s6, s7⟩
                    go_simp
                    with_reducible rfl
                  rotate_left
                  · simp only [Act.put, List.setIfInBounds_toArray, List.set_cons_zero, List.set_cons_succ, i64_w, i32_w]
                    rfl
                  refine pure_ (i := 4) (N := some 36) (v := ?_) (a' := ?_) #[true, true, true, true, true, false, false, true, false, true, false, false, false, false, false] rfl rfl (any_of HT_.out (by kernel_rfl)) (fun _ _ _ h => h) (Or.inl ⟨by rfl, ?_⟩) ?_ ?_
                  rotate_left
                  · intro w'
                    go_simp
                    with_reducible rfl
                  rotate_left
                  · simp only [Act.put, List.setIfInBounds_toArray, List.set_cons_zero, List.set_cons_succ, i64_w, i32_w]
                    rfl
                  refine pure_ (i := 5) (N := some 37) (v := ?_) (a' := ?_) #[true, true, true, true, true, true, false, true, false, true, false, false, false, false, false] rfl rfl (any_of HT_.out (by kernel_rfl)) (fun _ _ _ h => h) (Or.inl ⟨by rfl, ?_⟩) ?_ ?_
                  rotate_left
                  · intro w'
                    go_simp
                    with_reducible rfl
                  rotate_left
                  · simp only [Act.put, List.setIfInBounds_toArray, List.set_cons_zero, List.set_cons_succ, i64_w, i32_w]
                    rfl
                  refine take_ (i := 6) (N := some 38) (v := ?_) (a' := ?_) #[true, true, true, true, true, true, true, true, false, true, false, false, false, false, false] rfl rfl (take_ofW HT_.out HW_.out (by kernel_rfl)) (fun _ _ _ h => h) (Or.inl ⟨by rfl, ?_⟩) hHeld ?_ ?_
                  rotate_left
                  · rintro w' ⟨s0, s1, s2, s3, s4, s5, s6, s7⟩
                    go_simp
                    with_reducible rfl
                  rotate_left
                  · simp only [Act.put, List.setIfInBounds_toArray, List.set_cons_zero, List.set_cons_succ, i64_w, i32_w]
                    rfl
                  refine take_ (i := 8) (N := some 40) (v := ?_) (a' := ?_) #[true, true, true, true, true, true, true, true, true, true, false, false, false, false, false] rfl rfl (take_ofW HT_.out HW_.out (by kernel_rfl)) (fun _ _ _ h => h) (Or.inl ⟨by rfl, ?_⟩) hHeld ?_ ?_
                  rotate_left
                  · rintro w' ⟨s0, s1, s2, s3, s4, s5, s6, s7⟩
                    go_simp
                    with_reducible rfl
                  rotate_left
                  · simp only [Act.put, List.setIfInBounds_toArray, List.set_cons_zero, List.set_cons_succ, i64_w, i32_w]
                    rfl
                  refine pure_ (i := 10) (N := some 42) (v := ?_) (a' := ?_) #[true, true, true, true, true, true, true, true, true, true, true, false, false, false, false] rfl rfl (any_of HT_.out (by kernel_rfl)) (fun _ _ _ h => h) (Or.inl ⟨by rfl, ?_⟩) ?_ ?_
                  rotate_left
                  · intro w'
                    go_simp
                    with_reducible rfl
                  rotate_left
                  · simp only [Act.put, List.setIfInBounds_toArray, List.set_cons_zero, List.set_cons_succ, i64_w, i32_w]
                    rfl
                  refine pure_ (i := 11) (N := some 43) (v := ?_) (a' := ?_) #[true, true, true, true, true, true, true, true, true, true, true, true, false, false, false] rfl rfl (any_of HT_.out (by kernel_rfl)) (fun _ _ _ h => h) (Or.inl ⟨by rfl, ?_⟩) ?_ ?_
                  rotate_left
                  · intro w'
                    go_simp
                    with_reducible rfl
                  rotate_left
                  · simp only [Act.put, List.setIfInBounds_toArray, List.set_cons_zero, List.set_cons_succ, i64_w, i32_w]
                    rfl
                  refine take_ (i := 12) (N := some 44) (v := ?_) (a' := ?_) #[true, true, true, true, true, true, true, true, true, true, true, true, true, false, false] rfl rfl (take_ofW HT_.out HW_.out (by kernel_rfl)) (fun _ _ _ h => h) (Or.inl ⟨by rfl, ?_⟩) hHeld ?_ ?_
                  rotate_left
                  · rintro w' ⟨s0, s1, s2, s3, s4, s5, s6, s7⟩
                    go_simp
                    with_reducible rfl
                  rotate_left
                  · simp only [Act.put, List.setIfInBounds_toArray, List.set_cons_zero, List.set_cons_succ, i64_w, i32_w]
                    rfl
                  refine one_ (i := 13) (N := some 45) #[true, true, true, true, true, true, true, true, true, true, true, true, true, true, false] rfl rfl (one_of HT_.out (by kernel_rfl)) (by decide) (fun K hK => ?_)
                  refine goes_ Try.func53 (by kernel_rfl) rfl #[.slice Ao24 x5_1.length co24, .int .i64 ((rd_T60 l0_1 x6_1).f0), .slice A590_1 ((rd_T60 l0_1 x6_1).f1).length c590_1] (by rfl) rfl rfl (by (try simp only [List.map_toArray, List.map_cons, List.map_nil]); first | done | rfl | (simp only [List.length_drop, List.length_take]; rfl)) ?_
                  with_reducible refine (spec_l1Over.calls _ _ x5_1 ((rd_T60 l0_1 x6_1).f0) _ _ ((rd_T60 l0_1 x6_1).f1) t592 _ ?side1 ?side2 ?side3 ?side4 A20.out).mono ?_
                  (case side1 => repeat (first | exact (Kd.R_reads' HO_5.out).2.2 | (with_reducible refine Kd.C_alloc ?_ _) | (with_reducible refine Kd.C_drewN ?_ _) | (with_reducible refine Kd.C_drew ?_)))
                  (case side2 => exact (Kd.R_reads' HO_5.out).2.1)
                  (case side3 => repeat (first | exact (Kd.C_below HR591_1.out HB.out) | (with_reducible refine Kd.C_alloc ?_ _) | (with_reducible refine Kd.C_drewN ?_ _) | (with_reducible refine Kd.C_drew ?_)))
                  (case side4 => exact HC591_1.out)
                  rintro e w25 ⟨v593, rfl, ho0, hb⟩
                  refine ⟨_, rfl, ?_⟩
                  have n0_ := Aside0.mk (Kd.R_elder' (by (with_reducible repeat (first | apply Kd.R_alloc | apply Kd.R_drewN | apply Kd.R_drew)); exact HO_5.out) (Kd.R_base ho0) hb)
                  have n1_ := Aside0.mk (Kd.R_lower (Kd.R_new' ho0 (Kd.R_lt (by (with_reducible repeat (first | apply Kd.R_alloc | apply Kd.R_drewN | apply Kd.R_drew)); exact HO_5.out))) (below_size (by repeat (first | (with_reducible first | exact HB.out | apply below_alloc | apply pw_below_drewN | apply below_drew1 | refine below_set ?_ GE580.out | refine below_set ?_ GE581.out) | exact HB.out))))
                  have n2_ := Aside0.mk (blk_below (g := gb580) (o := .cells #[.slice A0_0 l0_0.length c0_0, .slice (some ad590) l0_1.length c0_1, .int .i64 a0_2, .bool a0_3] 25 (0, 0)) (by (with_reducible repeat (first | refine blk_drewN ?_ _ | refine blk_drew ?_ | refine blk_alloc ?_ _)); exact BK580.out) hb)
                  have n3_ := Aside0.mk (blk_below (g := gb581) (o := .cells #[.slice none 0 0, .slice none 0 0, .int .i64 0, .bool false] 25 (0, 0)) (by (with_reducible repeat (first | refine blk_drewN ?_ _ | refine blk_drew ?_ | refine blk_alloc ?_ _)); exact BK581.out) hb)
                  have n4_ := Aside0.mk (below_step (by repeat (first | (with_reducible first | exact HB.out | apply below_alloc | apply pw_below_drewN | apply below_drew1 | refine below_set ?_ GE580.out | refine below_set ?_ GE581.out) | exact HB.out)) hb)
                  clear HO_5
                  clear BK580
                  clear BK581
                  clear HB
                  have HO_5 := n0_
                  have HO594 := n1_
                  have BK580 := n2_
                  have BK581 := n3_
                  have HB := n4_
                  clear n0_ n1_ n2_ n3_ n4_
                  (try clear hb)
                  (try clear hb2)
                  (try clear hk)
                  (try clear hi)
                  (try clear ho0)
                  refine hK.out _ _ ⟨(blk_cell BK580.out 0).trans rfl, (blk_cell BK580.out 1).trans rfl, (blk_cell BK580.out 2).trans rfl, (blk_cell BK580.out 3).trans rfl, ((HB.out.cell (World.block_lt_of_cell? w _ hw590_0)).trans hw590_0), ((HB.out.cell (World.block_lt_of_cell? w _ hw590_1)).trans hw590_1), ((HB.out.cell (World.block_lt_of_cell? w _ hw591_0)).trans hw591_0), ((HB.out.cell (World.block_lt_of_cell? w _ hw591_1)).trans hw591_1)⟩ (fun hHeld => ?_)
                  clear hK K
                  refine norm_ (a' := ?_) ?_ ?_
                  rotate_left
                  · show Act.put _ (some 45) _ = _
                    simp only [Act.put, List.setIfInBounds_toArray, List.set_cons_zero, List.set_cons_succ, i64_w, i32_w]
                    rfl
                  refine pure_ (i := 14) (N := some 5) (v := ?_) (a' := ?_) #[true, true, true, true, true, true, true, true, true, true, true, true, true, true, true] rfl rfl (any_of HT_.out (by kernel_rfl)) (fun _ _ _ h => h) (Or.inl ⟨by rfl, ?_⟩) ?_ ?_
                  rotate_left
                  · intro w'
                    go_simp
                    with_reducible rfl
                  rotate_left
                  · simp only [Act.put, List.setIfInBounds_toArray, List.set_cons_zero, List.set_cons_succ, i64_w, i32_w]
                    rfl
                  refine done_ (done_of HT_.out (by kernel_rfl)) ?_
                  try go_wp2
                  go_roundg k1
                  case measure => have := HK1.out; omega
                  case rel => exact ⟨(t592), (wrap64 (x6_1 + 1)), (by first | rfl | (simp; done) | (simp [*]; done)), H', ⟨by have := HK1.out; omega⟩, ⟨by (with_reducible repeat (first | apply Kd.R_alloc | apply Kd.R_drewN | apply Kd.R_drew)); exact Kd.R_mono HO594.out (fun _ hk => trivial)⟩, ⟨by (with_reducible repeat (first | refine blk_drewN ?_ _ | refine blk_drew ?_ | refine blk_alloc ?_ _)); exact BK580.out⟩, ⟨by (with_reducible repeat (first | refine blk_drewN ?_ _ | refine blk_drew ?_ | refine blk_alloc ?_ _)); exact BK581.out⟩, ⟨by repeat (first | (with_reducible first | exact HB.out | apply below_alloc | apply pw_below_drewN | apply below_drew1 | refine below_set ?_ GE580.out | refine below_set ?_ GE581.out) | exact HB.out)⟩⟩
                · replace c19 := Bool.eq_false_iff.mpr c19
                  subst c19
                  have H1 : (spec_DiskCrash.l0 k1 l1 x5_1 (wrap64 (x6_1 + 1)) l0_0 l0_1 a0_2 a0_3) = some (r1, r2, r3, r4) := by rw [if_neg (show ¬ (false = true) by decide)] at H; exact H
                  clear H
                  have H := H1
                  clear H1
                  have H' := Aside0.mk H
                  clear H
                  have hnb26 := NB580_581.out
                  have hnc26 := NB581_580.out
                  have hcz27_0 : wr.cell? ⟨gb580, 0, none⟩ = some (.slice A0_0 l0_0.length c0_0) := (blk_cell BK580.out 0).trans rfl
                  have hcz27_1 : wr.cell? ⟨gb580, 1, none⟩ = some (.slice A0_1 l0_1.length c0_1) := (blk_cell BK580.out 1).trans rfl
                  have hcz27_2 : wr.cell? ⟨gb580, 2, none⟩ = some (.int .i64 a0_2) := (blk_cell BK580.out 2).trans rfl
                  have hcz27_3 : wr.cell? ⟨gb580, 3, none⟩ = some (.bool a0_3) := (blk_cell BK580.out 3).trans rfl
                  have hfz27_0 := blk_frozen BK580.out 0
                  have hfz27_1 := blk_frozen BK580.out 1
                  have hfz27_2 := blk_frozen BK580.out 2
                  have hfz27_3 := blk_frozen BK580.out 3
                  have p589 : 0 ≤ (x6_1 : Int) := of_decide_eq_true (by first | (with_reducible assumption) | assumption)
                  have q589 : x6_1 < (l1.length : Int) := of_decide_eq_true (by first | (with_reducible assumption) | assumption)
                  obtain ⟨ad589, e589, hx589_0⟩ := Kd.at_bool HR1.out x6_1 p589 q589
                  (try rw [← Nbq18.out] at hx589_0)
                  cases e589
                  replace hx589_0 := (HB.out.cell (World.block_lt_of_cell? w _ hx589_0)).trans hx589_0
                  replace p589 := eq_true p589
                  replace q589 := eq_true q589
                  go_wp2
                  go_roundg k1
                  case measure => have := HK1.out; omega
                  case rel => exact ⟨(x5_1), (wrap64 (x6_1 + 1)), (by first | rfl | (simp; done) | (simp [*]; done)), H', ⟨by have := HK1.out; omega⟩, ⟨by (with_reducible repeat (first | apply Kd.R_alloc | apply Kd.R_drewN | apply Kd.R_drew)); exact HO_5.out⟩, ⟨by (with_reducible repeat (first | refine blk_drewN ?_ _ | refine blk_drew ?_ | refine blk_alloc ?_ _)); exact BK580.out⟩, ⟨by (with_reducible repeat (first | refine blk_drewN ?_ _ | refine blk_drew ?_ | refine blk_alloc ?_ _)); exact BK581.out⟩, ⟨by repeat (first | (with_reducible first | exact HB.out | apply below_alloc | apply pw_below_drewN | apply below_drew1 | refine below_set ?_ GE580.out | refine below_set ?_ GE581.out) | exact HB.out)⟩⟩
              · rw [if_neg c17] at H
                exact absurd H (by simp)
            · rw [if_neg c16] at H
              have c16b0 : decide (x6_1 < (l1.length : Int)) = false := decide_eq_false c16
              clear c16
              have H' := Aside0.mk H
              clear H
              have hnb28 := NB580_581.out
              have hnc28 := NB581_580.out
              have hcz29_0 : wr.cell? ⟨gb580, 0, none⟩ = some (.slice A0_0 l0_0.length c0_0) := (blk_cell BK580.out 0).trans rfl
              have hcz29_1 : wr.cell? ⟨gb580, 1, none⟩ = some (.slice A0_1 l0_1.length c0_1) := (blk_cell BK580.out 1).trans rfl
              have hcz29_2 : wr.cell? ⟨gb580, 2, none⟩ = some (.int .i64 a0_2) := (blk_cell BK580.out 2).trans rfl
              have hcz29_3 : wr.cell? ⟨gb580, 3, none⟩ = some (.bool a0_3) := (blk_cell BK580.out 3).trans rfl
              have hfz29_0 := blk_frozen BK580.out 0
              have hfz29_1 := blk_frozen BK580.out 1
              have hfz29_2 := blk_frozen BK580.out 2
              have hfz29_3 := blk_frozen BK580.out 3
              go_wp2
              go_roundg k1
              case measure => have := HK1.out; omega
              case rel => exact ⟨(x5_1), (wrap64 (x6_1 + 1)), (by first | rfl | (simp; done) | (simp [*]; done)), H', ⟨by have := HK1.out; omega⟩, ⟨by (with_reducible repeat (first | apply Kd.R_alloc | apply Kd.R_drewN | apply Kd.R_drew)); exact HO_5.out⟩, ⟨by (with_reducible repeat (first | refine blk_drewN ?_ _ | refine blk_drew ?_ | refine blk_alloc ?_ _)); exact BK580.out⟩, ⟨by (with_reducible repeat (first | refine blk_drewN ?_ _ | refine blk_drew ?_ | refine blk_alloc ?_ _)); exact BK581.out⟩, ⟨by repeat (first | (with_reducible first | exact HB.out | apply below_alloc | apply pw_below_drewN | apply below_drew1 | refine below_set ?_ GE580.out | refine below_set ?_ GE581.out) | exact HB.out)⟩⟩
          · rw [if_neg c15] at H
            have c15b0 : decide (x6_1 < (l0_1.length : Int)) = false := decide_eq_false c15
            clear c15
            simp only [Option.some.injEq, Prod.mk.injEq] at H
            obtain ⟨rfl, rfl, rfl, rfl⟩ := H
            have hnb30 := NB580_581.out
            have hnc30 := NB581_580.out
            have hcz31_0 : wr.cell? ⟨gb580, 0, none⟩ = some (.slice A0_0 l0_0.length c0_0) := (blk_cell BK580.out 0).trans rfl
            have hcz31_1 : wr.cell? ⟨gb580, 1, none⟩ = some (.slice A0_1 l0_1.length c0_1) := (blk_cell BK580.out 1).trans rfl
            have hcz31_2 : wr.cell? ⟨gb580, 2, none⟩ = some (.int .i64 a0_2) := (blk_cell BK580.out 2).trans rfl
            have hcz31_3 : wr.cell? ⟨gb580, 3, none⟩ = some (.bool a0_3) := (blk_cell BK580.out 3).trans rfl
            have hfz31_0 := blk_frozen BK580.out 0
            have hfz31_1 := blk_frozen BK580.out 1
            have hfz31_2 := blk_frozen BK580.out 2
            have hfz31_3 := blk_frozen BK580.out 3
            obtain ⟨Ao32, co32, eo32⟩ := Kd.R_slice HO_5.out
            subst eo32
            have hcz33_0 : wr.cell? ⟨gb581, 0, none⟩ = some (.slice none 0 0) := (blk_cell BK581.out 0).trans rfl
            have hcz33_1 : wr.cell? ⟨gb581, 1, none⟩ = some (.slice none 0 0) := (blk_cell BK581.out 1).trans rfl
            have hcz33_2 : wr.cell? ⟨gb581, 2, none⟩ = some (.int .i64 0) := (blk_cell BK581.out 2).trans rfl
            have hcz33_3 : wr.cell? ⟨gb581, 3, none⟩ = some (.bool false) := (blk_cell BK581.out 3).trans rfl
            have hfz33_0 := blk_frozen BK581.out 0
            have hfz33_1 := blk_frozen BK581.out 1
            have hfz33_2 := blk_frozen BK581.out 2
            have hfz33_3 := blk_frozen BK581.out 3
            go_wp2
            refine bodyPost_ret (results_cell_row rfl _ _ gb581 25 #[.slice Ao32 x5_1.length co32, .slice none 0 0, .int .i64 (-1), .bool false] (0, 0) _ rfl (by (with_reducible repeat (first | refine blk_drewN ?_ _ | refine blk_drew ?_ | refine blk_alloc ?_ _)); refine blk_put (cs := #[.slice Ao32 x5_1.length co32, .slice none 0 0, .int .i64 (-1), .bool false]) ?_ 3 _ rfl; (with_reducible repeat (first | refine blk_drewN ?_ _ | refine blk_drew ?_ | refine blk_alloc ?_ _)); refine blk_put (cs := #[.slice Ao32 x5_1.length co32, .slice none 0 0, .int .i64 0, .bool false]) ?_ 2 _ rfl; (with_reducible repeat (first | refine blk_drewN ?_ _ | refine blk_drew ?_ | refine blk_alloc ?_ _)); refine blk_put (cs := #[.slice Ao32 x5_1.length co32, .slice none 0 0, .int .i64 0, .bool false]) ?_ 1 _ rfl; (with_reducible repeat (first | refine blk_drewN ?_ _ | refine blk_drew ?_ | refine blk_alloc ?_ _)); refine blk_put (cs := #[.slice none 0 0, .slice none 0 0, .int .i64 0, .bool false]) ?_ 0 _ rfl; (with_reducible repeat (first | refine blk_drewN ?_ _ | refine blk_drew ?_ | refine blk_alloc ?_ _)); exact BK581.out) Try.underlying25 rfl (by kernel_rfl)) rfl ?_
            exact ⟨_, _, by first | rfl | (simp [errW_none, errW_some] <;> rfl) | (simp [*, errW_none, errW_some] <;> rfl), by (with_reducible repeat (first | apply Kd.R_alloc | apply Kd.R_drewN | apply Kd.R_drew)); exact Kd.R_mono (Kd.R_far (p := ⟨gb581, 3, none⟩) (Kd.R_far (p := ⟨gb581, 2, none⟩) (Kd.R_far (p := ⟨gb581, 1, none⟩) (Kd.R_far (p := ⟨gb581, 0, none⟩) (Kd.R_types HO_5.out BK581.out (by decide)) (fun _ hk => hk.2) (.slice Ao32 x5_1.length co32)) (fun _ hk => hk.2) (.slice none 0 0)) (fun _ hk => hk.2) (.int .i64 (-1))) (fun _ hk => hk.2) (.bool false)) (fun _ hk => trivial), by first | exact Kd.S_nil _ _ _ _ _ | exact Kd.N_nil _ _ _ _ _ | exact Kd.V_nil _ _ _ _ _ | exact Kd.Q_nil _ _ _ _ _ | exact Kd.R_nil _ _ _ _ _, by repeat (first | (with_reducible first | exact HB.out | apply below_alloc | apply pw_below_drewN | apply below_drew1 | refine below_set ?_ GE580.out | refine below_set ?_ GE581.out) | exact HB.out)⟩
    · rw [if_neg c5] at H
      exact absurd H (by simp)
  · replace c4 := Bool.eq_false_iff.mpr c4
    subst c4
    have H1 : (some (([] : List Int), ([] : List (S60)), 0, false)) = some (r1, r2, r3, r4) := by rw [if_neg (show ¬ (false = true) by decide)] at H; exact H
    clear H
    have H := H1
    clear H1
    simp only [Option.some.injEq, Prod.mk.injEq] at H
    obtain ⟨rfl, rfl, rfl, rfl⟩ := H
    go_enter Try.func29, Try.ntmps29
    go_wp2_with (first | ((with_reducible refine gate_dst (N := 2) rfl ?_); refine box_event ?hg (N := 2) ?hd (cs := #[.slice A0_0 l0_0.length c0_0, .slice A0_1 l0_1.length c0_1, .int .i64 a0_2, .bool a0_3]) (t := 25) ?hr ?_; (case hd => rfl); (case hg => rfl); (case hr => first | (go_simp; done) | (go_simp; rfl)); intro gb580 hg w34 hbox hb; have n0_ := Aside0.mk (below_step (by repeat (first | (with_reducible first | exact HB.out | apply below_alloc | apply pw_below_drewN | apply below_drew1) | exact HB.out)) hb); have n1_ := Aside0.mk (hbox); have n2_ := Aside0.mk ((by rw [hg]; exact (below_size (by repeat (first | (with_reducible first | exact HB.out | apply below_alloc | apply pw_below_drewN | apply below_drew1) | exact HB.out))) : w.heap.size ≤ gb580)); have n3_ := Aside0.mk ((by rw [hg]; exact (below_size (by repeat (first | (with_reducible first | exact HB.out | apply below_alloc | apply pw_below_drewN | apply below_drew1) | exact HB.out))) : w.heap.size ≤ gb580)); clear HB; have HB := n0_; have BK580 := n1_; have GW580 := n2_; have GE580 := n3_; clear n0_ n1_ n2_ n3_; clear hb hbox hg) | ((with_reducible refine gate_dst (N := 4) rfl ?_); refine box_event ?hg (N := 4) ?hd (cs := #[.slice none 0 0, .slice none 0 0, .int .i64 0, .bool false]) (t := 25) ?hr ?_; (case hd => rfl); (case hg => rfl); (case hr => first | (go_simp; done) | (go_simp; rfl)); intro gb581 hg w35 hbox hb; have n0_ := Aside0.mk (blk_below (g := gb580) (o := .cells #[.slice A0_0 l0_0.length c0_0, .slice A0_1 l0_1.length c0_1, .int .i64 a0_2, .bool a0_3] 25 (0, 0)) (by (with_reducible repeat (first | refine blk_drewN ?_ _ | refine blk_drew ?_ | refine blk_alloc ?_ _)); exact BK580.out) hb); have n1_ := Aside0.mk (below_step (by repeat (first | (with_reducible first | exact HB.out | apply below_alloc | apply pw_below_drewN | apply below_drew1 | refine below_set ?_ GE580.out) | exact HB.out)) hb); have n2_ := Aside0.mk (hbox); have n3_ := Aside0.mk ((by rw [hg]; exact (below_size (by repeat (first | (with_reducible first | exact HB.out | apply below_alloc | apply pw_below_drewN | apply below_drew1 | refine below_set ?_ GE580.out) | exact HB.out))) : w.heap.size ≤ gb581)); have n4_ := Aside0.mk ((by rw [hg]; exact (below_size (by repeat (first | (with_reducible first | exact HB.out | apply below_alloc | apply pw_below_drewN | apply below_drew1 | refine below_set ?_ GE580.out) | exact HB.out))) : w.heap.size ≤ gb581)); have n5_ := Aside0.mk ((by rw [hg]; exact Nat.ne_of_lt (blk_lt (g := gb580) (o := .cells #[.slice A0_0 l0_0.length c0_0, .slice A0_1 l0_1.length c0_1, .int .i64 a0_2, .bool a0_3] 25 (0, 0)) (by (with_reducible repeat (first | refine blk_drewN ?_ _ | refine blk_drew ?_ | refine blk_alloc ?_ _)); exact BK580.out)) : gb580 ≠ gb581)); have n6_ := Aside0.mk ((by rw [hg]; exact Nat.ne_of_gt (blk_lt (g := gb580) (o := .cells #[.slice A0_0 l0_0.length c0_0, .slice A0_1 l0_1.length c0_1, .int .i64 a0_2, .bool a0_3] 25 (0, 0)) (by (with_reducible repeat (first | refine blk_drewN ?_ _ | refine blk_drew ?_ | refine blk_alloc ?_ _)); exact BK580.out)) : gb581 ≠ gb580)); clear BK580; clear HB; have BK580 := n0_; have HB := n1_; have BK581 := n2_; have GW581 := n3_; have GE581 := n4_; have NB580_581 := n5_; have NB581_580 := n6_; clear n0_ n1_ n2_ n3_ n4_ n5_ n6_; clear hb hbox hg; have hnb36 := NB580_581.out; have hnc36 := NB581_580.out; have hcz37_0 : w35.cell? ⟨gb580, 0, none⟩ = some (.slice A0_0 l0_0.length c0_0) := (blk_cell BK580.out 0).trans rfl; have hcz37_1 : w35.cell? ⟨gb580, 1, none⟩ = some (.slice A0_1 l0_1.length c0_1) := (blk_cell BK580.out 1).trans rfl; have hcz37_2 : w35.cell? ⟨gb580, 2, none⟩ = some (.int .i64 a0_2) := (blk_cell BK580.out 2).trans rfl; have hcz37_3 : w35.cell? ⟨gb580, 3, none⟩ = some (.bool a0_3) := (blk_cell BK580.out 3).trans rfl; have hfz37_0 := blk_frozen BK580.out 0; have hfz37_1 := blk_frozen BK580.out 1; have hfz37_2 := blk_frozen BK580.out 2; have hfz37_3 := blk_frozen BK580.out 3) | ((with_reducible refine gate_callee (f := 16) rfl ?_); refine goesL_ (some 8) rfl rfl Try.func16 (by kernel_rfl) rfl #[.agg #[.slice A0_0 l0_0.length c0_0, .slice A0_1 l0_1.length c0_1, .int .i64 a0_2, .bool a0_3]] rfl (by (try simp only [List.map_toArray, List.map_cons, List.map_nil]); first | done | rfl | (simp only [List.length_drop, List.length_take]; rfl)) ?_; (with_reducible refine (spec_ValidDisk.calls k _ _ l0_0 _ _ l0_1 a0_2 a0_3 false _ ?side1 ?side2 ?side3 ?side4 A3.out).mono ?_); (case side1 => repeat (first | exact (Kd.C_below HR0_0.out HB.out) | (with_reducible refine Kd.C_alloc ?_ _) | (with_reducible refine Kd.C_drewN ?_ _) | (with_reducible refine Kd.C_drew ?_))); (case side2 => exact HC0_0.out); (case side3 => repeat (first | exact (Kd.C_below HR0_1.out HB.out) | (with_reducible refine Kd.C_alloc ?_ _) | (with_reducible refine Kd.C_drewN ?_ _) | (with_reducible refine Kd.C_drew ?_))); (case side4 => exact HC0_1.out); rintro e w38 ⟨rfl, hb⟩; refine ⟨_, rfl, ?_⟩; have n0_ := Aside0.mk (blk_below (g := gb580) (o := .cells #[.slice A0_0 l0_0.length c0_0, .slice A0_1 l0_1.length c0_1, .int .i64 a0_2, .bool a0_3] 25 (0, 0)) (by (with_reducible repeat (first | refine blk_drewN ?_ _ | refine blk_drew ?_ | refine blk_alloc ?_ _)); exact BK580.out) hb); have n1_ := Aside0.mk (blk_below (g := gb581) (o := .cells #[.slice none 0 0, .slice none 0 0, .int .i64 0, .bool false] 25 (0, 0)) (by (with_reducible repeat (first | refine blk_drewN ?_ _ | refine blk_drew ?_ | refine blk_alloc ?_ _)); exact BK581.out) hb); have n2_ := Aside0.mk (below_step (by repeat (first | (with_reducible first | exact HB.out | apply below_alloc | apply pw_below_drewN | apply below_drew1 | refine below_set ?_ GE580.out | refine below_set ?_ GE581.out) | exact HB.out)) hb); clear BK580; clear BK581; clear HB; have BK580 := n0_; have BK581 := n1_; have HB := n2_; clear n0_ n1_ n2_; (try clear hb); (try clear hb2); (try clear hk); (try clear hi); have hcz39_0 : w38.cell? ⟨gb581, 0, none⟩ = some (.slice none 0 0) := (blk_cell BK581.out 0).trans rfl; have hcz39_1 : w38.cell? ⟨gb581, 1, none⟩ = some (.slice none 0 0) := (blk_cell BK581.out 1).trans rfl; have hcz39_2 : w38.cell? ⟨gb581, 2, none⟩ = some (.int .i64 0) := (blk_cell BK581.out 2).trans rfl; have hcz39_3 : w38.cell? ⟨gb581, 3, none⟩ = some (.bool false) := (blk_cell BK581.out 3).trans rfl; have hfz39_0 := blk_frozen BK581.out 0; have hfz39_1 := blk_frozen BK581.out 1; have hfz39_2 := blk_frozen BK581.out 2; have hfz39_3 := blk_frozen BK581.out 3))
    refine bodyPost_ret (results_cell_row rfl _ _ gb581 25 #[.slice none 0 0, .slice none 0 0, .int .i64 0, .bool false] (0, 0) _ rfl (by (with_reducible repeat (first | refine blk_drewN ?_ _ | refine blk_drew ?_ | refine blk_alloc ?_ _)); refine blk_put (cs := #[.slice none 0 0, .slice none 0 0, .int .i64 0, .bool false]) ?_ 3 _ rfl; (with_reducible repeat (first | refine blk_drewN ?_ _ | refine blk_drew ?_ | refine blk_alloc ?_ _)); refine blk_put (cs := #[.slice none 0 0, .slice none 0 0, .int .i64 0, .bool false]) ?_ 2 _ rfl; (with_reducible repeat (first | refine blk_drewN ?_ _ | refine blk_drew ?_ | refine blk_alloc ?_ _)); refine blk_put (cs := #[.slice none 0 0, .slice none 0 0, .int .i64 0, .bool false]) ?_ 1 _ rfl; (with_reducible repeat (first | refine blk_drewN ?_ _ | refine blk_drew ?_ | refine blk_alloc ?_ _)); refine blk_put (cs := #[.slice none 0 0, .slice none 0 0, .int .i64 0, .bool false]) ?_ 0 _ rfl; (with_reducible repeat (first | refine blk_drewN ?_ _ | refine blk_drew ?_ | refine blk_alloc ?_ _)); exact BK581.out) Try.underlying25 rfl (by kernel_rfl)) rfl ?_
    exact ⟨_, _, by first | rfl | (simp [errW_none, errW_some] <;> rfl) | (simp [*, errW_none, errW_some] <;> rfl), by first | exact Kd.R_nil _ _ _ _ _ | exact Kd.N_nil _ _ _ _ _ | exact Kd.V_nil _ _ _ _ _ | exact Kd.Q_nil _ _ _ _ _ | exact Kd.S_nil _ _ _ _ _, by first | exact Kd.S_nil _ _ _ _ _ | exact Kd.N_nil _ _ _ _ _ | exact Kd.V_nil _ _ _ _ _ | exact Kd.Q_nil _ _ _ _ _ | exact Kd.R_nil _ _ _ _ _, by repeat (first | (with_reducible first | exact HB.out | apply below_alloc | apply pw_below_drewN | apply below_drew1 | refine below_set ?_ GE580.out | refine below_set ?_ GE581.out) | exact HB.out)⟩

/-! ### L_crash: a text by hand -/
-- needs spec_DiskCrash.f impl_ValidDisk.f
def ovr (l : List Int) (s : Int) (d : List Int) : List Int := l.take (s * 64).toNat ++ (d ++ l.drop ((s * 64).toNat + d.length))
def crF (l0 : List Int) (l1 : List S60) (keep : List Bool) : Nat → List Int
  | 0 => l0
  | i + 1 => if ((i : Int) < (keep.length : Int)) ∧ rdOf false keep (i : Int) = true then ovr (crF l0 l1 keep i) (rd_T60 l1 (i : Int)).f0 (rd_T60 l1 (i : Int)).f1 else crF l0 l1 keep i
theorem ovr_len (l : List Int) (s : Int) (d : List Int) (h : (s * 64).toNat + d.length ≤ l.length) : (ovr l s d).length = l.length := by unfold ovr; simp; omega
theorem rdP_mem (l : List S60) (i : Nat) (h : i < l.length) : rd_T60 l (i : Int) ∈ l := by unfold rd_T60; rw [Int.toNat_natCast, List.getD_eq_getElem?_getD, List.getElem?_eq_getElem h]; exact List.getElem_mem _
theorem crF_len (l0 : List Int) (l1 : List S60) (keep : List Bool) (h : ∀ x ∈ l1, 0 ≤ x.f0 ∧ x.f0 < ((l0.length / 64 : Nat) : Int) ∧ x.f1.length = 64) : ∀ i, i ≤ l1.length → (crF l0 l1 keep i).length = l0.length := by
  intro i
  induction i with
  | zero => intro _; rfl
  | succ i ih =>
    intro hi
    have h1 := ih (by omega)
    have hx := h _ (rdP_mem l1 i (by omega))
    unfold crF
    split
    · rw [ovr_len _ _ _ (by rw [h1, hx.2.2]; omega), h1]
    · exact h1
def dCrash (l0 : List Int) (l1 : List S60) (a2 : Int) (keep : List Bool) : List Int × List S60 × Int × Bool :=
  if vD l0 l1 a2 = true then (crF l0 l1 keep l1.length, [], -1, false) else ([], [], 0, false)
theorem over_eq (l : List Int) (s : Int) (d : List Int) (h0 : 0 ≤ s) (h1 : s * 64 + d.length ≤ l.length) (h2 : l.length ≤ 65599) : spec_l1Over.f l s d = some (ovr l s d) := by
  have e1 : wrap64 (s * 64) = s * 64 := by unfold wrap64; omega
  have e2 : wrap64 (s * 64 + (d.length : Int)) = s * 64 + d.length := by unfold wrap64; omega
  unfold spec_l1Over.f
  simp only [Option.bind_some, List.nil_append, List.length_nil, Nat.zero_add, e1, e2]
  rw [if_pos (by omega), if_pos (by omega), if_pos (by rw [List.length_take]; omega), if_pos (by rw [List.length_take]; omega), if_pos (by omega), if_pos (by omega), if_pos (by simp; omega)]
  unfold ovr
  rw [List.append_assoc, show (s * 64 + (d.length : Int)).toNat = (s * 64).toNat + d.length by omega]
theorem specCrash_loop (l0 : List Int) (l1 : List S60) (a2 : Int) (a3 : Bool) (keep : List Bool) (h2 : l0.length ≤ 65599) (h3 : l1.length ≤ 2000) (h : ∀ x ∈ l1, 0 ≤ x.f0 ∧ x.f0 < ((l0.length / 64 : Nat) : Int) ∧ x.f1.length = 64) :
    ∀ (d i : Nat), i + d = l1.length → Ev (fun k => spec_DiskCrash.l0 k keep (crF l0 l1 keep i) (i : Int) l0 l1 a2 a3) (crF l0 l1 keep l1.length, ([] : List S60), -1, false) := by
  intro d
  induction d with
  | zero => intro i hi; obtain rfl : i = l1.length := by omega
            exact Ev.step (fun K => by simp only [spec_DiskCrash.l0]; rw [if_neg (by omega)]) (Ev.now _)
  | succ d ih =>
    intro i hi
    have ih' := ih (i + 1) (by omega)
    have hx := h _ (rdP_mem l1 i (by omega))
    have hl := crF_len l0 l1 keep h i (by omega)
    have ew : wrap64 ((i : Int) + 1) = ((i + 1 : Nat) : Int) := by unfold wrap64; omega
    have hn : crF l0 l1 keep (i + 1) = if ((i : Int) < (keep.length : Int)) ∧ rdOf false keep (i : Int) = true then ovr (crF l0 l1 keep i) (rd_T60 l1 (i : Int)).f0 (rd_T60 l1 (i : Int)).f1 else crF l0 l1 keep i := rfl
    rw [hn] at ih'
    by_cases c1 : (i : Int) < (keep.length : Int)
    · by_cases c2 : rdOf false keep (i : Int) = true
      · rw [if_pos ⟨c1, c2⟩] at ih'
        have ho := over_eq (crF l0 l1 keep i) (rd_T60 l1 (i : Int)).f0 (rd_T60 l1 (i : Int)).f1 hx.1 (by rw [hl, hx.2.2]; omega) (by omega)
        exact Ev.step (fun K => by simp only [spec_DiskCrash.l0]; rw [if_pos (by omega), if_pos c1, if_pos (by omega), if_pos c2, ho, Option.bind_some, ew]) ih'
      · rw [if_neg (fun hh => c2 hh.2)] at ih'
        exact Ev.step (fun K => by simp only [spec_DiskCrash.l0]; rw [if_pos (by omega), if_pos c1, if_pos (by omega), if_neg c2, ew]) ih'
    · rw [if_neg (fun hh => c1 hh.1)] at ih'
      exact Ev.step (fun K => by simp only [spec_DiskCrash.l0]; rw [if_pos (by omega), if_neg c1, ew]) ih'
theorem specCrash_ev (l0 : List Int) (l1 : List S60) (a2 : Int) (a3 : Bool) (keep : List Bool) (h0 : l0.length ≤ 1048576) (hL : l1.length ≤ 1048576) : Ev (fun k => spec_DiskCrash.f k l0 l1 a2 a3 keep) (dCrash l0 l1 a2 keep) := by
  unfold spec_DiskCrash.f dCrash
  refine Ev.bind (specValid_ev l0 l1 a2 a3 h0 hL) ?_
  by_cases cv : vD l0 l1 a2 = true
  case neg => rw [if_neg cv]; exact Ev.congr (fun K => by rw [if_neg cv]) (Ev.now _)
  rw [if_pos cv]
  obtain ⟨f1, f2, f3, f4, f5, f6, f7⟩ := vD_facts cv
  exact Ev.congr (fun K => by rw [if_pos cv, Option.bind_some, if_pos (by rw [List.length_nil]; omega), List.nil_append]; rfl) (specCrash_loop l0 l1 a2 a3 keep f3 f4 f7 l1.length 0 (by omega))

/-! ### L_copy: a text by hand -/
-- needs spec_DiskCrash.f impl_ValidDisk.f
-- import Derived.Laws.CopyOwn
theorem step_copy_at {P : Program} {ops : Array Oper} {o : Oper} {a : Act} {w : World} {K : Act → World → Prop} {Q : Exit → Act → World → Prop} {E : Prop} (hgd : o.guard = none) (d s : Operand) (dT sT : TypeId)
    (ho : o.op = .call { callee := .builtin .copy, args := #[d, s], argTypes := #[dT, sT] }) (elem : TypeId) (hu : P.underlying dT = some (.slice elem)) (hsz : (P.info? elem).map (·.size) = some 1)
    (g off dLen dCap : Nat) (ad : Addr) (sLen sCap : Nat) (hd : a.eval d = .slice (some ⟨g, off, none⟩) dLen dCap) (hs : a.eval s = .slice (some ad) sLen sCap)
    (cur : List Value) (t : TypeId) (hg : w.heap[g]? = some (.cells cur.toArray t (0, 0))) (cs : List Value) (hn : cs.length = Nat.min sLen dLen)
    (hsrc : ∀ j v, cs[j]? = some v → w.cell? (ad.add j) = some v) (hfit : off + cs.length ≤ cur.length) (h1 : ∀ v ∈ cs, v.oneCell' = true)
    (h : ∀ w', w' = w.setRow g (cur.take off ++ (cs ++ cur.drop (off + cs.length))).toArray → K (a.put o.dst (goInt cs.length)) w') :
    if Region.wanted o (yielded ops a.tmps) = true then Oper.wp P o a w K Q else E := by
  have hw : Region.wanted o (yielded ops a.tmps) = true := by simp [Region.wanted, hgd]
  rw [if_pos hw]
  have hrun := run_copy_row (P := P) w dT sT o.type elem g off dLen dCap ad sLen sCap cur.toArray t cs hu hsz hg hn hsrc (by simpa using hfit) h1
  unfold Oper.wp
  simp [execOp, ho, resolve, invoke, builtin, hd, hs, hrun, Result.andThen]
  exact h _ (by simp)
theorem ovr_cells (l : List Int) (s : Int) (d : List Int) (tail : List Value) (h : (s * 64).toNat + d.length ≤ l.length) :
    (l.map (Value.int .u8) ++ tail).take (s * 64).toNat ++ (d.map (Value.int .u8) ++ (l.map (Value.int .u8) ++ tail).drop ((s * 64).toNat + (d.map (Value.int .u8)).length)) = (ovr l s d).map (Value.int .u8) ++ tail := by
  unfold ovr
  rw [List.length_map, List.take_append_of_le_length (by simp; omega), List.drop_append_of_le_length (by simp; omega)]
  simp [List.map_take, List.map_drop]
theorem blk_new3 (w : World) (a b c : Obj) : (((w.alloc a).alloc b).alloc c).heap[w.heap.size + 1 + 1]? = some c := by
  have h := blk_new ((w.alloc a).alloc b) c
  rw [show ((w.alloc a).alloc b).heap.size = w.heap.size + 1 + 1 from by simp] at h
  exact h

/-! ### impl_Disk_clone: a text by hand -/
-- needs spec_DiskSync.f impl_ValidDisk.f
-- import Derived.Deep.RegionLaw
set_option maxHeartbeats 4000000 in
set_option maxRecDepth 100000 in
theorem impl_Disk_clone.calls (A0 : Option Addr) (c0 : Nat) (l0 : List Int) (A1 : Option Addr) (c1 : Nat) (l1 : List S60) (a2 : Int) (a3 : Bool) (w : World) (hr0 : Kd.C (Kd.int .u8) w A0 l0.length l0) (hc0 : l0.length ≤ c0) (hr1 : Kd.C k60 w A1 l1.length l1) (hc1 : l1.length ≤ c1) (h0 : l0.length ≤ 1048576) (hok : okPendS l1) :
    Calls Try.prog 49 #[.agg #[.slice A0 l0.length c0, .slice A1 l1.length c1, .int .i64 a2, .bool a3]] w fun e w' => ∃ v0_ v1_ : Value, e = .returned (.agg #[v0_, v1_, .int .i64 a2, .bool a3]) ∧ Kd.R (Kd.int .u8) 5 w' w.heap.size (fun _ => True) v0_ l0 ∧ Kd.S k60 60 w' w.heap.size (fun k_ => some k_ ≠ (v0_ : Value).ownBlock) v1_ l1 ∧ Below w.heap.size w w' := by
  have HR0 := Aside0.mk hr0
  have HC0 := Aside0.mk hc0
  have HR1 := Aside0.mk hr1
  have HC1 := Aside0.mk hc1
  have HL := Aside0.mk h0
  have HOK := Aside0.mk hok
  clear hr0 hc0 hr1 hc1 h0 hok
  have hu25 := Try.underlying25
  have hu60 := Try.underlying60
  have HB := Aside0.mk (Below.refl w.heap.size w)
  go_enter Try.func49, Try.ntmps49
  go_wp2_with (first | ((with_reducible refine gate_builtin (b := .append) (xs := #[.tmp 12, .tmp 14]) rfl ?_); at_builtin; refine Kd.R_append_rows (Kd.int .u8) (w0 := w) w.heap.size rfl (.tmp 12) (.tmp 14) 22 5 (.int .u8 0) 1 rfl Try.underlying22 info5 rfl (by decide) (by omega) (.slice none 0 0) [] l0 _ _ _ (fun _ => True) (fun _ => False) rfl rfl (Kd.R_nil _ _ _ _ _) (Kd.C_alloc (Kd.C_alloc (Kd.C_alloc HR0.out _) _) _) (fun _ _ h => h) (fun _ h => h.elim) (fun _ _ => trivial) (below_alloc (below_alloc (below_alloc HB.out _) _) _) (by simp; omega) (by have := HL.out; simp; omega) ?_; intro v w2 ho hb hg hat; rw [List.nil_append] at ho; have N_K1 := Aside0.mk (blk_grown (blk_alloc (blk_alloc (blk_new w _) _) _) hg (by simp [Value.ownBlock])); have N_K2 := Aside0.mk (blk_grown (blk_alloc (blk_new2 w _ _) _) hg (by simp [Value.ownBlock])); have N_K3 := Aside0.mk (blk_grown (blk_new3 w _ _ _) hg (by simp [Value.ownBlock])); obtain ⟨DA, dc, rfl⟩ := Kd.R_slice ho; have HO := Aside0.mk ho; have HB2 := Aside0.mk hb; clear ho hb hg hat; obtain ⟨z0, z1, z2, z3, y0, y1, y2, y3⟩ := blk_cells4 N_K1.out; obtain ⟨x0, x1, x2, x3, u0, u1, u2, u3⟩ := blk_cells4 N_K3.out; have yl := blk_lt N_K1.out; have ul := blk_lt N_K3.out))
  go_loopg [5, 20] l1.length (fun kq v5 v20 w' => ∃ (i : Nat) (v1 : Value), v20 = .int .i64 i ∧ Aside0 (i ≤ l1.length ∧ kq = l1.length - i) ∧ Aside0 (w'.heap[w.heap.size + 1]? = some (.cells #[.slice none 0 0, .slice none 0 0, .int .i64 0, .bool false] 25 (0, 0))) ∧ Aside0 (w'.heap[w.heap.size + 1 + 1]? = some (.cells #[.slice DA l0.length dc, v1, .int .i64 a2, .bool a3] 25 (0, 0))) ∧ Aside0 (Kd.R (Kd.int .u8) 5 w' w.heap.size (fun _ => True) (.slice DA l0.length dc) l0) ∧ Aside0 (Kd.S k60 60 w' w.heap.size (fun k_ => some k_ ≠ (.slice DA l0.length dc : Value).ownBlock) v1 (l1.take i)) ∧ Aside0 (Below w.heap.size w w'))
  case atStart =>
    refine ⟨0, .slice none 0 0, rfl, ⟨by omega, rfl⟩, ⟨blk_far N_K2.out (by simp) _⟩, ⟨blk_put N_K3.out 0 _ rfl⟩, ⟨?_⟩, ⟨Kd.S_nil _ _ _ _ _⟩, ⟨below_setB HB2.out (by omega) _ _⟩⟩
    exact Kd.R_mono (Kd.R_far (p := ⟨w.heap.size + 1 + 1, 0, none⟩) (Kd.R_types HO.out N_K3.out (by decide)) (fun _ hk => hk.2) _) (fun _ _ => trivial)
  case round =>
    clear z0 z1 z2 z3 y0 y1 y2 y3 yl x0 x1 x2 x3 u0 u1 u2 u3 ul N_K1 N_K2 N_K3 HO HB HB2
    obtain ⟨i, v1, rfl, HI, K2, K3, HRo, HSo, HB⟩ := hrel
    obtain ⟨B1, b1, ev1⟩ := Kd.S_slice HSo.out
    generalize hn1 : (l1.take i).length = n1 at ev1
    have HN1 := Aside0.mk hn1
    clear hn1
    subst ev1
    obtain ⟨x0, x1, x2, x3, u0, u1, u2, u3⟩ := blk_cells4 K3.out
    have ul := blk_lt K3.out
    have hil : l1.length ≤ 1048576 := HOK.out.1
    by_cases ci : (i : Int) < (l1.length : Int)
    · obtain ⟨ad, A1', c1', e_, hx0, hx1, hl, hC⟩ := at_T60 (Kd.C_below HR1.out HB.out) (i : Int) (by omega) (by omega)
      cases e_
      rw [Int.toNat_natCast] at hx0 hx1
      have hp : l1.take (i + 1) = l1.take i ++ [rd_T60 l1 (i : Int)] := by
        unfold rd_T60
        rw [List.take_succ_eq_append_getElem (by omega), Int.toNat_natCast, List.getD_eq_getElem?_getD, List.getElem?_eq_getElem (by omega)]
        rfl
      have hm : (rd_T60 l1 (i : Int)).f1.length ≤ 1048576 := HOK.out.2 _ (by unfold rd_T60; rw [Int.toNat_natCast, List.getD_eq_getElem?_getD, List.getElem?_eq_getElem (by omega)]; exact List.getElem_mem _)
      have HP := Aside0.mk hp
      have HM := Aside0.mk hm
      have HC := Aside0.mk hC
      have HLp := Aside0.mk hl
      clear hp hm hC hl
      generalize rd_T60 l1 (i : Int) = p at *
      go_wp2_with fail
      have N_K2 := Aside0.mk (blk_alloc K2.out (.cells #[.int .i64 p.f0, .slice A1' p.f1.length c1'] 60))
      have N_K3 := Aside0.mk (blk_alloc K3.out (.cells #[.int .i64 p.f0, .slice A1' p.f1.length c1'] 60))
      have N_HB := Aside0.mk (below_alloc HB.out (.cells #[.int .i64 p.f0, .slice A1' p.f1.length c1'] 60))
      have N_HC := Aside0.mk (Kd.C_alloc HC.out (.cells #[.int .i64 p.f0, .slice A1' p.f1.length c1'] 60))
      have N_HR := Aside0.mk (Kd.R_alloc HRo.out (.cells #[.int .i64 p.f0, .slice A1' p.f1.length c1'] 60))
      have N_HS := Aside0.mk (Kd.S_bound (Kd.S_alloc HSo.out (.cells #[.int .i64 p.f0, .slice A1' p.f1.length c1'] 60)))
      have KP := Aside0.mk (blk_new wr (.cells #[.int .i64 p.f0, .slice A1' p.f1.length c1'] 60))
      clear K2 K3 HB HC HRo HSo x0 x1 x2 x3 u0 u1 u2 u3 ul hx0 hx1
      generalize hww : wr.alloc (.cells #[.int .i64 p.f0, .slice A1' p.f1.length c1'] 60) = ww at *
      have HWW := Aside0.mk hww
      clear hww
      generalize wr.heap.size = bp at *
      obtain ⟨x0, x1, x2, x3, u0, u1, u2, u3⟩ := blk_cells4 N_K3.out
      have ul := blk_lt N_K3.out
      have pl := blk_lt KP.out
      have pz0 : ww.cell? ⟨bp, 0, none⟩ = some (.int .i64 p.f0) := (blk_cell KP.out 0).trans rfl
      have pz1 : ww.cell? ⟨bp, 1, none⟩ = some (.slice A1' p.f1.length c1') := (blk_cell KP.out 1).trans rfl
      go_region_law (first
        | (refine Kd.R_append_rows_step (Kd.int .u8) (w0 := ww.drew) (W := ww.drew) ww.drew.heap.size (by rfl) (.const (.slice none 0 0)) (.tmp 29) 22 5 (.int .u8 0) 1 rfl Try.underlying22 info5 rfl (by decide) (by omega) (.slice none 0 0) [] p.f1 _ _ _ (fun _ => True) (fun _ => False) rfl rfl (Kd.R_nil _ _ _ _ _) (Kd.C_drew N_HC.out) (fun _ _ h => h) (fun _ h => h.elim) (fun _ _ => trivial) (Below.refl _ _) (Nat.le_refl _) (by have := HM.out; simp; omega) ?_
           intro v30 w3 ho hb hg hat
           rw [List.nil_append] at ho
           obtain ⟨EA, ec, ev30⟩ := Kd.R_slice ho
           subst ev30
           have HE := Aside0.mk ho
           have HB3 := Aside0.mk hb
           clear ho hb hg hat
           have K3d := Aside0.mk (blk_below (blk_drew N_K3.out) HB3.out)
           have KPd := Aside0.mk (blk_below (blk_drew KP.out) HB3.out)
           clear x0 x1 x2 x3 u0 u1 u2 u3 ul pl pz0 pz1
           obtain ⟨x0, x1, x2, x3, u0, u1, u2, u3⟩ := blk_cells4 K3d.out
           have ul := blk_lt K3d.out
           have pl := blk_lt KPd.out
           have pz0 : w3.cell? ⟨bp, 0, none⟩ = some (.int .i64 p.f0) := (blk_cell KPd.out 0).trans rfl
           have pz1 : w3.cell? ⟨bp, 1, none⟩ = some (.slice A1' p.f1.length c1') := (blk_cell KPd.out 1).trans rfl)
        | (have hle : w.heap.size ≤ ww.drew.heap.size := N_HB.out.size
           have HR3 := Aside0.mk (Kd.R_below (Kd.R_drew N_HR.out) HB3.out)
           have HS3 := Aside0.mk (Kd.S_below (Kd.S_drew N_HS.out) HB3.out)
           have HBB := Aside0.mk (below_step (below_drew N_HB.out) HB3.out)
           have hE0 := Kd.R_base HE.out
           have hD0 := Kd.R_lt N_HR.out
           have hS0 := Kd.S_lt N_HS.out
           have dE := Aside0.mk hE0
           have dD := Aside0.mk hD0
           have dS := Aside0.mk hS0
           clear hE0 hD0 hS0
           refine Kd.S_append_step k60 (w0 := w) (W := w3) w.heap.size (by rfl) (.tmp 25) (.tmp 32) 23 60 (.agg #[(.int .i64 0), (.slice none 0 0)]) 32 rfl Try.underlying23 info60 rfl (by decide) (by omega) (.slice B1 n1 b1) (l1.take i) p [.int .i64 p.f0, .slice EA p.f1.length ec] (fun k_ => some k_ ≠ (.slice DA l0.length dc : Value).ownBlock) (fun k_ => some k_ = (.slice EA p.f1.length ec : Value).ownBlock) rfl rfl ?aP ?aK ?aF ?aO ?aB ?aS ?aL ?_
           case aP => exact k60_mkM _ _ _ p (Kd.R_tight rfl (Kd.R_lower HE.out hle))
           case aK => exact fun k hk => ⟨fun he => by have h1 := dE.out k hk.symm; have h2 := dD.out k he.symm; exact absurd h2 (Nat.not_lt.2 h1), fun he => by have h1 := dE.out k hk.symm; have h2 := dS.out k he.symm; exact absurd h2 (Nat.not_lt.2 h1)⟩
           case aF => exact fun k hk => Kd.fresh' (Kd.R_lt HR3.out) k hk
           case aO => exact Kd.S_mono HS3.out (fun k hk => ⟨hk.1, fun he => by have h1 := dE.out k he.symm; exact absurd hk.2.2.1 (Nat.not_lt.2 h1)⟩)
           case aB => exact HBB.out
           case aS => exact HBB.out.size
           case aL => (have := HN1.out; simp only [List.length_take]; omega)
           intro v33 w5 ho hb hg hat
           have HS5 := Aside0.mk ho
           have HB5 := Aside0.mk hb
           have HR5 := Aside0.mk (Kd.R_over' HR3.out (Kd.S_typed HS3.out) (by decide) hg)
           have K3e := Aside0.mk (blk_grown K3d.out hg (Kd.S_ne HS3.out K3d.out (by decide)))
           have K2d := blk_below (blk_drew N_K2.out) HB3.out
           have K2e := Aside0.mk (blk_grown K2d hg (Kd.S_ne HS3.out K2d (by decide)))
           clear ho hb hg hat K2d
           obtain ⟨GA, gc, ev33⟩ := Kd.S_slice HS5.out
           generalize hn5 : (l1.take i ++ [p]).length = n5 at ev33
           have HN5 := Aside0.mk hn5
           clear hn5
           subst ev33
           clear x0 x1 x2 x3 u0 u1 u2 u3 ul pl pz0 pz1
           obtain ⟨x0, x1, x2, x3, u0, u1, u2, u3⟩ := blk_cells4 K3e.out
           have ul := blk_lt K3e.out))
      all_goals
        go_wp2_with fail
        go_roundg (l1.length - (i + 1))
        case measure => have := HI.out; omega
        case rel =>
          refine ⟨i + 1, .slice GA n5 gc, by first | rfl | simp, ⟨by omega, rfl⟩, ⟨blk_far K2e.out (by simp) _⟩, ⟨blk_put K3e.out 1 _ rfl⟩, ⟨?_⟩, ⟨?_⟩, ⟨below_setB HB5.out (by omega) _ _⟩⟩
          · exact Kd.R_mono (Kd.R_far (p := ⟨w.heap.size + 1 + 1, 1, none⟩) (Kd.R_types HR5.out K3e.out (by decide)) (fun _ hk => hk.2) _) (fun _ _ => trivial)
          · rw [HP.out]
            exact Kd.S_mono (Kd.S_far (p := ⟨w.heap.size + 1 + 1, 1, none⟩) (Kd.S_types HS5.out K3e.out (by decide)) (fun _ hk => hk.2) _) (fun _ hk => hk.1)
    · have hi : i = l1.length := by have := HI.out; omega
      subst hi
      obtain ⟨z0, z1, z2, z3, y0, y1, y2, y3⟩ := blk_cells4 K2.out
      have yl := blk_lt K2.out
      go_wp2_with fail
      rw [List.take_length] at HSo
      refine bodyPost_ret (results_cell_row rfl _ _ (w.heap.size + 1) 25 #[.slice DA l0.length dc, .slice B1 n1 b1, .int .i64 a2, .bool a3] (0, 0) _ rfl (blk_set4 K2.out) Try.underlying25 rfl (by kernel_rfl)) rfl ⟨_, _, rfl, ?_, ?_, ?_⟩
      · exact Kd.R_mono (Kd.R_far (p := ⟨w.heap.size + 1, 3, none⟩) (Kd.R_far (p := ⟨w.heap.size + 1, 2, none⟩) (Kd.R_far (p := ⟨w.heap.size + 1, 1, none⟩) (Kd.R_far (p := ⟨w.heap.size + 1, 0, none⟩) (Kd.R_types HRo.out K2.out (by decide)) (fun _ hk => hk.2) _) (fun _ hk => hk.2) _) (fun _ hk => hk.2) _) (fun _ hk => hk.2) _) (fun _ _ => trivial)
      · exact Kd.S_mono (Kd.S_far (p := ⟨w.heap.size + 1, 3, none⟩) (Kd.S_far (p := ⟨w.heap.size + 1, 2, none⟩) (Kd.S_far (p := ⟨w.heap.size + 1, 1, none⟩) (Kd.S_far (p := ⟨w.heap.size + 1, 0, none⟩) (Kd.S_types HSo.out K2.out (by decide)) (fun _ hk => hk.2) _) (fun _ hk => hk.2) _) (fun _ hk => hk.2) _) (fun _ hk => hk.2) _) (fun _ hk => hk.1)
      · exact below_setB (below_setB (below_setB (below_setB HB.out (by omega) _ _) (by omega) _ _) (by omega) _ _) (by omega) _ _

/-! ### impl_Disk_powered: a text by hand -/
-- needs spec_DiskSync.f impl_ValidDisk.f
-- import Derived.Recover
-- import Derived.Defers
def lostP : PanicEntry := { v := .iface 81 (.agg #[]), recovered := false }
theorem ne_lost (W : World) : (binOp .neq 20 (.iface 81 (.agg #[])) (.iface 81 (.agg #[]))).run Try.prog W = .ok (.bool false) W := by
  rfl
set_option maxRecDepth 100000 in
theorem pow_catch (b : Nat) (v0 v1 : Value) (f : Int) (d : Bool) (w : World) (K : w.heap[b]? = some (.cells #[v0, v1, .int .i64 f, .bool d] 25 (0, 0))) :
    CallsD Try.prog 62 #[.pointer (some ⟨b, 0, none⟩)] (.panicking [{ v := .iface 81 (.agg #[]), recovered := false }]) w fun e u' w' =>
      e = .returned (.tuple #[]) ∧ u' = .panicking [{ v := .iface 81 (.agg #[]), recovered := true }] ∧ w' = w.setCell ⟨b, 3, none⟩ (.bool true) := by
  obtain ⟨z0, z1, z2, z3, y0, y1, y2, y3⟩ := blk_cells4 K
  have hu25 := Try.underlying25
  refine callsD_of_wpS Try.func62 rfl fun c₀ cs hu => ?_
  apply wpS_seq
  apply wpS_region
  simp [wpOpsS, go_sem, recoverD, hu, Try.ntmps62, Exit.thenS]
  refine wpS_of_wp ?_
  simp only [List.size_toArray, List.length_cons, List.length_nil, Array.replicate_succ, Array.replicate_zero, List.push_toArray, List.append_toArray, List.nil_append, List.cons_append, List.setIfInBounds_toArray, List.set_cons_zero, List.set_cons_succ]
  clear hu
  have hne := ne_lost
  have yl := blk_lt K
  clear K
  go_wp2_with fail
  simp [bodyPostS, results, Try.results62]
set_option maxRecDepth 100000 in
theorem pow_idle (b : Nat) (w : World) :
    CallsD Try.prog 62 #[.pointer (some ⟨b, 0, none⟩)] .returning w fun e u' w' =>
      e = .returned (.tuple #[]) ∧ u' = .returning ∧ w' = w := by
  refine callsD_of_wpS Try.func62 rfl fun c₀ cs hu => ?_
  apply wpS_seq
  apply wpS_region
  simp [wpOpsS, go_sem, recoverD, hu, Try.ntmps62, Exit.thenS]
  refine wpS_of_wp ?_
  simp only [List.size_toArray, List.length_cons, List.length_nil, Array.replicate_succ, Array.replicate_zero, List.push_toArray, List.append_toArray, List.nil_append, List.cons_append, List.setIfInBounds_toArray, List.set_cons_zero, List.set_cons_succ]
  go_wp2_with fail
  cases c₀
  simp_all [bodyPostS, results, Try.results62]

/-! ### impl_Disk_powered1: a text by hand -/
-- needs spec_DiskSync.f impl_ValidDisk.f
-- import Derived.Recover
-- import Derived.Defers
set_option maxRecDepth 100000 in
theorem pow1_dies (b bf g : Nat) (cap : Array Value) (w : World) (X : World → Prop) (hcf : ∀ (args : Array Value) (W : World), (callFunc g args).run Try.prog W = .ok (.enter g args) W) (hf : w.cell? ⟨bf, 0, none⟩ = some (.func (.func g) #[] cap))
    (HC : Calls Try.prog g (#[.pointer (some ⟨b, 0, none⟩)] ++ cap) w fun e w' => e = .panicked [{ v := .iface 81 (.agg #[]), recovered := false }] ∧ X w')
    (hX : ∀ w', X w' → ∃ v0 v1 f d, w'.heap[b]? = some (.cells #[v0, v1, .int .i64 f, .bool d] 25 (0, 0))) :
    Calls Try.prog 61 #[.pointer (some ⟨b, 0, none⟩), .pointer (some ⟨bf, 0, none⟩)] w fun e w' => e = .returned (.tuple #[]) ∧ ∃ w1, X w1 ∧ w' = w1.setCell ⟨b, 3, none⟩ (.bool true) := by
  have hmf : ∀ (fn : Fn) (first cap : Array Value) (w : World), (Instr.makeFunc fn first cap).run Try.prog w = .ok (.func fn first cap) w := fun _ _ _ _ => rfl
  go_enter_defers Try.func61, Try.ntmps61
  go_wp2_with fail
  refine HC.mono ?_
  rintro e w1 ⟨rfl, hx⟩
  obtain ⟨v0, v1, f, d, hb⟩ := hX w1 hx
  go_wp2_with fail
  refine leaves_cons (f := 62) (args := #[.pointer (some ⟨b, 0, none⟩)]) (by simp) (by simp [go_sem]) ?_
  refine (pow_catch b v0 v1 f d w1 hb).mono ?_
  rintro e u' w2 ⟨rfl, rfl, rfl⟩
  simp [Leaves, settle, results, Try.results61, go_sem]
  exact ⟨w1, hx, rfl⟩
set_option maxRecDepth 100000 in
theorem pow1_lives (b bf g : Nat) (cap : Array Value) (w : World) (X : World → Prop) (hcf : ∀ (args : Array Value) (W : World), (callFunc g args).run Try.prog W = .ok (.enter g args) W) (hf : w.cell? ⟨bf, 0, none⟩ = some (.func (.func g) #[] cap))
    (HC : Calls Try.prog g (#[.pointer (some ⟨b, 0, none⟩)] ++ cap) w fun e w' => e = .returned (.tuple #[]) ∧ X w') :
    Calls Try.prog 61 #[.pointer (some ⟨b, 0, none⟩), .pointer (some ⟨bf, 0, none⟩)] w fun e w' => e = .returned (.tuple #[]) ∧ X w' := by
  have hmf : ∀ (fn : Fn) (first cap : Array Value) (w : World), (Instr.makeFunc fn first cap).run Try.prog w = .ok (.func fn first cap) w := fun _ _ _ _ => rfl
  go_enter_defers Try.func61, Try.ntmps61
  go_wp2_with fail
  refine HC.mono ?_
  rintro e w1 ⟨rfl, hx⟩
  go_wp2_with fail
  refine leaves_cons (f := 62) (args := #[.pointer (some ⟨b, 0, none⟩)]) (by simp) (by simp [go_sem]) ?_
  refine (pow_idle b w1).mono ?_
  rintro e u' w2 ⟨rfl, rfl, rfl⟩
  simp [Leaves, settle, results, Try.results61, go_sem]
  exact hx

/-! ### impl_Disk_powered2: a text by hand -/
-- needs spec_DiskSync.f impl_ValidDisk.f
def PowX (lo b : Nat) (W : World) (r1 : List Int) (r2 : List S60) (r3 : Int) (r4 : Bool) (W' : World) : Prop :=
  ∃ (A B : Option Addr) (n c m d : Nat), W'.heap[b]? = some (.cells #[.slice A n c, .slice B m d, .int .i64 r3, .bool r4] 25 (0, 0)) ∧ Kd.R (Kd.int .u8) 5 W' lo (fun _ => True) (.slice A n c) r1 ∧ Kd.S k60 60 W' lo (fun k => some k ≠ (.slice A n c : Value).ownBlock) (.slice B m d) r2 ∧ Below lo W W'
set_option maxHeartbeats 4000000 in
set_option maxRecDepth 100000 in
theorem impl_Disk_powered.calls (g : Nat) (cap : Array Value) (hcf : ∀ (args : Array Value) (W : World), (callFunc g args).run Try.prog W = .ok (.enter g args) W) (A0 : Option Addr) (c0 : Nat) (l0 : List Int) (A1 : Option Addr) (c1 : Nat) (l1 : List S60) (a2 : Int) (a3 : Bool) (w : World) (hr0 : Kd.C (Kd.int .u8) w A0 l0.length l0) (hc0 : l0.length ≤ c0) (hr1 : Kd.C k60 w A1 l1.length l1) (hc1 : l1.length ≤ c1) (h0 : l0.length ≤ 1048576) (hok : okPendS l1)
    (die : Bool) (r1 : List Int) (r2 : List S60) (r3 : Int) (r4 : Bool)
    (HC : ∀ (lo b : Nat) (W : World), w.heap.size ≤ lo → lo ≤ b → Below w.heap.size w W → PowX lo b W l0 l1 a2 a3 W →
      Calls Try.prog g (#[.pointer (some ⟨b, 0, none⟩)] ++ cap) W fun e W' => e = (if die = true then .panicked [{ v := .iface 81 (.agg #[]), recovered := false }] else .returned (.tuple #[])) ∧ PowX lo b W r1 r2 r3 r4 W') :
    Calls Try.prog 50 #[.agg #[.slice A0 l0.length c0, .slice A1 l1.length c1, .int .i64 a2, .bool a3], .func (.func g) #[] cap] w fun e w' => ∃ v0_ v1_ : Value, e = .returned (.agg #[v0_, v1_, .int .i64 r3, .bool (r4 || die)]) ∧ Kd.R (Kd.int .u8) 5 w' w.heap.size (fun _ => True) v0_ r1 ∧ Kd.S k60 60 w' w.heap.size (fun k_ => some k_ ≠ (v0_ : Value).ownBlock) v1_ r2 ∧ Below w.heap.size w w' := by
  have HR0 := Aside0.mk hr0
  have HC0 := Aside0.mk hc0
  have HR1 := Aside0.mk hr1
  have HC1 := Aside0.mk hc1
  have HCB := Aside0.mk HC
  have HCF := Aside0.mk hcf
  have HOK := Aside0.mk hok
  have HL0 := Aside0.mk h0
  clear hr0 hc0 hr1 hc1 HC hcf hok h0
  have hu25 := Try.underlying25
  have hmf : ∀ (fn : Fn) (first cap : Array Value) (w : World), (Instr.makeFunc fn first cap).run Try.prog w = .ok (.func fn first cap) w := fun _ _ _ _ => rfl
  have HB := Aside0.mk (Below.refl w.heap.size w)
  go_enter Try.func50, Try.ntmps50
  go_wp2_with fail
  refine (impl_Disk_clone.calls _ _ l0 _ _ l1 a2 a3 _ (Kd.C_alloc (Kd.C_alloc (Kd.C_alloc HR0.out _) _) _) HC0.out (Kd.C_alloc (Kd.C_alloc (Kd.C_alloc HR1.out _) _) _) HC1.out HL0.out HOK.out).mono ?_
  rintro e w1 ⟨v0, v1, rfl, hR, hS, gb⟩
  obtain ⟨DA, dc, rfl⟩ := Kd.R_slice hR
  obtain ⟨EA, ec, rfl⟩ := Kd.S_slice hS
  have K3 := Aside0.mk (blk_below (blk_alloc (blk_new2 w _ _) _) gb)
  have K4 := Aside0.mk (blk_below (blk_new3 w _ _ _) gb)
  have N_HB := Aside0.mk (below_step (below_alloc (below_alloc (below_alloc HB.out _) _) _) gb)
  clear HB
  have HB := N_HB
  clear N_HB
  simp only [World.size_alloc] at hR hS gb
  have hsz := gb.size
  have k4 := blk_lt K4.out
  have k3 := blk_lt K3.out
  clear gb
  go_wp2_with fail
  have W0 := below_alloc HB.out (.cells #[.slice DA l0.length dc, .slice EA l1.length ec, .int .i64 a2, .bool a3] 25)
  have hX0 : PowX (w.heap.size + 1 + 1 + 1) w1.heap.size (w1.alloc (.cells #[.slice DA l0.length dc, .slice EA l1.length ec, .int .i64 a2, .bool a3] 25)) l0 l1 a2 a3 (w1.alloc (.cells #[.slice DA l0.length dc, .slice EA l1.length ec, .int .i64 a2, .bool a3] 25)) :=
    ⟨DA, EA, _, dc, _, ec, blk_new _ _, Kd.R_alloc hR _, Kd.S_alloc hS _, ⟨rfl, rfl, rfl, Nat.le_refl _, fun _ _ => rfl⟩⟩
  have hC := HCB.out (w.heap.size + 1 + 1 + 1) w1.heap.size _ (by omega) (by have := HB.out.size; simpa using hsz) W0 hX0
  have hcell : (w1.alloc (.cells #[.slice DA l0.length dc, .slice EA l1.length ec, .int .i64 a2, .bool a3] 25)).cell? ⟨w.heap.size + 1, 0, none⟩ = some (.func (.func g) #[] cap) := (blk_cell (blk_alloc K3.out _) 0).trans rfl
  have K4a := Aside0.mk (blk_alloc K4.out (.cells #[.slice DA l0.length dc, .slice EA l1.length ec, .int .i64 a2, .bool a3] 25))
  generalize hW : w1.alloc (.cells #[.slice DA l0.length dc, .slice EA l1.length ec, .int .i64 a2, .bool a3] 25) = W at *
  have HW := Aside0.mk hW
  have HWB := Aside0.mk W0
  clear hW hX0 W0 hR hS K3 K4 k3 k4
  have hb5 : w.heap.size + 1 + 1 + 1 ≤ w1.heap.size := by simpa using hsz
  clear hsz
  generalize w1.heap.size = b5 at *
  cases die with
  | true =>
    refine (pow1_dies b5 (w.heap.size + 1) g cap W (PowX (w.heap.size + 1 + 1 + 1) b5 W r1 r2 r3 r4) HCF.out hcell (by simpa using hC) (fun w' hx => by obtain ⟨A, B, n, c, m, d, hb, _⟩ := hx; exact ⟨_, _, _, _, hb⟩)).mono ?_
    rintro e w3 ⟨rfl, w2, ⟨A, B, n, c, m, d, hb, hR, hS, hbb⟩, rfl⟩
    have K5 := Aside0.mk (blk_put hb 3 (.bool true) rfl)
    have K4c := Aside0.mk (show (w2.setCell ⟨b5, 3, none⟩ (.bool true)).heap[w.heap.size + 1 + 1]? = _ from blk_far ((hbb.block _ (by omega)).trans K4a.out) (by show w.heap.size + 1 + 1 ≠ b5; omega) _)
    have HR5 := Aside0.mk (Kd.R_mono (Kd.R_far (p := ⟨b5, 3, none⟩) (Kd.R_types hR hb (by decide)) (fun _ hk => hk.2) (.bool true)) (ok' := fun _ => True) (fun _ _ => trivial))
    have HS5 := Aside0.mk (Kd.S_mono (Kd.S_far (p := ⟨b5, 3, none⟩) (Kd.S_types hS hb (by decide)) (fun _ hk => hk.2) (.bool true)) (ok' := fun k => some k ≠ (.slice A n c : Value).ownBlock) (fun _ hk => hk.1))
    have HB5 := Aside0.mk (show Below (w.heap.size + 1 + 1 + 1) W (w2.setCell ⟨b5, 3, none⟩ (.bool true)) from hbb.setCell hb5 _)
    clear hb hR hS hbb hcell hC
    generalize w2.setCell ⟨b5, 3, none⟩ (.bool true) = w3 at *
    obtain ⟨z0, z1, z2, z3, y0, y1, y2, y3⟩ := blk_cells4 K5.out
    obtain ⟨x0, x1, x2, x3, u0, u1, u2, u3⟩ := blk_cells4 K4c.out
    have yl := blk_lt K5.out
    have ul := blk_lt K4c.out
    go_wp2_with fail
    refine bodyPost_ret (results_cell_row rfl _ _ (w.heap.size + 1 + 1) 25 #[.slice A n c, .slice B m d, .int .i64 r3, .bool true] (0, 0) _ rfl (blk_set4 K4c.out) Try.underlying25 rfl (by kernel_rfl)) rfl ⟨.slice A n c, .slice B m d, by simp, ?_, ?_, ?_⟩
    · exact Kd.R_lower (R_farB (R_farB (R_farB (R_farB HR5.out (by omega) _ _) (by omega) _ _) (by omega) _ _) (by omega) _ _) (by omega)
    · exact Kd.S_lower (S_farB (S_farB (S_farB (S_farB HS5.out (by omega) _ _) (by omega) _ _) (by omega) _ _) (by omega) _ _) (by omega)
    · exact below_setB (below_setB (below_setB (below_setB (below_weaken HWB.out (by omega) HB5.out) (by omega) _ _) (by omega) _ _) (by omega) _ _) (by omega) _ _
  | false =>
    refine (pow1_lives b5 (w.heap.size + 1) g cap W (PowX (w.heap.size + 1 + 1 + 1) b5 W r1 r2 r3 r4) HCF.out hcell (by simpa using hC)).mono ?_
    rintro e w3 ⟨rfl, A, B, n, c, m, d, hb, hR, hS, hbb⟩
    have K5 := Aside0.mk hb
    have K4c := Aside0.mk ((hbb.block _ (by omega)).trans K4a.out)
    have HR5 := Aside0.mk hR
    have HS5 := Aside0.mk hS
    have HB5 := Aside0.mk hbb
    clear hb hR hS hbb hcell hC
    obtain ⟨z0, z1, z2, z3, y0, y1, y2, y3⟩ := blk_cells4 K5.out
    obtain ⟨x0, x1, x2, x3, u0, u1, u2, u3⟩ := blk_cells4 K4c.out
    have yl := blk_lt K5.out
    have ul := blk_lt K4c.out
    go_wp2_with fail
    refine bodyPost_ret (results_cell_row rfl _ _ (w.heap.size + 1 + 1) 25 #[.slice A n c, .slice B m d, .int .i64 r3, .bool r4] (0, 0) _ rfl (blk_set4 K4c.out) Try.underlying25 rfl (by kernel_rfl)) rfl ⟨.slice A n c, .slice B m d, by simp, ?_, ?_, ?_⟩
    · exact Kd.R_lower (R_farB (R_farB (R_farB (R_farB HR5.out (by omega) _ _) (by omega) _ _) (by omega) _ _) (by omega) _ _) (by omega)
    · exact Kd.S_lower (S_farB (S_farB (S_farB (S_farB HS5.out (by omega) _ _) (by omega) _ _) (by omega) _ _) (by omega) _ _) (by omega)
    · exact below_setB (below_setB (below_setB (below_setB (below_weaken HWB.out (by omega) HB5.out) (by omega) _ _) (by omega) _ _) (by omega) _ _) (by omega) _ _

/-! ### impl_Disk_spend: a text by hand -/
-- needs spec_DiskSync.f impl_ValidDisk.f
set_option maxRecDepth 100000 in
theorem spend_dies (b : Nat) (v0 v1 : Value) (d : Bool) (w : World) (K : w.heap[b]? = some (.cells #[v0, v1, .int .i64 0, .bool d] 25 (0, 0))) :
    Calls Try.prog 63 #[.pointer (some ⟨b, 0, none⟩)] w fun e w' => e = .panicked [{ v := .iface 81 (.agg #[]), recovered := false }] ∧ w' = w := by
  have hu25 := Try.underlying25
  obtain ⟨z0, z1, z2, z3, y0, y1, y2, y3⟩ := blk_cells4 K
  have yl := blk_lt K
  clear K
  have hpn : ∀ (t : TypeId) (v : Value) (W : World), (Instr.panic (.iface t v)).run Try.prog W = .halt (.panic (.iface t v)) W := fun _ _ _ => rfl
  go_enter Try.func63, Try.ntmps63
  go_wp2_with fail
  exact ⟨rfl, rfl, rfl⟩
set_option maxRecDepth 100000 in
theorem spend_ok (b : Nat) (v0 v1 : Value) (f : Int) (d : Bool) (w : World) (hf : f ≠ 0) (h1 : -1 ≤ f) (h2 : f ≤ 1000000) (K : w.heap[b]? = some (.cells #[v0, v1, .int .i64 f, .bool d] 25 (0, 0))) :
    Calls Try.prog 63 #[.pointer (some ⟨b, 0, none⟩)] w fun e w' => e = .returned (.tuple #[]) ∧ w' = if 0 < f then w.setCell ⟨b, 2, none⟩ (.int .i64 (f - 1)) else w := by
  have hu25 := Try.underlying25
  obtain ⟨z0, z1, z2, z3, y0, y1, y2, y3⟩ := blk_cells4 K
  have yl := blk_lt K
  clear K
  go_enter Try.func63, Try.ntmps63
  have c0 : (f == 0) = false := beq_eq_false_iff_ne.2 hf
  by_cases hp : 0 < f
  · rw [if_pos hp]
    go_wp2_with fail
    go_end0
    exact ⟨rfl, rfl⟩
  · rw [if_neg hp]
    go_wp2_with fail
    go_end0
    exact ⟨rfl, rfl⟩
end Go.Proofs.Ytbimdcekcemcoaa.PD
