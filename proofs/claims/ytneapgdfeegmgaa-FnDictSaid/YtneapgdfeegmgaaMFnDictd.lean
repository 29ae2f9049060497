-- Made by this session's programs out of the translation and of its own texts.
import Derived.Test.YtneapgdfeegmgaaMFnDictc
namespace Go.Proofs.Ytneapgdfeegmgaa.PI
open Go.RowKit Go.Proofs.YtneapgdfeegmgaaW.PrintWords Go.Proofs.YtneapgdfeegmgaaW.PrintLast Go.Proofs.YtneapgdfeegmgaaW.PrintMore
attribute [local go_sem] max2_int min2_int max_two min_two max_three min_three max_four min_four   -- for this text's walks alone
set_option linter.unusedVariables false
set_option linter.unusedSimpArgs false

/-! ### spec_Release: function 24 -/
def spec_Release.j0 : Nat → Int → Int → Bool → Int → List (S51) → Int → List (S51) → Option (Bool × Int × Int × (List (S51)))
  | 0, _, _, _, _, _, _, _ => none
  | k + 1, x1, x6, x18, x341000, x341001, x347000, x347001 => if x18 = true then (some (false, 0, x347000, x347001)) else (if 0 ≤ x6 then (if x6 < (x347001.length : Int) then (if (wrap64 (((rd_T51 x347001 x6).f2) - 1)) = 0 then ((some (([] : List (S51)) : List (S51))).bind fun y352 => (if x6 ≤ (x341001.length : Int) then ((some (x341001.take (x6 : Int).toNat : List (S51))).bind fun y355 => (if y352.length + y355.length < 4398046511104 then ((some (y352 ++ y355 : List (S51))).bind fun y359 => (if 0 ≤ (wrap64 (x6 + 1)) then (if (wrap64 (x6 + 1)) ≤ (x341001.length : Int) then ((some (x341001.drop ((wrap64 (x6 + 1)) : Int).toNat : List (S51))).bind fun y362 => (if y359.length + y362.length < 4398046511104 then (some (true, x1, x347000, (y359 ++ y362))) else (none))) else (none)) else (none))) else (none))) else (none))) else (some (true, x1, x347000, (x347001.set (x6 : Int).toNat (⟨(rd_T51 x347001 x6).f0, (rd_T51 x347001 x6).f1, wrap64 (((rd_T51 x347001 x6).f2) - 1)⟩ : S51))))) else (none)) else (none))
def spec_Release.f (k : Nat) (a0_0 : Int) (l0_1 : List (S51)) (a1 : Int) : Option (Bool × Int × Int × (List (S51))) := (spec_l4Copy.f a0_0 l0_1).bind fun bt342 => ((spec_l4ById.f k a0_0 l0_1 a1).bind fun t347 => ((spec_ValidDict.f k a0_0 l0_1).bind fun t348 => (if t348 = true then (spec_Release.j0 k a1 t347 (decide (t347 < 0)) a0_0 l0_1 bt342.1 bt342.2) else (spec_Release.j0 k a1 t347 true a0_0 l0_1 bt342.1 bt342.2))))
theorem spec_Release.mono_l : ∀ k, (∀ y0 y1 y2 y3 y4 y5 y6, LeO (spec_Release.j0 k y0 y1 y2 y3 y4 y5 y6) (spec_Release.j0 (k + 1) y0 y1 y2 y3 y4 y5 y6))
  | 0 => fun _ _ _ _ _ _ _ r h => by simp [spec_Release.j0] at h
  | k + 1 => by
    have ih0 := spec_Release.mono_l k
    · intro y0 y1 y2 y3 y4 y5 y6
      unfold spec_Release.j0
      repeat' first
      | (with_reducible exact ih0 _ _ _ _ _ _ _)
      | (with_reducible exact spec_ValidDict.mono _ _ _)
      | (with_reducible exact spec_l4ById.mono _ _ _ _)
      | (with_reducible exact LeO.refl _)
      | (with_reducible exact LeO.none _)
      | (with_reducible refine LeO.ite ?_ ?_)
      | (with_reducible refine LeO.bind ?_ (fun _ => ?_))
      | exact ih0 _ _ _ _ _ _ _
      | exact spec_ValidDict.mono _ _ _
      | exact spec_l4ById.mono _ _ _ _
      | exact LeO.none _
      | refine LeO.ite ?_ ?_
      | refine LeO.bind ?_ (fun _ => ?_)
theorem spec_Release.mono : ∀ a0 a1 a2 k, LeO (spec_Release.f k a0 a1 a2) (spec_Release.f (k + 1) a0 a1 a2) := by
  intro a0 a1 a2 k
  have ih0 := spec_Release.mono_l k
  unfold spec_Release.f
  repeat' first
      | (with_reducible exact ih0 _ _ _ _ _ _ _)
      | (with_reducible exact spec_ValidDict.mono _ _ _)
      | (with_reducible exact spec_l4ById.mono _ _ _ _)
      | (with_reducible exact LeO.refl _)
      | (with_reducible exact LeO.none _)
      | (with_reducible refine LeO.ite ?_ ?_)
      | (with_reducible refine LeO.bind ?_ (fun _ => ?_))
      | exact ih0 _ _ _ _ _ _ _
      | exact spec_ValidDict.mono _ _ _
      | exact spec_l4ById.mono _ _ _ _
      | exact LeO.none _
      | refine LeO.ite ?_ ?_
      | refine LeO.bind ?_ (fun _ => ?_)
def spec_Release.T5 : Bool × List (List Nat × List Nat) := (true, [([], []), ([0], [0]), ([], []), ([], []), ([3], [3]), ([], []), ([4, 5], [4, 5]), ([6], [6]), ([7], [7]), ([8], [8]), ([1, 2, 0, 1, 2, 3, 4, 5, 6, 7, 8, 9], [1, 2]), ([10, 0, 1, 2, 3, 4, 5, 6, 7, 8, 9], [10]), ([11, 9, 0, 1, 2, 3, 4, 5, 6, 7, 8, 9], [9, 11])])
def spec_Release.B5 : List Nat := [0, 1, 0, 0, 8, 0, 56, 120, 248, 504, 1023, 2047, 4095]
theorem spec_Release.tab5 : rtab .any (opsOf Try.f24 5) = spec_Release.T5 := by kernel_rfl
theorem spec_Release.bits5 : waitsOk spec_Release.T5.2 spec_Release.B5 = true := by kernel_rfl
def spec_Release.T7 : Bool × List (List Nat × List Nat) := (true, [([], []), ([], []), ([1], [1]), ([], []), ([2, 3], [2, 3]), ([0, 4], [0, 4]), ([], []), ([6], [6]), ([], []), ([8], [8]), ([7, 9], [7, 9]), ([5, 10, 5], [5, 10]), ([0, 1, 2, 3, 4, 5, 6, 7, 8, 9, 10, 11], []), ([12, 11, 11, 0, 1, 2, 3, 4, 5, 6, 7, 8, 9, 10, 11], [11, 12])])
def spec_Release.B7 : List Nat := [0, 0, 2, 0, 14, 31, 0, 64, 0, 256, 960, 2047, 4095, 8191]
theorem spec_Release.tab7 : rtab .any (opsOf Try.f24 7) = spec_Release.T7 := by kernel_rfl
theorem spec_Release.bits7 : waitsOk spec_Release.T7.2 spec_Release.B7 = true := by kernel_rfl
set_option maxHeartbeats 8000000 in
set_option maxRecDepth 100000 in
theorem spec_Release.calls (k : Nat) (a0_0 : Int) (A0_1 : Option Addr) (c0_1 : Nat) (l0_1 : List (S51)) (a1 : Int) (r1 : Bool) (r2 : Int) (r3 : Int) (r4 : List (S51)) (w : World) (hr0_1 : Kd.C k51 w A0_1 l0_1.length l0_1) (hc0_1 : l0_1.length ≤ c0_1) (h : spec_Release.f k a0_0 l0_1 a1 = some (r1, r2, r3, r4)) :
    Calls Try.prog 24 #[.agg #[.int .i64 a0_0, .slice A0_1 l0_1.length c0_1], .int .i64 a1] w fun e w' => ∃ v3_ : Value, e = .returned (.agg #[.bool r1, .int .i64 r2, .int .i64 r3, v3_]) ∧ Kd.R k51 51 w' w.heap.size (fun _ => True) v3_ r4 ∧ Below w.heap.size w w' := by
  have hu29 := Try.underlying29
  have hu38 := Try.underlying38
  have HR0_1 := Aside0.mk hr0_1
  have HC0_1 := Aside0.mk hc0_1
  clear hr0_1 hc0_1
  have HB := Aside0.mk (Below.refl w.heap.size w)
  have H : ((spec_l4Copy.f a0_0 l0_1).bind fun bt342 => ((spec_l4ById.f k a0_0 l0_1 a1).bind fun t347 => ((spec_ValidDict.f k a0_0 l0_1).bind fun t348 => (if t348 = true then (spec_Release.j0 k a1 t347 (decide (t347 < 0)) a0_0 l0_1 bt342.1 bt342.2) else (spec_Release.j0 k a1 t347 true a0_0 l0_1 bt342.1 bt342.2))))) = some (r1, r2, r3, r4) := h
  clear h
  replace H := Option.bind_eq_some_iff.mp H
  obtain ⟨⟨t342, t343⟩, A30, H⟩ := H
  replace H : ((spec_l4ById.f k a0_0 l0_1 a1).bind fun t347 => ((spec_ValidDict.f k a0_0 l0_1).bind fun t348 => (if t348 = true then (spec_Release.j0 k a1 t347 (decide (t347 < 0)) a0_0 l0_1 t342 t343) else (spec_Release.j0 k a1 t347 true a0_0 l0_1 t342 t343)))) = some (r1, r2, r3, r4) := H
  have A3 := Aside0.mk A30
  clear A30
  replace H := Option.bind_eq_some_iff.mp H
  obtain ⟨t347, A40, H⟩ := H
  replace H : ((spec_ValidDict.f k a0_0 l0_1).bind fun t348 => (if t348 = true then (spec_Release.j0 k a1 t347 (decide (t347 < 0)) a0_0 l0_1 t342 t343) else (spec_Release.j0 k a1 t347 true a0_0 l0_1 t342 t343))) = some (r1, r2, r3, r4) := H
  have A4 := Aside0.mk A40
  clear A40
  have HC5 := Aside0.mk H
  clear H
  go_enter Try.func24, Try.ntmps24
  go_upto_region 3 with (first | ((with_reducible refine gate_dst (N := 2) rfl ?_); refine box_event ?hg (N := 2) ?hd (cs := #[.int .i64 a0_0, .slice A0_1 l0_1.length c0_1]) (t := 29) ?hr ?_; (case hd => rfl); (case hg => rfl); (case hr => first | (go_simp; done) | (go_simp; rfl)); intro gb340 hg w6 hbox hb; have n0_ := Aside0.mk (below_step (by repeat (first | (with_reducible first | exact HB.out | apply below_alloc | apply pw_below_drewN | apply below_drew1) | exact HB.out)) hb); have n1_ := Aside0.mk (hbox); have n2_ := Aside0.mk ((by rw [hg]; exact (below_size (by repeat (first | (with_reducible first | exact HB.out | apply below_alloc | apply pw_below_drewN | apply below_drew1) | exact HB.out))) : w.heap.size ≤ gb340)); have n3_ := Aside0.mk ((by rw [hg]; exact (below_size (by repeat (first | (with_reducible first | exact HB.out | apply below_alloc | apply pw_below_drewN | apply below_drew1) | exact HB.out))) : w.heap.size ≤ gb340)); clear HB; have HB := n0_; have BK340 := n1_; have GW340 := n2_; have GE340 := n3_; clear n0_ n1_ n2_ n3_; clear hb hbox hg) | ((with_reducible refine gate_dst (N := 4) rfl ?_); refine box_event ?hg (N := 4) ?hd (cs := #[.bool false, .int .i64 0, .int .i64 0, .slice none 0 0]) (t := 38) ?hr ?_; (case hd => rfl); (case hg => rfl); (case hr => first | (go_simp; done) | (go_simp; rfl)); intro gb341 hg w7 hbox hb; have n0_ := Aside0.mk (blk_below (g := gb340) (o := .cells #[.int .i64 a0_0, .slice A0_1 l0_1.length c0_1] 29 (0, 0)) (by (with_reducible repeat (first | refine blk_drewN ?_ _ | refine blk_drew ?_ | refine blk_alloc ?_ _)); exact BK340.out) hb); have n1_ := Aside0.mk (below_step (by repeat (first | (with_reducible first | exact HB.out | apply below_alloc | apply pw_below_drewN | apply below_drew1 | refine below_set ?_ GE340.out) | exact HB.out)) hb); have n2_ := Aside0.mk (hbox); have n3_ := Aside0.mk ((by rw [hg]; exact (below_size (by repeat (first | (with_reducible first | exact HB.out | apply below_alloc | apply pw_below_drewN | apply below_drew1 | refine below_set ?_ GE340.out) | exact HB.out))) : w.heap.size ≤ gb341)); have n4_ := Aside0.mk ((by rw [hg]; exact (below_size (by repeat (first | (with_reducible first | exact HB.out | apply below_alloc | apply pw_below_drewN | apply below_drew1 | refine below_set ?_ GE340.out) | exact HB.out))) : w.heap.size ≤ gb341)); have n5_ := Aside0.mk ((by rw [hg]; exact Nat.ne_of_lt (blk_lt (g := gb340) (o := .cells #[.int .i64 a0_0, .slice A0_1 l0_1.length c0_1] 29 (0, 0)) (by (with_reducible repeat (first | refine blk_drewN ?_ _ | refine blk_drew ?_ | refine blk_alloc ?_ _)); exact BK340.out)) : gb340 ≠ gb341)); have n6_ := Aside0.mk ((by rw [hg]; exact Nat.ne_of_gt (blk_lt (g := gb340) (o := .cells #[.int .i64 a0_0, .slice A0_1 l0_1.length c0_1] 29 (0, 0)) (by (with_reducible repeat (first | refine blk_drewN ?_ _ | refine blk_drew ?_ | refine blk_alloc ?_ _)); exact BK340.out)) : gb341 ≠ gb340)); clear BK340; clear HB; have BK340 := n0_; have HB := n1_; have BK341 := n2_; have GW341 := n3_; have GE341 := n4_; have NB340_341 := n5_; have NB341_340 := n6_; clear n0_ n1_ n2_ n3_ n4_ n5_ n6_; clear hb hbox hg; have hnb8 := NB340_341.out; have hnc8 := NB341_340.out; have hcz9_0 : w7.cell? ⟨gb340, 0, none⟩ = some (.int .i64 a0_0) := (blk_cell BK340.out 0).trans rfl; have hcz9_1 : w7.cell? ⟨gb340, 1, none⟩ = some (.slice A0_1 l0_1.length c0_1) := (blk_cell BK340.out 1).trans rfl; have hfz9_0 := blk_frozen BK340.out 0; have hfz9_1 := blk_frozen BK340.out 1) | ((with_reducible refine gate_callee (f := 38) rfl ?_); refine goesL_ (some 8) rfl rfl Try.func38 (by kernel_rfl) rfl #[.agg #[.int .i64 a0_0, .slice A0_1 l0_1.length c0_1]] rfl (by (try simp only [List.map_toArray, List.map_cons, List.map_nil]); first | done | rfl | (simp only [List.length_drop, List.length_take]; rfl)) ?_; (with_reducible refine (spec_l4Copy.calls a0_0 _ _ l0_1 t342 t343 _ ?side1 ?side2 A3.out).mono ?_); (case side1 => repeat (first | exact (Kd.C_below HR0_1.out HB.out) | (with_reducible refine Kd.C_alloc ?_ _) | (with_reducible refine Kd.C_drewN ?_ _) | (with_reducible refine Kd.C_drew ?_))); (case side2 => exact HC0_1.out); rintro e w10 ⟨v344, rfl, ho0, hb⟩; refine ⟨_, rfl, ?_⟩; have n0_ := Aside0.mk (Kd.R_lower ho0 (below_size (by repeat (first | (with_reducible first | exact HB.out | apply below_alloc | apply pw_below_drewN | apply below_drew1 | refine below_set ?_ GE340.out | refine below_set ?_ GE341.out) | exact HB.out)))); have n1_ := Aside0.mk (blk_below (g := gb340) (o := .cells #[.int .i64 a0_0, .slice A0_1 l0_1.length c0_1] 29 (0, 0)) (by (with_reducible repeat (first | refine blk_drewN ?_ _ | refine blk_drew ?_ | refine blk_alloc ?_ _)); exact BK340.out) hb); have n2_ := Aside0.mk (blk_below (g := gb341) (o := .cells #[.bool false, .int .i64 0, .int .i64 0, .slice none 0 0] 38 (0, 0)) (by (with_reducible repeat (first | refine blk_drewN ?_ _ | refine blk_drew ?_ | refine blk_alloc ?_ _)); exact BK341.out) hb); have n3_ := Aside0.mk (below_step (by repeat (first | (with_reducible first | exact HB.out | apply below_alloc | apply pw_below_drewN | apply below_drew1 | refine below_set ?_ GE340.out | refine below_set ?_ GE341.out) | exact HB.out)) hb); clear BK340; clear BK341; clear HB; have HO345 := n0_; have BK340 := n1_; have BK341 := n2_; have HB := n3_; clear n0_ n1_ n2_ n3_; (try clear hb); (try clear hb2); (try clear hk); (try clear hi); (try clear ho0)) | ((with_reducible refine gate_dst (N := 5) rfl ?_); refine box_event ?hg (N := 5) ?hd (cs := #[.int .i64 0, .slice none 0 0]) (t := 29) ?hr ?_; (case hd => rfl); (case hg => rfl); (case hr => first | (go_simp; done) | (go_simp; rfl)); intro gb346 hg w11 hbox hb; have n0_ := Aside0.mk (Kd.R_below (by (with_reducible repeat (first | apply Kd.R_alloc | apply Kd.R_drewN | apply Kd.R_drew)); exact HO345.out) hb); have n1_ := Aside0.mk (blk_below (g := gb340) (o := .cells #[.int .i64 a0_0, .slice A0_1 l0_1.length c0_1] 29 (0, 0)) (by (with_reducible repeat (first | refine blk_drewN ?_ _ | refine blk_drew ?_ | refine blk_alloc ?_ _)); exact BK340.out) hb); have n2_ := Aside0.mk (blk_below (g := gb341) (o := .cells #[.bool false, .int .i64 0, .int .i64 0, .slice none 0 0] 38 (0, 0)) (by (with_reducible repeat (first | refine blk_drewN ?_ _ | refine blk_drew ?_ | refine blk_alloc ?_ _)); exact BK341.out) hb); have n3_ := Aside0.mk (below_step (by repeat (first | (with_reducible first | exact HB.out | apply below_alloc | apply pw_below_drewN | apply below_drew1 | refine below_set ?_ GE340.out | refine below_set ?_ GE341.out) | exact HB.out)) hb); have n4_ := Aside0.mk (hbox); have n5_ := Aside0.mk ((by rw [hg]; exact (below_size (by repeat (first | (with_reducible first | exact HB.out | apply below_alloc | apply pw_below_drewN | apply below_drew1 | refine below_set ?_ GE340.out | refine below_set ?_ GE341.out) | exact HB.out))) : w.heap.size ≤ gb346)); have n6_ := Aside0.mk ((by rw [hg]; exact (below_size (by repeat (first | (with_reducible first | exact HB.out | apply below_alloc | apply pw_below_drewN | apply below_drew1 | refine below_set ?_ GE340.out | refine below_set ?_ GE341.out) | exact HB.out))) : w.heap.size ≤ gb346)); have n7_ := Aside0.mk ((by rw [hg]; exact Nat.ne_of_lt (blk_lt (g := gb340) (o := .cells #[.int .i64 a0_0, .slice A0_1 l0_1.length c0_1] 29 (0, 0)) (by (with_reducible repeat (first | refine blk_drewN ?_ _ | refine blk_drew ?_ | refine blk_alloc ?_ _)); exact BK340.out)) : gb340 ≠ gb346)); have n8_ := Aside0.mk ((by rw [hg]; exact Nat.ne_of_gt (blk_lt (g := gb340) (o := .cells #[.int .i64 a0_0, .slice A0_1 l0_1.length c0_1] 29 (0, 0)) (by (with_reducible repeat (first | refine blk_drewN ?_ _ | refine blk_drew ?_ | refine blk_alloc ?_ _)); exact BK340.out)) : gb346 ≠ gb340)); have n9_ := Aside0.mk ((by rw [hg]; exact Nat.ne_of_lt (blk_lt (g := gb341) (o := .cells #[.bool false, .int .i64 0, .int .i64 0, .slice none 0 0] 38 (0, 0)) (by (with_reducible repeat (first | refine blk_drewN ?_ _ | refine blk_drew ?_ | refine blk_alloc ?_ _)); exact BK341.out)) : gb341 ≠ gb346)); have n10_ := Aside0.mk ((by rw [hg]; exact Nat.ne_of_gt (blk_lt (g := gb341) (o := .cells #[.bool false, .int .i64 0, .int .i64 0, .slice none 0 0] 38 (0, 0)) (by (with_reducible repeat (first | refine blk_drewN ?_ _ | refine blk_drew ?_ | refine blk_alloc ?_ _)); exact BK341.out)) : gb346 ≠ gb341)); clear HO345; clear BK340; clear BK341; clear HB; have HO345 := n0_; have BK340 := n1_; have BK341 := n2_; have HB := n3_; have BK346 := n4_; have GW346 := n5_; have GE346 := n6_; have NB340_346 := n7_; have NB346_340 := n8_; have NB341_346 := n9_; have NB346_341 := n10_; clear n0_ n1_ n2_ n3_ n4_ n5_ n6_ n7_ n8_ n9_ n10_; clear hb hbox hg; have hnb12 := NB346_340.out; have hnc12 := NB340_346.out; have hnb13 := NB346_341.out; have hnc13 := NB341_346.out; have hcz14_0 : w11.cell? ⟨gb346, 0, none⟩ = some (.int .i64 0) := (blk_cell BK346.out 0).trans rfl; have hcz14_1 : w11.cell? ⟨gb346, 1, none⟩ = some (.slice none 0 0) := (blk_cell BK346.out 1).trans rfl; have hfz14_0 := blk_frozen BK346.out 0; have hfz14_1 := blk_frozen BK346.out 1; obtain ⟨Ao15, co15, eo15⟩ := Kd.R_slice HO345.out; subst eo15; have hcz16_0 : w11.cell? ⟨gb340, 0, none⟩ = some (.int .i64 a0_0) := (blk_cell BK340.out 0).trans rfl; have hcz16_1 : w11.cell? ⟨gb340, 1, none⟩ = some (.slice A0_1 l0_1.length c0_1) := (blk_cell BK340.out 1).trans rfl; have hfz16_0 := blk_frozen BK340.out 0; have hfz16_1 := blk_frozen BK340.out 1) | ((with_reducible refine gate_callee (f := 35) rfl ?_); refine goesL_ (some 11) rfl rfl Try.func35 (by kernel_rfl) rfl #[.agg #[.int .i64 a0_0, .slice A0_1 l0_1.length c0_1], .int .i64 a1] rfl (by (try simp only [List.map_toArray, List.map_cons, List.map_nil]); first | done | rfl | (simp only [List.length_drop, List.length_take]; rfl)) ?_; (with_reducible refine (spec_l4ById.calls k a0_0 _ _ l0_1 a1 t347 _ ?side1 ?side2 A4.out).mono ?_); (case side1 => exact Kd.C_below HR0_1.out (by repeat (first | (with_reducible first | exact HB.out | apply below_alloc | apply pw_below_drewN | apply below_drew1 | refine below_set ?_ GE340.out | refine below_set ?_ GE341.out | refine below_set ?_ GE346.out) | exact HB.out))); (case side2 => exact HC0_1.out); rintro e w17 ⟨rfl, hb⟩; refine ⟨_, rfl, ?_⟩; have n0_ := Aside0.mk (Kd.R_below (by (with_reducible repeat (first | apply Kd.R_alloc | apply Kd.R_drewN | apply Kd.R_drew)); exact (Kd.R_mono (Kd.R_far (p := ⟨gb346, 1, none⟩) (Kd.R_far (p := ⟨gb346, 0, none⟩) (Kd.R_types HO345.out BK346.out (by decide)) (fun _ hk => hk.2) (.int .i64 t342)) (fun _ hk => hk.2) (.slice Ao15 t343.length co15)) (fun _ h_ => h_.1))) hb); have n1_ := Aside0.mk (blk_below (g := gb340) (o := .cells #[.int .i64 a0_0, .slice A0_1 l0_1.length c0_1] 29 (0, 0)) (by (with_reducible repeat (first | refine blk_drewN ?_ _ | refine blk_drew ?_ | refine blk_alloc ?_ _)); refine blk_far ?_ NB340_346.out _; (with_reducible repeat (first | refine blk_drewN ?_ _ | refine blk_drew ?_ | refine blk_alloc ?_ _)); refine blk_far ?_ NB340_346.out _; (with_reducible repeat (first | refine blk_drewN ?_ _ | refine blk_drew ?_ | refine blk_alloc ?_ _)); exact BK340.out) hb); have n2_ := Aside0.mk (blk_below (g := gb341) (o := .cells #[.bool false, .int .i64 0, .int .i64 0, .slice none 0 0] 38 (0, 0)) (by (with_reducible repeat (first | refine blk_drewN ?_ _ | refine blk_drew ?_ | refine blk_alloc ?_ _)); refine blk_far ?_ NB341_346.out _; (with_reducible repeat (first | refine blk_drewN ?_ _ | refine blk_drew ?_ | refine blk_alloc ?_ _)); refine blk_far ?_ NB341_346.out _; (with_reducible repeat (first | refine blk_drewN ?_ _ | refine blk_drew ?_ | refine blk_alloc ?_ _)); exact BK341.out) hb); have n3_ := Aside0.mk (blk_below (g := gb346) (o := .cells #[.int .i64 t342, .slice Ao15 t343.length co15] 29 (0, 0)) (by (with_reducible repeat (first | refine blk_drewN ?_ _ | refine blk_drew ?_ | refine blk_alloc ?_ _)); refine blk_put (cs := #[.int .i64 t342, .slice none 0 0]) ?_ 1 _ rfl; (with_reducible repeat (first | refine blk_drewN ?_ _ | refine blk_drew ?_ | refine blk_alloc ?_ _)); refine blk_put (cs := #[.int .i64 0, .slice none 0 0]) ?_ 0 _ rfl; (with_reducible repeat (first | refine blk_drewN ?_ _ | refine blk_drew ?_ | refine blk_alloc ?_ _)); exact BK346.out) hb); have n4_ := Aside0.mk (below_step (by repeat (first | (with_reducible first | exact HB.out | apply below_alloc | apply pw_below_drewN | apply below_drew1 | refine below_set ?_ GE340.out | refine below_set ?_ GE341.out | refine below_set ?_ GE346.out) | exact HB.out)) hb); clear HO345; clear BK340; clear BK341; clear BK346; clear HB; have HO345 := n0_; have BK340 := n1_; have BK341 := n2_; have BK346 := n3_; have HB := n4_; clear n0_ n1_ n2_ n3_ n4_; (try clear hb); (try clear hb2); (try clear hk); (try clear hi)))
  (try simp only [Act.put, List.setIfInBounds_toArray, List.set_cons_zero, List.set_cons_succ])
  go_cut [18] (fun v18 wc => ∃ (kq : Nat) (x18_4 : Bool), v18 = .bool x18_4 ∧ Aside0 (spec_Release.j0 kq a1 t347 x18_4 a0_0 l0_1 t342 t343 = some (r1, r2, r3, r4)) ∧ Aside0 (kq ≤ k) ∧ Aside0 (Kd.R k51 51 wc w.heap.size (fun _ => True) (.slice Ao15 t343.length co15) t343) ∧ Aside0 (wc.heap[gb340]? = some (.cells #[.int .i64 a0_0, (.slice A0_1 l0_1.length c0_1)] 29 (0, 0))) ∧ Aside0 (wc.heap[gb341]? = some (.cells #[.bool false, .int .i64 0, .int .i64 0, (.slice none 0 0)] 38 (0, 0))) ∧ Aside0 (wc.heap[gb346]? = some (.cells #[.int .i64 t342, (.slice Ao15 t343.length co15)] 29 (0, 0))) ∧ Aside0 (Below w.heap.size w wc))
  case first =>
    have H := HC5.out
    clear HC5
    replace H := Option.bind_eq_some_iff.mp H
    obtain ⟨t348, A180, H⟩ := H
    replace H : (if t348 = true then (spec_Release.j0 k a1 t347 (decide (t347 < 0)) a0_0 l0_1 t342 t343) else (spec_Release.j0 k a1 t347 true a0_0 l0_1 t342 t343)) = some (r1, r2, r3, r4) := H
    have A18 := Aside0.mk A180
    clear A180
    by_cases c19 : t348 = true
    · subst c19
      have H1 : (spec_Release.j0 k a1 t347 (decide (t347 < 0)) a0_0 l0_1 t342 t343) = some (r1, r2, r3, r4) := by rw [if_pos rfl] at H; exact H
      clear H
      have H := H1
      clear H1
      have H' := Aside0.mk H
      clear H
      have hnb20 := NB340_341.out
      have hnc20 := NB341_340.out
      have hnb21 := NB340_346.out
      have hnc21 := NB346_340.out
      have hcz22_0 : w17.cell? ⟨gb340, 0, none⟩ = some (.int .i64 a0_0) := (blk_cell BK340.out 0).trans rfl
      have hcz22_1 : w17.cell? ⟨gb340, 1, none⟩ = some (.slice A0_1 l0_1.length c0_1) := (blk_cell BK340.out 1).trans rfl
      have hfz22_0 := blk_frozen BK340.out 0
      have hfz22_1 := blk_frozen BK340.out 1
      go_wp2_with (first | ((with_reducible refine gate_callee (f := 10) rfl ?_); refine goesL_ (some 13) rfl rfl Try.func10 (by kernel_rfl) rfl #[.agg #[.int .i64 a0_0, .slice A0_1 l0_1.length c0_1]] rfl (by (try simp only [List.map_toArray, List.map_cons, List.map_nil]); first | done | rfl | (simp only [List.length_drop, List.length_take]; rfl)) ?_; (with_reducible refine (spec_ValidDict.calls k a0_0 _ _ l0_1 true _ ?side1 ?side2 A18.out).mono ?_); (case side1 => repeat (first | exact (Kd.C_below HR0_1.out HB.out) | (with_reducible refine Kd.C_alloc ?_ _) | (with_reducible refine Kd.C_drewN ?_ _) | (with_reducible refine Kd.C_drew ?_))); (case side2 => exact HC0_1.out); rintro e w23 ⟨rfl, hb⟩; refine ⟨_, rfl, ?_⟩; have n0_ := Aside0.mk (Kd.R_below (by (with_reducible repeat (first | apply Kd.R_alloc | apply Kd.R_drewN | apply Kd.R_drew)); exact HO345.out) hb); have n1_ := Aside0.mk (blk_below (g := gb340) (o := .cells #[.int .i64 a0_0, .slice A0_1 l0_1.length c0_1] 29 (0, 0)) (by (with_reducible repeat (first | refine blk_drewN ?_ _ | refine blk_drew ?_ | refine blk_alloc ?_ _)); exact BK340.out) hb); have n2_ := Aside0.mk (blk_below (g := gb341) (o := .cells #[.bool false, .int .i64 0, .int .i64 0, .slice none 0 0] 38 (0, 0)) (by (with_reducible repeat (first | refine blk_drewN ?_ _ | refine blk_drew ?_ | refine blk_alloc ?_ _)); exact BK341.out) hb); have n3_ := Aside0.mk (blk_below (g := gb346) (o := .cells #[.int .i64 t342, .slice Ao15 t343.length co15] 29 (0, 0)) (by (with_reducible repeat (first | refine blk_drewN ?_ _ | refine blk_drew ?_ | refine blk_alloc ?_ _)); exact BK346.out) hb); have n4_ := Aside0.mk (below_step (by repeat (first | (with_reducible first | exact HB.out | apply below_alloc | apply pw_below_drewN | apply below_drew1 | refine below_set ?_ GE340.out | refine below_set ?_ GE341.out | refine below_set ?_ GE346.out) | exact HB.out)) hb); clear HO345; clear BK340; clear BK341; clear BK346; clear HB; have HO345 := n0_; have BK340 := n1_; have BK341 := n2_; have BK346 := n3_; have HB := n4_; clear n0_ n1_ n2_ n3_ n4_; (try clear hb); (try clear hb2); (try clear hk); (try clear hi)))
      go_meet
      case rel => exact ⟨_, (decide (t347 < 0)), (by first | rfl | (simp; done) | (simp [*]; done)), H', ⟨by first | omega | exact Nat.le_refl _⟩, ⟨by (with_reducible repeat (first | apply Kd.R_alloc | apply Kd.R_drewN | apply Kd.R_drew)); exact HO345.out⟩, ⟨by (with_reducible repeat (first | refine blk_drewN ?_ _ | refine blk_drew ?_ | refine blk_alloc ?_ _)); exact BK340.out⟩, ⟨by (with_reducible repeat (first | refine blk_drewN ?_ _ | refine blk_drew ?_ | refine blk_alloc ?_ _)); exact BK341.out⟩, ⟨by (with_reducible repeat (first | refine blk_drewN ?_ _ | refine blk_drew ?_ | refine blk_alloc ?_ _)); exact BK346.out⟩, ⟨by repeat (first | (with_reducible first | exact HB.out | apply below_alloc | apply pw_below_drewN | apply below_drew1 | refine below_set ?_ GE340.out | refine below_set ?_ GE341.out | refine below_set ?_ GE346.out) | exact HB.out)⟩⟩
    · replace c19 := Bool.eq_false_iff.mpr c19
      subst c19
      have H1 : (spec_Release.j0 k a1 t347 true a0_0 l0_1 t342 t343) = some (r1, r2, r3, r4) := by rw [if_neg (show ¬ (false = true) by decide)] at H; exact H
      clear H
      have H := H1
      clear H1
      have H' := Aside0.mk H
      clear H
      have hnb24 := NB340_341.out
      have hnc24 := NB341_340.out
      have hnb25 := NB340_346.out
      have hnc25 := NB346_340.out
      have hcz26_0 : w17.cell? ⟨gb340, 0, none⟩ = some (.int .i64 a0_0) := (blk_cell BK340.out 0).trans rfl
      have hcz26_1 : w17.cell? ⟨gb340, 1, none⟩ = some (.slice A0_1 l0_1.length c0_1) := (blk_cell BK340.out 1).trans rfl
      have hfz26_0 := blk_frozen BK340.out 0
      have hfz26_1 := blk_frozen BK340.out 1
      go_wp2_with (first | ((with_reducible refine gate_callee (f := 10) rfl ?_); refine goesL_ (some 13) rfl rfl Try.func10 (by kernel_rfl) rfl #[.agg #[.int .i64 a0_0, .slice A0_1 l0_1.length c0_1]] rfl (by (try simp only [List.map_toArray, List.map_cons, List.map_nil]); first | done | rfl | (simp only [List.length_drop, List.length_take]; rfl)) ?_; (with_reducible refine (spec_ValidDict.calls k a0_0 _ _ l0_1 false _ ?side1 ?side2 A18.out).mono ?_); (case side1 => repeat (first | exact (Kd.C_below HR0_1.out HB.out) | (with_reducible refine Kd.C_alloc ?_ _) | (with_reducible refine Kd.C_drewN ?_ _) | (with_reducible refine Kd.C_drew ?_))); (case side2 => exact HC0_1.out); rintro e w27 ⟨rfl, hb⟩; refine ⟨_, rfl, ?_⟩; have n0_ := Aside0.mk (Kd.R_below (by (with_reducible repeat (first | apply Kd.R_alloc | apply Kd.R_drewN | apply Kd.R_drew)); exact HO345.out) hb); have n1_ := Aside0.mk (blk_below (g := gb340) (o := .cells #[.int .i64 a0_0, .slice A0_1 l0_1.length c0_1] 29 (0, 0)) (by (with_reducible repeat (first | refine blk_drewN ?_ _ | refine blk_drew ?_ | refine blk_alloc ?_ _)); exact BK340.out) hb); have n2_ := Aside0.mk (blk_below (g := gb341) (o := .cells #[.bool false, .int .i64 0, .int .i64 0, .slice none 0 0] 38 (0, 0)) (by (with_reducible repeat (first | refine blk_drewN ?_ _ | refine blk_drew ?_ | refine blk_alloc ?_ _)); exact BK341.out) hb); have n3_ := Aside0.mk (blk_below (g := gb346) (o := .cells #[.int .i64 t342, .slice Ao15 t343.length co15] 29 (0, 0)) (by (with_reducible repeat (first | refine blk_drewN ?_ _ | refine blk_drew ?_ | refine blk_alloc ?_ _)); exact BK346.out) hb); have n4_ := Aside0.mk (below_step (by repeat (first | (with_reducible first | exact HB.out | apply below_alloc | apply pw_below_drewN | apply below_drew1 | refine below_set ?_ GE340.out | refine below_set ?_ GE341.out | refine below_set ?_ GE346.out) | exact HB.out)) hb); clear HO345; clear BK340; clear BK341; clear BK346; clear HB; have HO345 := n0_; have BK340 := n1_; have BK341 := n2_; have BK346 := n3_; have HB := n4_; clear n0_ n1_ n2_ n3_ n4_; (try clear hb); (try clear hb2); (try clear hk); (try clear hi)))
      go_meet
      case rel => exact ⟨_, (true), (by first | rfl | (simp; done) | (simp [*]; done)), H', ⟨by first | omega | exact Nat.le_refl _⟩, ⟨by (with_reducible repeat (first | apply Kd.R_alloc | apply Kd.R_drewN | apply Kd.R_drew)); exact HO345.out⟩, ⟨by (with_reducible repeat (first | refine blk_drewN ?_ _ | refine blk_drew ?_ | refine blk_alloc ?_ _)); exact BK340.out⟩, ⟨by (with_reducible repeat (first | refine blk_drewN ?_ _ | refine blk_drew ?_ | refine blk_alloc ?_ _)); exact BK341.out⟩, ⟨by (with_reducible repeat (first | refine blk_drewN ?_ _ | refine blk_drew ?_ | refine blk_alloc ?_ _)); exact BK346.out⟩, ⟨by repeat (first | (with_reducible first | exact HB.out | apply below_alloc | apply pw_below_drewN | apply below_drew1 | refine below_set ?_ GE340.out | refine below_set ?_ GE341.out | refine below_set ?_ GE346.out) | exact HB.out)⟩⟩
  case rest =>
    clear HC5
    try clear c1
    try clear c2
    try clear p2
    try clear c3
    try clear c8
    try clear c10
    try clear c12
    try clear c13
    try clear c19
    try clear c20
    try clear c21
    try clear c24
    try clear c25
    try clear hcz14_0
    try clear hcz14_1
    try clear hcz16_0
    try clear hcz16_1
    try clear hcz22_0
    try clear hcz22_1
    try clear hcz26_0
    try clear hcz26_1
    try clear hcz9_0
    try clear hcz9_1
    try clear hfz14_0
    try clear hfz14_1
    try clear hfz16_0
    try clear hfz16_1
    try clear hfz22_0
    try clear hfz22_1
    try clear hfz26_0
    try clear hfz26_1
    try clear hfz9_0
    try clear hfz9_1
    obtain ⟨kq, x18_4, rfl, HA, HJ4, HO_347001, BK340, BK341, BK346, HB⟩ := hcut
    cases kq with
    | zero => exact absurd HA.out (by simp [spec_Release.j0])
    | succ kj4 =>
      have H := HA.out
      clear HA
      simp only [spec_Release.j0] at H
      by_cases c28 : x18_4 = true
      · subst c28
        have H1 : (some (false, 0, t342, t343)) = some (r1, r2, r3, r4) := by rw [if_pos rfl] at H; exact H
        clear H
        have H := H1
        clear H1
        simp only [Option.some.injEq, Prod.mk.injEq] at H
        obtain ⟨rfl, rfl, rfl, rfl⟩ := H
        have hnb29 := NB346_340.out
        have hnc29 := NB340_346.out
        have hnb30 := NB346_341.out
        have hnc30 := NB341_346.out
        have hcz31_0 : wc.cell? ⟨gb346, 0, none⟩ = some (.int .i64 t342) := (blk_cell BK346.out 0).trans rfl
        have hcz31_1 : wc.cell? ⟨gb346, 1, none⟩ = some (.slice Ao15 t343.length co15) := (blk_cell BK346.out 1).trans rfl
        have hfz31_0 := blk_frozen BK346.out 0
        have hfz31_1 := blk_frozen BK346.out 1
        have hnb32 := NB341_340.out
        have hnc32 := NB340_341.out
        have hcz33_0 : wc.cell? ⟨gb341, 0, none⟩ = some (.bool false) := (blk_cell BK341.out 0).trans rfl
        have hcz33_1 : wc.cell? ⟨gb341, 1, none⟩ = some (.int .i64 0) := (blk_cell BK341.out 1).trans rfl
        have hcz33_2 : wc.cell? ⟨gb341, 2, none⟩ = some (.int .i64 0) := (blk_cell BK341.out 2).trans rfl
        have hcz33_3 : wc.cell? ⟨gb341, 3, none⟩ = some (.slice none 0 0) := (blk_cell BK341.out 3).trans rfl
        have hfz33_0 := blk_frozen BK341.out 0
        have hfz33_1 := blk_frozen BK341.out 1
        have hfz33_2 := blk_frozen BK341.out 2
        have hfz33_3 := blk_frozen BK341.out 3
        go_wp2
        refine bodyPost_ret (results_cell_row rfl _ _ gb341 38 #[.bool false, .int .i64 0, .int .i64 t342, .slice Ao15 t343.length co15] (0, 0) _ rfl (by (with_reducible repeat (first | refine blk_drewN ?_ _ | refine blk_drew ?_ | refine blk_alloc ?_ _)); refine blk_put (cs := #[.bool false, .int .i64 0, .int .i64 t342, .slice none 0 0]) ?_ 3 _ rfl; (with_reducible repeat (first | refine blk_drewN ?_ _ | refine blk_drew ?_ | refine blk_alloc ?_ _)); refine blk_put (cs := #[.bool false, .int .i64 0, .int .i64 0, .slice none 0 0]) ?_ 2 _ rfl; (with_reducible repeat (first | refine blk_drewN ?_ _ | refine blk_drew ?_ | refine blk_alloc ?_ _)); refine blk_put (cs := #[.bool false, .int .i64 0, .int .i64 0, .slice none 0 0]) ?_ 1 _ rfl; (with_reducible repeat (first | refine blk_drewN ?_ _ | refine blk_drew ?_ | refine blk_alloc ?_ _)); refine blk_put (cs := #[.bool false, .int .i64 0, .int .i64 0, .slice none 0 0]) ?_ 0 _ rfl; (with_reducible repeat (first | refine blk_drewN ?_ _ | refine blk_drew ?_ | refine blk_alloc ?_ _)); exact BK341.out) Try.underlying38 rfl (by kernel_rfl)) rfl ?_
        exact ⟨_, by first | rfl | (simp [errW_none, errW_some] <;> rfl) | (simp [*, errW_none, errW_some] <;> rfl), by (with_reducible repeat (first | apply Kd.R_alloc | apply Kd.R_drewN | apply Kd.R_drew)); exact Kd.R_mono (Kd.R_far (p := ⟨gb341, 3, none⟩) (Kd.R_far (p := ⟨gb341, 2, none⟩) (Kd.R_far (p := ⟨gb341, 1, none⟩) (Kd.R_far (p := ⟨gb341, 0, none⟩) (Kd.R_types HO_347001.out BK341.out (by decide)) (fun _ hk => hk.2) (.bool false)) (fun _ hk => hk.2) (.int .i64 0)) (fun _ hk => hk.2) (.int .i64 t342)) (fun _ hk => hk.2) (.slice Ao15 t343.length co15)) (fun _ hk => trivial), by repeat (first | (with_reducible first | exact HB.out | apply below_alloc | apply pw_below_drewN | apply below_drew1 | refine below_set ?_ GE340.out | refine below_set ?_ GE341.out | refine below_set ?_ GE346.out) | exact HB.out)⟩
      · replace c28 := Bool.eq_false_iff.mpr c28
        subst c28
        have H1 : (if 0 ≤ t347 then (if t347 < (t343.length : Int) then (if (wrap64 (((rd_T51 t343 t347).f2) - 1)) = 0 then ((some (([] : List (S51)) : List (S51))).bind fun y352 => (if t347 ≤ (l0_1.length : Int) then ((some (l0_1.take (t347 : Int).toNat : List (S51))).bind fun y355 => (if y352.length + y355.length < 4398046511104 then ((some (y352 ++ y355 : List (S51))).bind fun y359 => (if 0 ≤ (wrap64 (t347 + 1)) then (if (wrap64 (t347 + 1)) ≤ (l0_1.length : Int) then ((some (l0_1.drop ((wrap64 (t347 + 1)) : Int).toNat : List (S51))).bind fun y362 => (if y359.length + y362.length < 4398046511104 then (some (true, a1, t342, (y359 ++ y362))) else (none))) else (none)) else (none))) else (none))) else (none))) else (some (true, a1, t342, (t343.set (t347 : Int).toNat (⟨(rd_T51 t343 t347).f0, (rd_T51 t343 t347).f1, wrap64 (((rd_T51 t343 t347).f2) - 1)⟩ : S51))))) else (none)) else (none)) = some (r1, r2, r3, r4) := by rw [if_neg (show ¬ (false = true) by decide)] at H; exact H
        clear H
        have H := H1
        clear H1
        by_cases c34 : 0 ≤ t347
        · rw [if_pos c34] at H
          have c34b0 : decide (0 ≤ t347) = true := decide_eq_true c34
          clear c34
          by_cases c35 : t347 < (t343.length : Int)
          · rw [if_pos c35] at H
            have c35b0 : decide (t347 < (t343.length : Int)) = true := decide_eq_true c35
            clear c35
            obtain ⟨y350, hy350⟩ : ∃ y_ : List (S51), y_ = (t343.set (t347 : Int).toNat (⟨(rd_T51 t343 t347).f0, (rd_T51 t343 t347).f1, wrap64 (((rd_T51 t343 t347).f2) - 1)⟩ : S51)) := ⟨_, rfl⟩
            replace H : (if (wrap64 (((rd_T51 t343 t347).f2) - 1)) = 0 then ((some (([] : List (S51)) : List (S51))).bind fun y352 => (if t347 ≤ (l0_1.length : Int) then ((some (l0_1.take (t347 : Int).toNat : List (S51))).bind fun y355 => (if y352.length + y355.length < 4398046511104 then ((some (y352 ++ y355 : List (S51))).bind fun y359 => (if 0 ≤ (wrap64 (t347 + 1)) then (if (wrap64 (t347 + 1)) ≤ (l0_1.length : Int) then ((some (l0_1.drop ((wrap64 (t347 + 1)) : Int).toNat : List (S51))).bind fun y362 => (if y359.length + y362.length < 4398046511104 then (some (true, a1, t342, (y359 ++ y362))) else (none))) else (none)) else (none))) else (none))) else (none))) else (some (true, a1, t342, y350))) = some (r1, r2, r3, r4) := by first | (rw [hy350]; with_reducible exact H) | (have H2_ := (Option.bind_some _ _).symm.trans H; rw [hy350]; with_reducible exact H2_) | (have H2_ := (Option.bind_some _ _).symm.trans H; with_reducible exact H2_) | with_reducible exact H | (rw [hy350]; exact H) | exact H
            have Ny350 := Aside0.mk hy350
            clear hy350
            by_cases c38 : (wrap64 (((rd_T51 t343 t347).f2) - 1)) = 0
            · rw [if_pos c38] at H
              have c38b0 : ((wrap64 (((rd_T51 t343 t347).f2) - 1)) == 0) = true := beq_iff_eq.mpr c38
              have c38b1 : ((wrap64 (((rd_T51 t343 t347).f2) - 1)) != 0) = false := bne_eq_false_iff_eq.mpr c38
              clear c38
              obtain ⟨y352, hy352⟩ : ∃ y_ : List (S51), y_ = (([] : List (S51))) := ⟨_, rfl⟩
              replace H : (if t347 ≤ (l0_1.length : Int) then ((some (l0_1.take (t347 : Int).toNat : List (S51))).bind fun y355 => (if y352.length + y355.length < 4398046511104 then ((some (y352 ++ y355 : List (S51))).bind fun y359 => (if 0 ≤ (wrap64 (t347 + 1)) then (if (wrap64 (t347 + 1)) ≤ (l0_1.length : Int) then ((some (l0_1.drop ((wrap64 (t347 + 1)) : Int).toNat : List (S51))).bind fun y362 => (if y359.length + y362.length < 4398046511104 then (some (true, a1, t342, (y359 ++ y362))) else (none))) else (none)) else (none))) else (none))) else (none)) = some (r1, r2, r3, r4) := by first | (rw [hy352]; with_reducible exact H) | (have H2_ := (Option.bind_some _ _).symm.trans H; rw [hy352]; with_reducible exact H2_) | (have H2_ := (Option.bind_some _ _).symm.trans H; with_reducible exact H2_) | with_reducible exact H | (rw [hy352]; exact H) | exact H
              have Ny352 := Aside0.mk hy352
              clear hy352
              have c39b0 := eq_true (of_decide_eq_true (by first | (with_reducible assumption) | assumption) : 0 ≤ t347)
              by_cases c40 : t347 ≤ (l0_1.length : Int)
              · rw [if_pos c40] at H
                have c40b0 := eq_true c40
                have c40b1 : decide (t347 ≤ (l0_1.length : Int)) = true := decide_eq_true c40
                clear c40
                obtain ⟨y355, hy355⟩ : ∃ y_ : List (S51), y_ = (l0_1.take (t347 : Int).toNat) := ⟨_, rfl⟩
                replace H : (if y352.length + y355.length < 4398046511104 then ((some (y352 ++ y355 : List (S51))).bind fun y359 => (if 0 ≤ (wrap64 (t347 + 1)) then (if (wrap64 (t347 + 1)) ≤ (l0_1.length : Int) then ((some (l0_1.drop ((wrap64 (t347 + 1)) : Int).toNat : List (S51))).bind fun y362 => (if y359.length + y362.length < 4398046511104 then (some (true, a1, t342, (y359 ++ y362))) else (none))) else (none)) else (none))) else (none)) = some (r1, r2, r3, r4) := by first | (rw [hy355]; with_reducible exact H) | (have H2_ := (Option.bind_some _ _).symm.trans H; rw [hy355]; with_reducible exact H2_) | (have H2_ := (Option.bind_some _ _).symm.trans H; with_reducible exact H2_) | with_reducible exact H | (rw [hy355]; exact H) | exact H
                have Ny355 := Aside0.mk hy355
                clear hy355
                by_cases c41 : y352.length + y355.length < 4398046511104
                · rw [if_pos c41] at H
                  have LMc41 := Aside0.mk c41
                  clear c41
                  obtain ⟨y359, hy359⟩ : ∃ y_ : List (S51), y_ = (y352 ++ y355) := ⟨_, rfl⟩
                  replace H : (if 0 ≤ (wrap64 (t347 + 1)) then (if (wrap64 (t347 + 1)) ≤ (l0_1.length : Int) then ((some (l0_1.drop ((wrap64 (t347 + 1)) : Int).toNat : List (S51))).bind fun y362 => (if y359.length + y362.length < 4398046511104 then (some (true, a1, t342, (y359 ++ y362))) else (none))) else (none)) else (none)) = some (r1, r2, r3, r4) := by first | (rw [hy359]; with_reducible exact H) | (have H2_ := (Option.bind_some _ _).symm.trans H; rw [hy359]; with_reducible exact H2_) | (have H2_ := (Option.bind_some _ _).symm.trans H; with_reducible exact H2_) | with_reducible exact H | (rw [hy359]; exact H) | exact H
                  have Ny359 := Aside0.mk hy359
                  clear hy359
                  obtain ⟨ji42, hji42⟩ : ∃ j_ : Int, (wrap64 (t347 + 1)) = j_ := ⟨_, rfl⟩
                  replace H : (if 0 ≤ (ji42) then (if (ji42) ≤ (l0_1.length : Int) then ((some (l0_1.drop ((ji42) : Int).toNat : List (S51))).bind fun y362 => (if y359.length + y362.length < 4398046511104 then (some (true, a1, t342, (y359 ++ y362))) else (none))) else (none)) else (none)) = some (r1, r2, r3, r4) := by first | (rw [hji42] at H; exact H) | (simp only [hji42] at H ⊢; exact H)
                  have hji42w : (IntKind.i64.wrap (t347 + 1)) = ji42 := (i64_w _).trans hji42
                  by_cases c43 : 0 ≤ (ji42)
                  · rw [if_pos c43] at H
                    have c43b0 := eq_true c43
                    have c43b1 : decide (0 ≤ (ji42)) = true := decide_eq_true c43
                    clear c43
                    by_cases c44 : (ji42) ≤ (l0_1.length : Int)
                    · rw [if_pos c44] at H
                      have c44b0 := eq_true c44
                      have c44b1 : decide ((ji42) ≤ (l0_1.length : Int)) = true := decide_eq_true c44
                      clear c44
                      obtain ⟨y362, hy362⟩ : ∃ y_ : List (S51), y_ = (l0_1.drop ((ji42) : Int).toNat) := ⟨_, rfl⟩
                      replace H : (if y359.length + y362.length < 4398046511104 then (some (true, a1, t342, (y359 ++ y362))) else (none)) = some (r1, r2, r3, r4) := by first | (rw [hy362]; with_reducible exact H) | (have H2_ := (Option.bind_some _ _).symm.trans H; rw [hy362]; with_reducible exact H2_) | (have H2_ := (Option.bind_some _ _).symm.trans H; with_reducible exact H2_) | with_reducible exact H | (rw [hy362]; exact H) | exact H
                      have Ny362 := Aside0.mk hy362
                      clear hy362
                      by_cases c45 : y359.length + y362.length < 4398046511104
                      · rw [if_pos c45] at H
                        have LMc45 := Aside0.mk c45
                        clear c45
                        obtain ⟨y366, hy366⟩ : ∃ y_ : List (S51), y_ = (y359 ++ y362) := ⟨_, rfl⟩
                        replace H : (some (true, a1, t342, y366)) = some (r1, r2, r3, r4) := by first | (rw [hy366]; with_reducible exact H) | (have H2_ := (Option.bind_some _ _).symm.trans H; rw [hy366]; with_reducible exact H2_) | (have H2_ := (Option.bind_some _ _).symm.trans H; with_reducible exact H2_) | with_reducible exact H | (rw [hy366]; exact H) | exact H
                        have Ny366 := Aside0.mk hy366
                        clear hy366
                        simp only [Option.some.injEq, Prod.mk.injEq] at H
                        obtain ⟨rfl, rfl, rfl, rfl⟩ := H
                        try go_wp2
                        have n0_ := Aside0.mk (Kd.R_drew HO_347001.out)
                        have n1_ := Aside0.mk (blk_drew BK340.out)
                        have n2_ := Aside0.mk (blk_drew BK341.out)
                        have n3_ := Aside0.mk (blk_drew BK346.out)
                        have n4_ := Aside0.mk (below_drew1 HB.out)
                        clear HO_347001
                        clear BK340
                        clear BK341
                        clear BK346
                        clear HB
                        have HO_347001 := n0_
                        have BK340 := n1_
                        have BK341 := n2_
                        have BK346 := n3_
                        have HB := n4_
                        clear n0_ n1_ n2_ n3_ n4_
                        have p349 : 0 ≤ (t347 : Int) := of_decide_eq_true (by first | (with_reducible assumption) | assumption)
                        have q349 : t347 < (t343.length : Int) := of_decide_eq_true (by first | (with_reducible assumption) | assumption)
                        obtain ⟨ad349, e349, hx349_0, hx349_1, hx349_2⟩ := at_T51 (Kd.R_reads' HO_347001.out).2.2 t347 p349 q349
                        cases e349
                        replace p349 := eq_true p349
                        replace q349 := eq_true q349
                        have p36 : 0 ≤ (t347 : Int) := of_decide_eq_true (by first | (with_reducible assumption) | assumption)
                        have q36 : (t347 : Int) < ((t343.length : Int) : Int) := of_decide_eq_true (by first | (with_reducible assumption) | assumption)
                        obtain ⟨go36, co36, eo36, gb36, gl36, cl36, HG36⟩ := Kd.R_form HO_347001.out (by omega)
                        (first | cases eo36 | (injection eo36 with ea_ en_ ec_; (first | subst ea_ | (injection ea_ with ea_; subst ea_)); subst ec_; clear en_))
                        have GB36 := Aside0.mk gb36
                        have GG36 := Aside0.mk HG36
                        clear gb36 gl36 HG36
                        (first | simp only [add_plain] at hx349_0 | skip)
                        (first | simp only [add_plain] at hx349_1 | skip)
                        (first | simp only [add_plain] at hx349_2 | skip)
                        obtain ⟨ce36, hcl36, hM36, hcc36, hfr36⟩ := Kd.R_elem HO_347001.out z51 (t347 : Int) p36 q36
                        obtain rfl := k51_openM hM36
                        have hx36_0 : World.cell? _ ⟨go36, (t347 : Int).toNat * 3, none⟩ = some (.int .i64 ((rd_T51 t343 t347).f0)) := hcc36 0 _ rfl
                        have hx36_1 : World.cell? _ ⟨go36, (t347 : Int).toNat * 3 + 1, none⟩ = some (.string ((rd_T51 t343 t347).f1)) := hcc36 1 _ rfl
                        have hx36_2 : World.cell? _ ⟨go36, (t347 : Int).toNat * 3 + 2, none⟩ = some (.int .i64 ((rd_T51 t343 t347).f2)) := hcc36 2 _ rfl
                        have hf36_0 : World.frozen? _ ⟨go36, (t347 : Int).toNat * 3, none⟩ = false := hfr36 0
                        have hf36_1 : World.frozen? _ ⟨go36, (t347 : Int).toNat * 3 + 1, none⟩ = false := hfr36 1
                        have hf36_2 : World.frozen? _ ⟨go36, (t347 : Int).toNat * 3 + 2, none⟩ = false := hfr36 2
                        clear hcl36 hcc36 hfr36 hM36
                        replace p36 := eq_true p36
                        replace q36 := eq_true q36
                        obtain ⟨ce47, hcl47, hM47, hcc47, hfr47⟩ := Kd.R_elem HO_347001.out z51 (t347 : Int) (of_decide_eq_true (by first | (with_reducible assumption) | assumption)) (by have h_ : (t347 : Int) < ((t343.length : Int) : Int) := of_decide_eq_true (by first | (with_reducible assumption) | assumption); first | exact h_ | (have e_ := (Kd.R_reads' HO_347001.out).1; omega) | simpa using h_)
                        obtain rfl := k51_openM hM47
                        have HP47 := (Kd.R_seg HO_347001.out (t347 : Int) (of_decide_eq_true (by first | (with_reducible assumption) | assumption)) (by have h_ : (t347 : Int) < ((t343.length : Int) : Int) := of_decide_eq_true (by first | (with_reducible assumption) | assumption); first | exact h_ | (have e_ := (Kd.R_reads' HO_347001.out).1; omega) | simpa using h_) (seg := [.int .i64 (wrap64 (((rd_T51 t343 t347).f2) - 1))]) (j := 2) hcl47 hcc47 (show 3 ≤ 3 from by decide) (x' := (⟨(rd_T51 t343 t347).f0, (rd_T51 t343 t347).f1, wrap64 (((rd_T51 t343 t347).f2) - 1)⟩ : S51)) (k51_mkM _ _ _ (⟨(rd_T51 t343 t347).f0, (rd_T51 t343 t347).f1, wrap64 (((rd_T51 t343 t347).f2) - 1)⟩ : S51) ) (fun _ hk => hk)).1
                        rw [← Ny350.out] at HP47
                        have HQ47 := Aside0.mk HP47
                        clear hcl47 hcc47 hfr47 hM47 HP47
                        refine start_ (n := 13) (S := fun w' => w'.cell? ⟨gb346, 0, none⟩ = some (.int .i64 t342) ∧ w'.cell? ⟨gb346, 1, none⟩ = some (.slice (some ⟨go36, 0, none⟩) t343.length co15) ∧ w'.cell? ⟨go36, ((t347).toNat * 3), none⟩ = some (.int .i64 ((rd_T51 t343 t347).f0)) ∧ w'.cell? ⟨go36, ((t347).toNat * 3) + 1, none⟩ = some (.string ((rd_T51 t343 t347).f1)) ∧ w'.cell? ⟨go36, ((t347).toNat * 3) + 2, none⟩ = some (.int .i64 ((rd_T51 t343 t347).f2))) (ds := [12]) #[false, false, false, false, false, false, false, false, false, false, false, false, false] (by kernel_rfl) rfl rfl ⟨(blk_cell BK346.out 0).trans rfl, (blk_cell BK346.out 1).trans rfl, hx349_0, hx349_1, hx349_2⟩ (fun hHeld => ?_); refine with_tabW spec_Release.tab5 spec_Release.bits5 (fun HT_ HW_ => ?_)
                        generalize wc.drew = w46 at HO_347001 BK340 BK341 BK346 HB GG36 HQ47 hf36_0 hf36_1 hf36_2 hx349_0 hx349_1 hx349_2 hx36_0 hx36_1 hx36_2 hHeld ⊢
                        refine pure_ (i := 0) (N := some 21) (v := ?_) (a' := ?_) #[true, false, false, false, false, false, false, false, false, false, false, false, false] rfl rfl (any_of HT_.out (by kernel_rfl)) (fun _ _ _ h => h) (Or.inl ⟨by rfl, ?_⟩) ?_ ?_
                        rotate_left
                        · intro w'
                          go_simp
                          with_reducible rfl
                        rotate_left
                        · simp only [Act.put, List.setIfInBounds_toArray, List.set_cons_zero, List.set_cons_succ, i64_w, i32_w]
                          rfl
                        refine pure_ (i := 2) (N := some 23) (v := ?_) (a' := ?_) #[true, false, true, false, false, false, false, false, false, false, false, false, false] rfl rfl (any_of HT_.out (by kernel_rfl)) (fun _ _ _ h => h) (Or.inl ⟨by rfl, ?_⟩) ?_ ?_
                        rotate_left
                        · intro w'
                          go_simp
                          with_reducible rfl
                        rotate_left
                        · simp only [Act.put, List.setIfInBounds_toArray, List.set_cons_zero, List.set_cons_succ, i64_w, i32_w]
                          rfl
                        refine pure_ (i := 3) (N := some 24) (v := ?_) (a' := ?_) #[true, false, true, true, false, false, false, false, false, false, false, false, false] rfl rfl (any_of HT_.out (by kernel_rfl)) (fun _ _ _ h => h) (Or.inl ⟨by rfl, ?_⟩) ?_ ?_
                        rotate_left
                        · intro w'
                          go_simp
                          with_reducible rfl
                        rotate_left
                        · simp only [Act.put, List.setIfInBounds_toArray, List.set_cons_zero, List.set_cons_succ, i64_w, i32_w]
                          rfl
                        refine pure_ (i := 5) (N := some 26) (v := ?_) (a' := ?_) #[true, false, true, true, false, true, false, false, false, false, false, false, false] rfl rfl (any_of HT_.out (by kernel_rfl)) (fun _ _ _ h => h) (Or.inl ⟨by rfl, ?_⟩) ?_ ?_
                        rotate_left
                        · intro w'
                          go_simp
                          with_reducible rfl
                        rotate_left
                        · simp only [Act.put, List.setIfInBounds_toArray, List.set_cons_zero, List.set_cons_succ, i64_w, i32_w]
                          rfl
                        refine take_ (i := 1) (N := some 22) (v := ?_) (a' := ?_) #[true, true, true, true, false, true, false, false, false, false, false, false, false] rfl rfl (take_ofW HT_.out HW_.out (by kernel_rfl)) (fun _ _ _ h => h) (Or.inl ⟨by rfl, ?_⟩) hHeld ?_ ?_
                        rotate_left
                        · rintro w' ⟨s0, s1, s2, s3, s4⟩
                          go_simp
                          with_reducible rfl
                        rotate_left
                        · simp only [Act.put, List.setIfInBounds_toArray, List.set_cons_zero, List.set_cons_succ, i64_w, i32_w]
                          rfl
                        refine take_ (i := 4) (N := some 25) (v := ?_) (a' := ?_) #[true, true, true, true, true, true, false, false, false, false, false, false, false] rfl rfl (take_ofW HT_.out HW_.out (by kernel_rfl)) (fun _ _ _ h => h) (Or.inl ⟨by rfl, ?_⟩) hHeld ?_ ?_
                        rotate_left
                        · rintro w' ⟨s0, s1, s2, s3, s4⟩
                          go_simp
                          with_reducible rfl
                        rotate_left
                        · simp only [Act.put, List.setIfInBounds_toArray, List.set_cons_zero, List.set_cons_succ, i64_w, i32_w]
                          rfl
                        refine pure_ (i := 6) (N := some 27) (v := ?_) (a' := ?_) #[true, true, true, true, true, true, true, false, false, false, false, false, false] rfl rfl (any_of HT_.out (by kernel_rfl)) (fun _ _ _ h => h) (Or.inl ⟨by rfl, ?_⟩) ?_ ?_
                        rotate_left
                        · intro w'
                          go_simp
                          with_reducible rfl
                        rotate_left
                        · simp only [Act.put, List.setIfInBounds_toArray, List.set_cons_zero, List.set_cons_succ, i64_w, i32_w]
                          rfl
                        refine pure_ (i := 7) (N := some 28) (v := ?_) (a' := ?_) #[true, true, true, true, true, true, true, true, false, false, false, false, false] rfl rfl (any_of HT_.out (by kernel_rfl)) (fun _ _ _ h => h) (Or.inl ⟨by rfl, ?_⟩) ?_ ?_
                        rotate_left
                        · intro w'
                          go_simp
                          with_reducible rfl
                        rotate_left
                        · simp only [Act.put, List.setIfInBounds_toArray, List.set_cons_zero, List.set_cons_succ, i64_w, i32_w]
                          rfl
                        refine take_ (i := 8) (N := some 29) (v := ?_) (a' := ?_) #[true, true, true, true, true, true, true, true, true, false, false, false, false] rfl rfl (take_ofW HT_.out HW_.out (by kernel_rfl)) (fun _ _ _ h => h) (Or.inl ⟨by rfl, ?_⟩) hHeld ?_ ?_
                        rotate_left
                        · rintro w' ⟨s0, s1, s2, s3, s4⟩
                          go_simp
                          with_reducible rfl
                        rotate_left
                        · simp only [Act.put, List.setIfInBounds_toArray, List.set_cons_zero, List.set_cons_succ, i64_w, i32_w]
                          rfl
                        refine pure_ (i := 9) (N := some 30) (v := ?_) (a' := ?_) #[true, true, true, true, true, true, true, true, true, true, false, false, false] rfl rfl (any_of HT_.out (by kernel_rfl)) (fun _ _ _ h => h) (Or.inl ⟨by rfl, ?_⟩) ?_ ?_
                        rotate_left
                        · intro w'
                          go_simp
                          with_reducible rfl
                        rotate_left
                        · simp only [Act.put, List.setIfInBounds_toArray, List.set_cons_zero, List.set_cons_succ, i64_w, i32_w]
                          rfl
                        refine pure_ (i := 10) (N := some 31) (v := ?_) (a' := ?_) #[true, true, true, true, true, true, true, true, true, true, true, false, false] rfl rfl (any_of HT_.out (by kernel_rfl)) (fun _ _ _ h => h) (Or.inl ⟨by rfl, ?_⟩) ?_ ?_
                        rotate_left
                        · intro w'
                          go_simp
                          with_reducible rfl
                        rotate_left
                        · simp only [Act.put, List.setIfInBounds_toArray, List.set_cons_zero, List.set_cons_succ, i64_w, i32_w]
                          rfl
                        refine pure_ (i := 11) (N := some 32) (v := ?_) (a' := ?_) #[true, true, true, true, true, true, true, true, true, true, true, true, false] rfl rfl (any_of HT_.out (by kernel_rfl)) (fun _ _ _ h => h) (Or.inl ⟨by rfl, ?_⟩) ?_ ?_
                        rotate_left
                        · intro w'
                          go_simp
                          with_reducible rfl
                        rotate_left
                        · simp only [Act.put, List.setIfInBounds_toArray, List.set_cons_zero, List.set_cons_succ, i64_w, i32_w]
                          rfl
                        refine last_ (i := 12) (N := none) #[true, true, true, true, true, true, true, true, true, true, true, true, true] rfl rfl (one_of HT_.out (by kernel_rfl)) (by decide) (fun K hK => ?_)
                        refine skip_ (w1 := ?_) (by rfl) rfl ?_ ?_
                        rotate_left
                        · go_simp
                          rfl
                        refine hK.out _ _ ?_
                        clear hK K
                        refine done_ (done_of HT_.out (by kernel_rfl)) ?_
                        have n0_ : Aside0 (Kd.R k51 51 (w46.setCell ⟨go36, (t347 : Int).toNat * 3 + 2, none⟩ (.int .i64 (wrap64 (((rd_T51 t343 t347).f2) - 1)))) w.heap.size (fun _ => True) (.slice (some ⟨go36, 0, none⟩) t343.length co15) y350) := ⟨by (with_reducible repeat (first | apply Kd.R_alloc | apply Kd.R_drewN | apply Kd.R_drew)); exact HQ47.out⟩
                        have n1_ : Aside0 ((w46.setCell ⟨go36, (t347 : Int).toNat * 3 + 2, none⟩ (.int .i64 (wrap64 (((rd_T51 t343 t347).f2) - 1)))).heap[gb340]? = some (.cells #[.int .i64 a0_0, .slice A0_1 l0_1.length c0_1] 29 (0, 0))) := ⟨by (with_reducible repeat (first | refine blk_drewN ?_ _ | refine blk_drew ?_ | refine blk_alloc ?_ _)); refine blk_far ?_ (by have h_ := Kd.R_ne HO_347001.out BK340.out (by decide); intro e_; exact h_ (by rw [e_]; rfl)) _; (with_reducible repeat (first | refine blk_drewN ?_ _ | refine blk_drew ?_ | refine blk_alloc ?_ _)); exact BK340.out⟩
                        have n2_ : Aside0 ((w46.setCell ⟨go36, (t347 : Int).toNat * 3 + 2, none⟩ (.int .i64 (wrap64 (((rd_T51 t343 t347).f2) - 1)))).heap[gb341]? = some (.cells #[.bool false, .int .i64 0, .int .i64 0, .slice none 0 0] 38 (0, 0))) := ⟨by (with_reducible repeat (first | refine blk_drewN ?_ _ | refine blk_drew ?_ | refine blk_alloc ?_ _)); refine blk_far ?_ (by have h_ := Kd.R_ne HO_347001.out BK341.out (by decide); intro e_; exact h_ (by rw [e_]; rfl)) _; (with_reducible repeat (first | refine blk_drewN ?_ _ | refine blk_drew ?_ | refine blk_alloc ?_ _)); exact BK341.out⟩
                        have n3_ : Aside0 ((w46.setCell ⟨go36, (t347 : Int).toNat * 3 + 2, none⟩ (.int .i64 (wrap64 (((rd_T51 t343 t347).f2) - 1)))).heap[gb346]? = some (.cells #[.int .i64 t342, .slice (some ⟨go36, 0, none⟩) t343.length co15] 29 (0, 0))) := ⟨by (with_reducible repeat (first | refine blk_drewN ?_ _ | refine blk_drew ?_ | refine blk_alloc ?_ _)); refine blk_far ?_ (by have h_ := Kd.R_ne HO_347001.out BK346.out (by decide); intro e_; exact h_ (by rw [e_]; rfl)) _; (with_reducible repeat (first | refine blk_drewN ?_ _ | refine blk_drew ?_ | refine blk_alloc ?_ _)); exact BK346.out⟩
                        have n4_ : Aside0 (Below w.heap.size w (w46.setCell ⟨go36, (t347 : Int).toNat * 3 + 2, none⟩ (.int .i64 (wrap64 (((rd_T51 t343 t347).f2) - 1))))) := ⟨by repeat (first | (with_reducible first | exact HB.out | apply below_alloc | apply pw_below_drewN | apply below_drew1 | refine below_set ?_ GB36.out | refine below_set ?_ GE340.out | refine below_set ?_ GE341.out | refine below_set ?_ GE346.out) | exact HB.out)⟩
                        (try clear HO_347001)
                        (try clear BK340)
                        (try clear BK341)
                        (try clear BK346)
                        (try clear HB)
                        have ncs_ : (w46.setCell ⟨go36, (t347 : Int).toNat * 3 + 2, none⟩ (.int .i64 (wrap64 (((rd_T51 t343 t347).f2) - 1)))).cell? ⟨go36, (t347 : Int).toNat * 3 + 2, none⟩ = some (.int .i64 (wrap64 (((rd_T51 t343 t347).f2) - 1))) := by go_simp
                        generalize (w46.setCell ⟨go36, (t347 : Int).toNat * 3 + 2, none⟩ (.int .i64 (wrap64 (((rd_T51 t343 t347).f2) - 1)))) = w48 at n0_ n1_ n2_ n3_ n4_ ncs_ ⊢
                        have HO_347001 := n0_
                        have BK340 := n1_
                        have BK341 := n2_
                        have BK346 := n3_
                        have HB := n4_
                        clear n0_ n1_ n2_ n3_ n4_
                        have hnb49 := NB346_340.out
                        have hnc49 := NB340_346.out
                        have hnb50 := NB346_341.out
                        have hnc50 := NB341_346.out
                        have hcz51_0 : w48.cell? ⟨gb346, 0, none⟩ = some (.int .i64 t342) := (blk_cell BK346.out 0).trans rfl
                        have hcz51_1 : w48.cell? ⟨gb346, 1, none⟩ = some (.slice (some ⟨go36, 0, none⟩) t343.length co15) := (blk_cell BK346.out 1).trans rfl
                        have hfz51_0 := blk_frozen BK346.out 0
                        have hfz51_1 := blk_frozen BK346.out 1
                        have p37 : 0 ≤ (t347 : Int) := of_decide_eq_true (by first | (with_reducible assumption) | assumption)
                        have q37 : (t347 : Int) < ((t343.length : Int) : Int) := of_decide_eq_true (by first | (with_reducible assumption) | assumption)
                        replace p37 := eq_true p37
                        replace q37 := eq_true q37
                        try go_wp2
                        have n0_ := Aside0.mk (Kd.R_drew HO_347001.out)
                        have n1_ := Aside0.mk (blk_drew BK340.out)
                        have n2_ := Aside0.mk (blk_drew BK341.out)
                        have n3_ := Aside0.mk (blk_drew BK346.out)
                        have n4_ := Aside0.mk (below_drew1 HB.out)
                        clear HO_347001
                        clear BK340
                        clear BK341
                        clear BK346
                        clear HB
                        have HO_347001 := n0_
                        have BK340 := n1_
                        have BK341 := n2_
                        have BK346 := n3_
                        have HB := n4_
                        clear n0_ n1_ n2_ n3_ n4_
                        have q53 : (t347 : Int) ≤ ((l0_1.length : Int) : Int) := of_decide_eq_true (by first | (with_reducible assumption) | assumption)
                        obtain ⟨i053, hi053, _, hsz53, _⟩ := info_parts info51
                        have hroom53 : l0_1.length ≤ c0_1 := HC0_1.out
                        have hC53 : Kd.C k51 _ A0_1 l0_1.length l0_1 := HR0_1.out
                        have hcut53 := cut_to (P := Try.prog) 27 51 .i64 Try.underlying27 hi053 A0_1 l0_1.length c0_1 t347 (of_decide_eq_true (by first | (with_reducible assumption) | assumption)) q53 hroom53
                        have hr53 := Kd.C_take (m := (t347 : Int).toNat) hC53 (by omega)
                        have hy53 : y355.length = (t347 : Int).toNat := (by rw [Ny355.out, List.length_take]; omega)
                        rw [← Ny355.out] at hr53
                        rw [← hy53] at hcut53
                        have HR358 := Aside0.mk hr53
                        have HC358 := Aside0.mk (show y355.length ≤ c0_1 from by omega)
                        clear hr53 hC53 hroom53 hi053 hsz53
                        have KY53 := Aside0.mk hy53
                        clear hy53
                        replace q53 := eq_true q53
                        have q54 : ((ji42) : Int) ≤ ((l0_1.length : Int) : Int) := of_decide_eq_true (by first | (with_reducible assumption) | assumption)
                        obtain ⟨i054, hi054, _, hsz54, _⟩ := info_parts info51
                        have hroom54 : l0_1.length ≤ c0_1 := HC0_1.out
                        have hC54 : Kd.C k51 _ A0_1 l0_1.length l0_1 := HR0_1.out
                        have q054 : (0 : Int) ≤ ((ji42) : Int) := of_decide_eq_true (by first | (with_reducible assumption) | assumption)
                        have hcut54 := cut_from (P := Try.prog) 27 51 .i64 Try.underlying27 hi054 3 hsz54 A0_1 l0_1.length c0_1 (ji42) q054 q54
                        have hr54 := Kd.C_drop (m := ((ji42) : Int).toNat) (c := c0_1) hC54 (by omega) hroom54
                        obtain ⟨A54, hA54⟩ : ∃ A1, A1 = (if c0_1 = ((ji42) : Int).toNat then A0_1 else (A0_1 : Option Addr).map (·.add (((ji42) : Int).toNat * 3))) := ⟨_, rfl⟩
                        obtain ⟨c54, hc54⟩ : ∃ c1, c1 = c0_1 - ((ji42) : Int).toNat := ⟨_, rfl⟩
                        have hy54 : y362.length = l0_1.length - ((ji42) : Int).toNat := (by rw [Ny362.out, List.length_drop] <;> omega)
                        rw [show (l0_1).drop ((ji42) : Int).toNat = y362 from Ny362.out.symm] at hr54
                        replace hr54 : Kd.C k51 _ A54 y362.length y362 := (by rw [hA54]; exact hr54)
                        rw [← hy54, ← hA54, ← hc54] at hcut54
                        have HR365 := Aside0.mk hr54
                        have HC365 := Aside0.mk (show y362.length ≤ c54 from by rw [hy54, hc54]; exact Nat.sub_le_sub_right hroom54 _)
                        clear hr54 hC54 hroom54 hi054 hsz54 hc54
                        have KY54 := Aside0.mk hy54
                        have KA54 := Aside0.mk hA54
                        clear hy54 hA54
                        replace q54 := eq_true q54
                        refine start_ (n := 14) (S := fun w' => w'.cell? ⟨gb340, 0, none⟩ = some (.int .i64 a0_0) ∧ w'.cell? ⟨gb340, 1, none⟩ = some (.slice A0_1 l0_1.length c0_1)) (ds := []) #[false, false, false, false, false, false, false, false, false, false, false, false, false, false] (by kernel_rfl) rfl rfl ⟨(blk_cell BK340.out 0).trans rfl, (blk_cell BK340.out 1).trans rfl⟩ (fun hHeld => ?_); refine with_tabW spec_Release.tab7 spec_Release.bits7 (fun HT_ HW_ => ?_)
                        generalize w48.drew = w52 at HO_347001 BK340 BK341 BK346 HB HR358 HR365 hHeld ⊢
                        refine pure_ (i := 1) (N := some 41) (v := ?_) (a' := ?_) #[false, true, false, false, false, false, false, false, false, false, false, false, false, false] rfl rfl (any_of HT_.out (by kernel_rfl)) (fun _ _ _ h => h) (Or.inl ⟨by rfl, ?_⟩) ?_ ?_
                        rotate_left
                        · intro w'
                          go_simp
                          with_reducible rfl
                        rotate_left
                        · simp only [Act.put, List.setIfInBounds_toArray, List.set_cons_zero, List.set_cons_succ, i64_w, i32_w]
                          rfl
                        refine pure_ (i := 3) (N := some 43) (v := ?_) (a' := ?_) #[false, true, false, true, false, false, false, false, false, false, false, false, false, false] rfl rfl (any_of HT_.out (by kernel_rfl)) (fun _ _ _ h => h) (Or.inl ⟨by rfl, ?_⟩) ?_ ?_
                        rotate_left
                        · intro w'
                          go_simp
                          with_reducible rfl
                        rotate_left
                        · simp only [Act.put, List.setIfInBounds_toArray, List.set_cons_zero, List.set_cons_succ, i64_w, i32_w]
                          rfl
                        refine pure_ (i := 6) (N := some 46) (v := ?_) (a' := ?_) #[false, true, false, true, false, false, true, false, false, false, false, false, false, false] rfl rfl (any_of HT_.out (by kernel_rfl)) (fun _ _ _ h => h) (Or.inl ⟨by rfl, ?_⟩) ?_ ?_
                        rotate_left
                        · intro w'
                          go_simp
                          with_reducible rfl
                        rotate_left
                        · simp only [Act.put, List.setIfInBounds_toArray, List.set_cons_zero, List.set_cons_succ, i64_w, i32_w]
                          rfl
                        refine pure_ (i := 8) (N := some 48) (v := ?_) (a' := ?_) #[false, true, false, true, false, false, true, false, true, false, false, false, false, false] rfl rfl (any_of HT_.out (by kernel_rfl)) (fun _ _ _ h => h) (Or.inl ⟨by rfl, ?_⟩) ?_ ?_
                        rotate_left
                        · intro w'
                          go_simp
                          with_reducible rfl
                        rotate_left
                        · simp only [Act.put, List.setIfInBounds_toArray, List.set_cons_zero, List.set_cons_succ, i64_w, i32_w]
                          rfl
                        refine pure_ (i := 9) (N := some 49) (v := ?_) (a' := ?_) #[false, true, false, true, false, false, true, false, true, true, false, false, false, false] rfl rfl (any_of HT_.out (by kernel_rfl)) (fun _ _ _ h => h) (Or.inl ⟨by rfl, ?_⟩) ?_ ?_
                        rotate_left
                        · intro w'
                          go_simp
                          with_reducible rfl
                        rotate_left
                        · simp only [Act.put, List.setIfInBounds_toArray, List.set_cons_zero, List.set_cons_succ, i64_w, i32_w]
                          rfl
                        refine take_ (i := 2) (N := some 42) (v := ?_) (a' := ?_) #[false, true, true, true, false, false, true, false, true, true, false, false, false, false] rfl rfl (take_ofW HT_.out HW_.out (by kernel_rfl)) (fun _ _ _ h => h) (Or.inl ⟨by rfl, ?_⟩) hHeld ?_ ?_
                        rotate_left
                        · rintro w' ⟨s0, s1⟩
                          go_simp
                          with_reducible rfl
                        rotate_left
                        · simp only [Act.put, List.setIfInBounds_toArray, List.set_cons_zero, List.set_cons_succ, i64_w, i32_w]
                          rfl
                        refine pure_ (i := 4) (N := some 44) (v := ?_) (a' := ?_) #[false, true, true, true, true, false, true, false, true, true, false, false, false, false] rfl rfl (any_of HT_.out (by kernel_rfl)) (fun _ _ _ h => h) (Or.inl ⟨by rfl, ?_⟩) ?_ ?_
                        rotate_left
                        · intro w'
                          go_simp
                          with_reducible rfl
                        rotate_left
                        · simp only [Act.put, List.setIfInBounds_toArray, List.set_cons_zero, List.set_cons_succ, i64_w, i32_w]
                          rfl
                        refine take_ (i := 7) (N := some 47) (v := ?_) (a' := ?_) #[false, true, true, true, true, false, true, true, true, true, false, false, false, false] rfl rfl (take_ofW HT_.out HW_.out (by kernel_rfl)) (fun _ _ _ h => h) (Or.inl ⟨by rfl, ?_⟩) hHeld ?_ ?_
                        rotate_left
                        · rintro w' ⟨s0, s1⟩
                          go_simp
                          with_reducible rfl
                        rotate_left
                        · simp only [Act.put, List.setIfInBounds_toArray, List.set_cons_zero, List.set_cons_succ, i64_w, i32_w]
                          rfl
                        refine pure_ (i := 10) (N := some 50) (v := ?_) (a' := ?_) #[false, true, true, true, true, false, true, true, true, true, true, false, false, false] rfl rfl (any_of HT_.out (by kernel_rfl)) (fun _ _ _ h => h) (Or.inl ⟨by rfl, ?_⟩) ?_ ?_
                        rotate_left
                        · intro w'
                          go_simp
                          with_reducible rfl
                        rotate_left
                        · simp only [Act.put, List.setIfInBounds_toArray, List.set_cons_zero, List.set_cons_succ, i64_w, i32_w]
                          rfl
                        refine one_ (i := 0) (N := some 40) #[true, true, true, true, true, false, true, true, true, true, true, false, false, false] rfl rfl (one_of HT_.out (by kernel_rfl)) (by decide) (fun K hK => ?_)
                        refine Kd.R_lit_step k51 _ 51 ?hg (N := 40) ?hd (xs := ([] : List (S51))) (inner := []) (ok := fun _ => True) (okp := fun _ => True) ?hr ?hp (fun _ hk => hk) trivial (Below.refl _ _) (Nat.le_refl _) (by simp) ?_; (case hd => rfl); (case hg => rfl); (case hr => first | (go_simp; done) | (go_simp; rfl)); (case hp => exact (Reps.none _ _))
                        intro v353 w55 ho56 hb hg_ hnew_
                        clear hg_ hnew_
                        (first | rw [← Ny352.out] at ho56 | (simp only [Int.reduceToNat] at ho56; rw [← Ny352.out] at ho56))
                        have n0_ := Aside0.mk (Kd.R_elder' (by (with_reducible repeat (first | apply Kd.R_alloc | apply Kd.R_drewN | apply Kd.R_drew)); exact HO_347001.out) (Kd.R_base ho56) hb)
                        have n1_ := Aside0.mk (Kd.R_lower (Kd.R_new' ho56 (Kd.R_lt (by (with_reducible repeat (first | apply Kd.R_alloc | apply Kd.R_drewN | apply Kd.R_drew)); exact HO_347001.out))) (below_size (by repeat (first | (with_reducible first | exact HB.out | apply below_alloc | apply pw_below_drewN | apply below_drew1 | refine below_set ?_ GE340.out | refine below_set ?_ GE341.out | refine below_set ?_ GE346.out) | exact HB.out))))
                        have n2_ := Aside0.mk (blk_below (g := gb340) (o := .cells #[.int .i64 a0_0, .slice A0_1 l0_1.length c0_1] 29 (0, 0)) (by (with_reducible repeat (first | refine blk_drewN ?_ _ | refine blk_drew ?_ | refine blk_alloc ?_ _)); exact BK340.out) hb)
                        have n3_ := Aside0.mk (blk_below (g := gb341) (o := .cells #[.bool false, .int .i64 0, .int .i64 0, .slice none 0 0] 38 (0, 0)) (by (with_reducible repeat (first | refine blk_drewN ?_ _ | refine blk_drew ?_ | refine blk_alloc ?_ _)); exact BK341.out) hb)
                        have n4_ := Aside0.mk (blk_below (g := gb346) (o := .cells #[.int .i64 t342, .slice (some ⟨go36, 0, none⟩) t343.length co15] 29 (0, 0)) (by (with_reducible repeat (first | refine blk_drewN ?_ _ | refine blk_drew ?_ | refine blk_alloc ?_ _)); exact BK346.out) hb)
                        have n5_ := Aside0.mk (below_step (by repeat (first | (with_reducible first | exact HB.out | apply below_alloc | apply pw_below_drewN | apply below_drew1 | refine below_set ?_ GE340.out | refine below_set ?_ GE341.out | refine below_set ?_ GE346.out) | exact HB.out)) hb)
                        clear HO_347001
                        clear BK340
                        clear BK341
                        clear BK346
                        clear HB
                        have HO_347001 := n0_
                        have HO354 := n1_
                        have BK340 := n2_
                        have BK341 := n3_
                        have BK346 := n4_
                        have HB := n5_
                        clear n0_ n1_ n2_ n3_ n4_ n5_
                        clear hb ho56
                        refine hK.out _ _ ⟨(blk_cell BK340.out 0).trans rfl, (blk_cell BK340.out 1).trans rfl⟩ (fun hHeld => ?_)
                        clear hK K
                        refine norm_ (a' := ?_) ?_ ?_
                        rotate_left
                        · show Act.put _ (some 40) _ = _
                          simp only [Act.put, List.setIfInBounds_toArray, List.set_cons_zero, List.set_cons_succ, i64_w, i32_w]
                          rfl
                        refine one_ (i := 5) (N := some 45) #[true, true, true, true, true, true, true, true, true, true, true, false, false, false] rfl rfl (one_of HT_.out (by kernel_rfl)) (by decide) (fun K hK => ?_)
                        refine Kd.R_append_rows_step k51 (w0 := w) w.heap.size (by rfl) (.tmp 40) (.tmp 44) 27 51 (.agg #[(.int .i64 0), (.string ⟨#[]⟩), (.int .i64 0)]) 32 rfl Try.underlying27 info51 rfl (by decide) (by omega) v353 y352 y355 _ _ _ (fun k_ => some k_ ≠ (.slice (some ⟨go36, 0, none⟩) t343.length co15 : Value).ownBlock) (fun _ => False) rfl rfl ?aO ?aR (fun _ _ h => h) (fun _ h => h.elim) ?aF ?aB ?aS ?aL ?_
                        (case aR => repeat (first | exact (Kd.C_below HR358.out HB.out) | (with_reducible refine Kd.C_alloc ?_ _) | (with_reducible refine Kd.C_drewN ?_ _) | (with_reducible refine Kd.C_drew ?_)))
                        (case aB => exact (by repeat (first | (with_reducible first | exact HB.out | apply below_alloc | apply pw_below_drewN | apply below_drew1 | refine below_set ?_ GE340.out | refine below_set ?_ GE341.out | refine below_set ?_ GE346.out) | exact HB.out)))
                        (case aF => exact (fun k_ hk => Kd.fresh' (Kd.R_lt (by (with_reducible repeat (first | apply Kd.R_alloc | apply Kd.R_drewN | apply Kd.R_drew)); exact HO_347001.out)) k_ hk))
                        (case aO => exact (by (with_reducible repeat (first | apply Kd.R_alloc | apply Kd.R_drewN | apply Kd.R_drew)); exact Kd.R_mono HO354.out (fun _ hk => hk.2)))
                        (case aS => exact (below_size (by repeat (first | (with_reducible first | exact HB.out | apply below_alloc | apply pw_below_drewN | apply below_drew1 | refine below_set ?_ GE340.out | refine below_set ?_ GE341.out | refine below_set ?_ GE346.out) | exact HB.out))))
                        (case aL => have := LMc41.out; omega)
                        intro v360 w57 ho hb hg hat
                        rw [← Ny359.out] at ho
                        have n0_ := Aside0.mk (Kd.R_after (ok := (fun _ => True)) (by (with_reducible repeat (first | apply Kd.R_alloc | apply Kd.R_drewN | apply Kd.R_drew)); exact HO_347001.out) hg hat)
                        have n1_ := Aside0.mk (blk_grown (g := gb340) (o := .cells #[.int .i64 a0_0, .slice A0_1 l0_1.length c0_1] 29 (0, 0)) (by (with_reducible repeat (first | refine blk_drewN ?_ _ | refine blk_drew ?_ | refine blk_alloc ?_ _)); exact BK340.out) hg (Kd.R_ne HO354.out BK340.out (by decide)))
                        have n2_ := Aside0.mk (blk_grown (g := gb341) (o := .cells #[.bool false, .int .i64 0, .int .i64 0, .slice none 0 0] 38 (0, 0)) (by (with_reducible repeat (first | refine blk_drewN ?_ _ | refine blk_drew ?_ | refine blk_alloc ?_ _)); exact BK341.out) hg (Kd.R_ne HO354.out BK341.out (by decide)))
                        have n3_ := Aside0.mk (blk_grown (g := gb346) (o := .cells #[.int .i64 t342, .slice (some ⟨go36, 0, none⟩) t343.length co15] 29 (0, 0)) (by (with_reducible repeat (first | refine blk_drewN ?_ _ | refine blk_drew ?_ | refine blk_alloc ?_ _)); exact BK346.out) hg (Kd.R_ne HO354.out BK346.out (by decide)))
                        have n4_ := Aside0.mk (hb)
                        have n5_ := Aside0.mk (ho)
                        clear HO_347001
                        clear BK340
                        clear BK341
                        clear BK346
                        clear HB
                        clear HO354
                        have HO_347001 := n0_
                        have BK340 := n1_
                        have BK341 := n2_
                        have BK346 := n3_
                        have HB := n4_
                        have HO361 := n5_
                        clear n0_ n1_ n2_ n3_ n4_ n5_
                        clear ho hb hg hat
                        refine hK.out _ _ ⟨(blk_cell BK340.out 0).trans rfl, (blk_cell BK340.out 1).trans rfl⟩ (fun hHeld => ?_)
                        clear hK K
                        refine norm_ (a' := ?_) ?_ ?_
                        rotate_left
                        · show Act.put _ (some 45) _ = _
                          simp only [Act.put, List.setIfInBounds_toArray, List.set_cons_zero, List.set_cons_succ, i64_w, i32_w]
                          rfl
                        refine one_ (i := 11) (N := some 51) #[true, true, true, true, true, true, true, true, true, true, true, true, false, false] rfl rfl (one_of HT_.out (by kernel_rfl)) (by decide) (fun K hK => ?_)
                        refine Kd.R_append_rows_step k51 (w0 := w) w.heap.size (by rfl) (.tmp 45) (.tmp 50) 27 51 (.agg #[(.int .i64 0), (.string ⟨#[]⟩), (.int .i64 0)]) 32 rfl Try.underlying27 info51 rfl (by decide) (by omega) v360 y359 y362 _ _ _ (fun k_ => some k_ ≠ (.slice (some ⟨go36, 0, none⟩) t343.length co15 : Value).ownBlock) (fun _ => False) rfl rfl ?aO ?aR (fun _ _ h => h) (fun _ h => h.elim) ?aF ?aB ?aS ?aL ?_
                        (case aR => repeat (first | exact (Kd.C_below HR365.out HB.out) | (with_reducible refine Kd.C_alloc ?_ _) | (with_reducible refine Kd.C_drewN ?_ _) | (with_reducible refine Kd.C_drew ?_)))
                        (case aB => exact (by repeat (first | (with_reducible first | exact HB.out | apply below_alloc | apply pw_below_drewN | apply below_drew1 | refine below_set ?_ GE340.out | refine below_set ?_ GE341.out | refine below_set ?_ GE346.out) | exact HB.out)))
                        (case aF => exact (fun k_ hk => Kd.fresh' (Kd.R_lt (by (with_reducible repeat (first | apply Kd.R_alloc | apply Kd.R_drewN | apply Kd.R_drew)); exact HO_347001.out)) k_ hk))
                        (case aO => exact (by (with_reducible repeat (first | apply Kd.R_alloc | apply Kd.R_drewN | apply Kd.R_drew)); exact HO361.out))
                        (case aS => exact (below_size (by repeat (first | (with_reducible first | exact HB.out | apply below_alloc | apply pw_below_drewN | apply below_drew1 | refine below_set ?_ GE340.out | refine below_set ?_ GE341.out | refine below_set ?_ GE346.out) | exact HB.out))))
                        (case aL => have := LMc45.out; omega)
                        intro v367 w58 ho hb hg hat
                        rw [← Ny366.out] at ho
                        have n0_ := Aside0.mk (Kd.R_after (ok := (fun _ => True)) (by (with_reducible repeat (first | apply Kd.R_alloc | apply Kd.R_drewN | apply Kd.R_drew)); exact HO_347001.out) hg hat)
                        have n1_ := Aside0.mk (blk_grown (g := gb340) (o := .cells #[.int .i64 a0_0, .slice A0_1 l0_1.length c0_1] 29 (0, 0)) (by (with_reducible repeat (first | refine blk_drewN ?_ _ | refine blk_drew ?_ | refine blk_alloc ?_ _)); exact BK340.out) hg (Kd.R_ne HO361.out BK340.out (by decide)))
                        have n2_ := Aside0.mk (blk_grown (g := gb341) (o := .cells #[.bool false, .int .i64 0, .int .i64 0, .slice none 0 0] 38 (0, 0)) (by (with_reducible repeat (first | refine blk_drewN ?_ _ | refine blk_drew ?_ | refine blk_alloc ?_ _)); exact BK341.out) hg (Kd.R_ne HO361.out BK341.out (by decide)))
                        have n3_ := Aside0.mk (blk_grown (g := gb346) (o := .cells #[.int .i64 t342, .slice (some ⟨go36, 0, none⟩) t343.length co15] 29 (0, 0)) (by (with_reducible repeat (first | refine blk_drewN ?_ _ | refine blk_drew ?_ | refine blk_alloc ?_ _)); exact BK346.out) hg (Kd.R_ne HO361.out BK346.out (by decide)))
                        have n4_ := Aside0.mk (hb)
                        have n5_ := Aside0.mk (ho)
                        clear HO_347001
                        clear BK340
                        clear BK341
                        clear BK346
                        clear HB
                        clear HO361
                        have HO_347001 := n0_
                        have BK340 := n1_
                        have BK341 := n2_
                        have BK346 := n3_
                        have HB := n4_
                        have HO368 := n5_
                        clear n0_ n1_ n2_ n3_ n4_ n5_
                        clear ho hb hg hat
                        obtain ⟨Ao59, co59, eo59⟩ := Kd.R_slice HO368.out
                        (first | subst eo59 | (injection eo59 with f1_ f2_ f3_; have f4_ := f1_.symm; have f5_ := f3_.symm; clear f1_ f2_ f3_; subst f4_; subst f5_))
                        refine hK.out _ _ ⟨(blk_cell BK340.out 0).trans rfl, (blk_cell BK340.out 1).trans rfl⟩ (fun hHeld => ?_)
                        clear hK K
                        refine norm_ (a' := ?_) ?_ ?_
                        rotate_left
                        · show Act.put _ (some 51) _ = _
                          simp only [Act.put, List.setIfInBounds_toArray, List.set_cons_zero, List.set_cons_succ, i64_w, i32_w]
                          rfl
                        refine pure_ (i := 12) (N := some 52) (v := ?_) (a' := ?_) #[true, true, true, true, true, true, true, true, true, true, true, true, true, false] rfl rfl (any_of HT_.out (by kernel_rfl)) (fun _ _ _ h => h) (Or.inl ⟨by rfl, ?_⟩) ?_ ?_
                        rotate_left
                        · intro w'
                          go_simp
                          with_reducible rfl
                        rotate_left
                        · simp only [Act.put, List.setIfInBounds_toArray, List.set_cons_zero, List.set_cons_succ, i64_w, i32_w]
                          rfl
                        refine one_ (i := 13) (N := none) #[true, true, true, true, true, true, true, true, true, true, true, true, true, true] rfl rfl (one_of HT_.out (by kernel_rfl)) (by decide) (fun K hK => ?_)
                        have hs60 : w58.cell? ⟨gb346, 1, none⟩ = some (.slice (some ⟨go36, 0, none⟩) t343.length co15) := (blk_cell BK346.out 1).trans rfl
                        have hfs60 := blk_frozen BK346.out 1
                        have hns60_0 := NB340_346.out
                        have hns60_1 := NB341_346.out
                        have hms60_0 := NB346_340.out
                        have hms60_1 := NB346_341.out
                        refine skip_ (w1 := ?_) (by rfl) rfl ?_ ?_
                        rotate_left
                        · go_simp
                          rfl
                        refine hK.out _ _ ⟨((cell_far (p := ⟨gb346, _, none⟩) NB340_346.out _).trans (hHeld.1)), ((cell_far (p := ⟨gb346, _, none⟩) NB340_346.out _).trans (hHeld.2))⟩ (fun hHeld => ?_)
                        clear hK K
                        refine done_ (done_of HT_.out (by kernel_rfl)) ?_
                        have hcz61_0 : w58.cell? ⟨gb346, 0, none⟩ = some (.int .i64 t342) := (blk_cell BK346.out 0).trans rfl
                        have hcz61_1 : w58.cell? ⟨gb346, 1, none⟩ = some (.slice (some ⟨go36, 0, none⟩) t343.length co15) := (blk_cell BK346.out 1).trans rfl
                        have hfz61_0 := blk_frozen BK346.out 0
                        have hfz61_1 := blk_frozen BK346.out 1
                        have hnb62 := NB341_340.out
                        have hnc62 := NB340_341.out
                        have hcz63_0 : w58.cell? ⟨gb341, 0, none⟩ = some (.bool false) := (blk_cell BK341.out 0).trans rfl
                        have hcz63_1 : w58.cell? ⟨gb341, 1, none⟩ = some (.int .i64 0) := (blk_cell BK341.out 1).trans rfl
                        have hcz63_2 : w58.cell? ⟨gb341, 2, none⟩ = some (.int .i64 0) := (blk_cell BK341.out 2).trans rfl
                        have hcz63_3 : w58.cell? ⟨gb341, 3, none⟩ = some (.slice none 0 0) := (blk_cell BK341.out 3).trans rfl
                        have hfz63_0 := blk_frozen BK341.out 0
                        have hfz63_1 := blk_frozen BK341.out 1
                        have hfz63_2 := blk_frozen BK341.out 2
                        have hfz63_3 := blk_frozen BK341.out 3
                        try go_wp2
                        refine bodyPost_ret (results_cell_row rfl _ _ gb341 38 #[.bool true, .int .i64 a1, .int .i64 t342, .slice Ao59 y366.length co59] (0, 0) _ rfl (by (with_reducible repeat (first | refine blk_drewN ?_ _ | refine blk_drew ?_ | refine blk_alloc ?_ _)); refine blk_put (cs := #[.bool true, .int .i64 a1, .int .i64 t342, .slice none 0 0]) ?_ 3 _ rfl; (with_reducible repeat (first | refine blk_drewN ?_ _ | refine blk_drew ?_ | refine blk_alloc ?_ _)); refine blk_put (cs := #[.bool true, .int .i64 a1, .int .i64 0, .slice none 0 0]) ?_ 2 _ rfl; (with_reducible repeat (first | refine blk_drewN ?_ _ | refine blk_drew ?_ | refine blk_alloc ?_ _)); refine blk_put (cs := #[.bool true, .int .i64 0, .int .i64 0, .slice none 0 0]) ?_ 1 _ rfl; (with_reducible repeat (first | refine blk_drewN ?_ _ | refine blk_drew ?_ | refine blk_alloc ?_ _)); refine blk_put (cs := #[.bool false, .int .i64 0, .int .i64 0, .slice none 0 0]) ?_ 0 _ rfl; (with_reducible repeat (first | refine blk_drewN ?_ _ | refine blk_drew ?_ | refine blk_alloc ?_ _)); refine blk_far ?_ NB341_346.out _; (with_reducible repeat (first | refine blk_drewN ?_ _ | refine blk_drew ?_ | refine blk_alloc ?_ _)); exact BK341.out) Try.underlying38 rfl (by kernel_rfl)) rfl ?_
                        exact ⟨_, by first | rfl | (simp [errW_none, errW_some] <;> rfl) | (simp only [← hji42]; first | rfl | (simp [errW_none, errW_some] <;> rfl)) | (simp [*, errW_none, errW_some] <;> rfl), by (with_reducible repeat (first | apply Kd.R_alloc | apply Kd.R_drewN | apply Kd.R_drew)); exact Kd.R_mono (Kd.R_far (p := ⟨gb341, 3, none⟩) (Kd.R_far (p := ⟨gb341, 2, none⟩) (Kd.R_far (p := ⟨gb341, 1, none⟩) (Kd.R_far (p := ⟨gb341, 0, none⟩) (Kd.R_far (p := ⟨gb346, 1, none⟩) (Kd.R_types (Kd.R_types HO368.out BK346.out (by decide)) BK341.out (by decide)) (fun _ hk => hk.1.2) (.slice Ao59 y366.length co59)) (fun _ hk => hk.2) (.bool true)) (fun _ hk => hk.2) (.int .i64 a1)) (fun _ hk => hk.2) (.int .i64 t342)) (fun _ hk => hk.2) (.slice Ao59 y366.length co59)) (fun _ hk => trivial), by repeat (first | (with_reducible first | exact HB.out | apply below_alloc | apply pw_below_drewN | apply below_drew1 | refine below_set ?_ GE340.out | refine below_set ?_ GE341.out | refine below_set ?_ GE346.out) | exact HB.out)⟩
                      · rw [if_neg c45] at H
                        exact absurd H (by simp)
                    · rw [if_neg c44] at H
                      exact absurd H (by simp)
                  · rw [if_neg c43] at H
                    exact absurd H (by simp)
                · rw [if_neg c41] at H
                  exact absurd H (by simp)
              · rw [if_neg c40] at H
                exact absurd H (by simp)
            · rw [if_neg c38] at H
              have c38b0 : ((wrap64 (((rd_T51 t343 t347).f2) - 1)) == 0) = false := beq_eq_false_iff_ne.mpr c38
              have c38b1 : ((wrap64 (((rd_T51 t343 t347).f2) - 1)) != 0) = true := bne_iff_ne.mpr c38
              simp only [Option.some.injEq, Prod.mk.injEq] at H
              obtain ⟨rfl, rfl, rfl, rfl⟩ := H
              try go_wp2
              have n0_ := Aside0.mk (Kd.R_drew HO_347001.out)
              have n1_ := Aside0.mk (blk_drew BK340.out)
              have n2_ := Aside0.mk (blk_drew BK341.out)
              have n3_ := Aside0.mk (blk_drew BK346.out)
              have n4_ := Aside0.mk (below_drew1 HB.out)
              clear HO_347001
              clear BK340
              clear BK341
              clear BK346
              clear HB
              have HO_347001 := n0_
              have BK340 := n1_
              have BK341 := n2_
              have BK346 := n3_
              have HB := n4_
              clear n0_ n1_ n2_ n3_ n4_
              have p349 : 0 ≤ (t347 : Int) := of_decide_eq_true (by first | (with_reducible assumption) | assumption)
              have q349 : t347 < (t343.length : Int) := of_decide_eq_true (by first | (with_reducible assumption) | assumption)
              obtain ⟨ad349, e349, hx349_0, hx349_1, hx349_2⟩ := at_T51 (Kd.R_reads' HO_347001.out).2.2 t347 p349 q349
              cases e349
              replace p349 := eq_true p349
              replace q349 := eq_true q349
              have p36 : 0 ≤ (t347 : Int) := of_decide_eq_true (by first | (with_reducible assumption) | assumption)
              have q36 : (t347 : Int) < ((t343.length : Int) : Int) := of_decide_eq_true (by first | (with_reducible assumption) | assumption)
              obtain ⟨go36, co36, eo36, gb36, gl36, cl36, HG36⟩ := Kd.R_form HO_347001.out (by omega)
              (first | cases eo36 | (injection eo36 with ea_ en_ ec_; (first | subst ea_ | (injection ea_ with ea_; subst ea_)); subst ec_; clear en_))
              have GB36 := Aside0.mk gb36
              have GG36 := Aside0.mk HG36
              clear gb36 gl36 HG36
              (first | simp only [add_plain] at hx349_0 | skip)
              (first | simp only [add_plain] at hx349_1 | skip)
              (first | simp only [add_plain] at hx349_2 | skip)
              obtain ⟨ce36, hcl36, hM36, hcc36, hfr36⟩ := Kd.R_elem HO_347001.out z51 (t347 : Int) p36 q36
              obtain rfl := k51_openM hM36
              have hx36_0 : World.cell? _ ⟨go36, (t347 : Int).toNat * 3, none⟩ = some (.int .i64 ((rd_T51 t343 t347).f0)) := hcc36 0 _ rfl
              have hx36_1 : World.cell? _ ⟨go36, (t347 : Int).toNat * 3 + 1, none⟩ = some (.string ((rd_T51 t343 t347).f1)) := hcc36 1 _ rfl
              have hx36_2 : World.cell? _ ⟨go36, (t347 : Int).toNat * 3 + 2, none⟩ = some (.int .i64 ((rd_T51 t343 t347).f2)) := hcc36 2 _ rfl
              have hf36_0 : World.frozen? _ ⟨go36, (t347 : Int).toNat * 3, none⟩ = false := hfr36 0
              have hf36_1 : World.frozen? _ ⟨go36, (t347 : Int).toNat * 3 + 1, none⟩ = false := hfr36 1
              have hf36_2 : World.frozen? _ ⟨go36, (t347 : Int).toNat * 3 + 2, none⟩ = false := hfr36 2
              clear hcl36 hcc36 hfr36 hM36
              replace p36 := eq_true p36
              replace q36 := eq_true q36
              obtain ⟨ce65, hcl65, hM65, hcc65, hfr65⟩ := Kd.R_elem HO_347001.out z51 (t347 : Int) (of_decide_eq_true (by first | (with_reducible assumption) | assumption)) (by have h_ : (t347 : Int) < ((t343.length : Int) : Int) := of_decide_eq_true (by first | (with_reducible assumption) | assumption); first | exact h_ | (have e_ := (Kd.R_reads' HO_347001.out).1; omega) | simpa using h_)
              obtain rfl := k51_openM hM65
              have HP65 := (Kd.R_seg HO_347001.out (t347 : Int) (of_decide_eq_true (by first | (with_reducible assumption) | assumption)) (by have h_ : (t347 : Int) < ((t343.length : Int) : Int) := of_decide_eq_true (by first | (with_reducible assumption) | assumption); first | exact h_ | (have e_ := (Kd.R_reads' HO_347001.out).1; omega) | simpa using h_) (seg := [.int .i64 (wrap64 (((rd_T51 t343 t347).f2) - 1))]) (j := 2) hcl65 hcc65 (show 3 ≤ 3 from by decide) (x' := (⟨(rd_T51 t343 t347).f0, (rd_T51 t343 t347).f1, wrap64 (((rd_T51 t343 t347).f2) - 1)⟩ : S51)) (k51_mkM _ _ _ (⟨(rd_T51 t343 t347).f0, (rd_T51 t343 t347).f1, wrap64 (((rd_T51 t343 t347).f2) - 1)⟩ : S51) ) (fun _ hk => hk)).1
              rw [← Ny350.out] at HP65
              have HQ65 := Aside0.mk HP65
              clear hcl65 hcc65 hfr65 hM65 HP65
              refine start_ (n := 13) (S := fun w' => w'.cell? ⟨gb346, 0, none⟩ = some (.int .i64 t342) ∧ w'.cell? ⟨gb346, 1, none⟩ = some (.slice (some ⟨go36, 0, none⟩) t343.length co15) ∧ w'.cell? ⟨go36, ((t347).toNat * 3), none⟩ = some (.int .i64 ((rd_T51 t343 t347).f0)) ∧ w'.cell? ⟨go36, ((t347).toNat * 3) + 1, none⟩ = some (.string ((rd_T51 t343 t347).f1)) ∧ w'.cell? ⟨go36, ((t347).toNat * 3) + 2, none⟩ = some (.int .i64 ((rd_T51 t343 t347).f2))) (ds := [12]) #[false, false, false, false, false, false, false, false, false, false, false, false, false] (by kernel_rfl) rfl rfl ⟨(blk_cell BK346.out 0).trans rfl, (blk_cell BK346.out 1).trans rfl, hx349_0, hx349_1, hx349_2⟩ (fun hHeld => ?_); refine with_tabW spec_Release.tab5 spec_Release.bits5 (fun HT_ HW_ => ?_)
              generalize wc.drew = w64 at HO_347001 BK340 BK341 BK346 HB GG36 HQ65 hf36_0 hf36_1 hf36_2 hx349_0 hx349_1 hx349_2 hx36_0 hx36_1 hx36_2 hHeld ⊢
              refine pure_ (i := 0) (N := some 21) (v := ?_) (a' := ?_) #[true, false, false, false, false, false, false, false, false, false, false, false, false] rfl rfl (any_of HT_.out (by kernel_rfl)) (fun _ _ _ h => h) (Or.inl ⟨by rfl, ?_⟩) ?_ ?_
              rotate_left
              · intro w'
                go_simp
                with_reducible rfl
              rotate_left
              · simp only [Act.put, List.setIfInBounds_toArray, List.set_cons_zero, List.set_cons_succ, i64_w, i32_w]
                rfl
              refine pure_ (i := 2) (N := some 23) (v := ?_) (a' := ?_) #[true, false, true, false, false, false, false, false, false, false, false, false, false] rfl rfl (any_of HT_.out (by kernel_rfl)) (fun _ _ _ h => h) (Or.inl ⟨by rfl, ?_⟩) ?_ ?_
              rotate_left
              · intro w'
                go_simp
                with_reducible rfl
              rotate_left
              · simp only [Act.put, List.setIfInBounds_toArray, List.set_cons_zero, List.set_cons_succ, i64_w, i32_w]
                rfl
              refine pure_ (i := 3) (N := some 24) (v := ?_) (a' := ?_) #[true, false, true, true, false, false, false, false, false, false, false, false, false] rfl rfl (any_of HT_.out (by kernel_rfl)) (fun _ _ _ h => h) (Or.inl ⟨by rfl, ?_⟩) ?_ ?_
              rotate_left
              · intro w'
                go_simp
                with_reducible rfl
              rotate_left
              · simp only [Act.put, List.setIfInBounds_toArray, List.set_cons_zero, List.set_cons_succ, i64_w, i32_w]
                rfl
              refine pure_ (i := 5) (N := some 26) (v := ?_) (a' := ?_) #[true, false, true, true, false, true, false, false, false, false, false, false, false] rfl rfl (any_of HT_.out (by kernel_rfl)) (fun _ _ _ h => h) (Or.inl ⟨by rfl, ?_⟩) ?_ ?_
              rotate_left
              · intro w'
                go_simp
                with_reducible rfl
              rotate_left
              · simp only [Act.put, List.setIfInBounds_toArray, List.set_cons_zero, List.set_cons_succ, i64_w, i32_w]
                rfl
              refine take_ (i := 1) (N := some 22) (v := ?_) (a' := ?_) #[true, true, true, true, false, true, false, false, false, false, false, false, false] rfl rfl (take_ofW HT_.out HW_.out (by kernel_rfl)) (fun _ _ _ h => h) (Or.inl ⟨by rfl, ?_⟩) hHeld ?_ ?_
              rotate_left
              · rintro w' ⟨s0, s1, s2, s3, s4⟩
                go_simp
                with_reducible rfl
              rotate_left
              · simp only [Act.put, List.setIfInBounds_toArray, List.set_cons_zero, List.set_cons_succ, i64_w, i32_w]
                rfl
              refine take_ (i := 4) (N := some 25) (v := ?_) (a' := ?_) #[true, true, true, true, true, true, false, false, false, false, false, false, false] rfl rfl (take_ofW HT_.out HW_.out (by kernel_rfl)) (fun _ _ _ h => h) (Or.inl ⟨by rfl, ?_⟩) hHeld ?_ ?_
              rotate_left
              · rintro w' ⟨s0, s1, s2, s3, s4⟩
                go_simp
                with_reducible rfl
              rotate_left
              · simp only [Act.put, List.setIfInBounds_toArray, List.set_cons_zero, List.set_cons_succ, i64_w, i32_w]
                rfl
              refine pure_ (i := 6) (N := some 27) (v := ?_) (a' := ?_) #[true, true, true, true, true, true, true, false, false, false, false, false, false] rfl rfl (any_of HT_.out (by kernel_rfl)) (fun _ _ _ h => h) (Or.inl ⟨by rfl, ?_⟩) ?_ ?_
              rotate_left
              · intro w'
                go_simp
                with_reducible rfl
              rotate_left
              · simp only [Act.put, List.setIfInBounds_toArray, List.set_cons_zero, List.set_cons_succ, i64_w, i32_w]
                rfl
              refine pure_ (i := 7) (N := some 28) (v := ?_) (a' := ?_) #[true, true, true, true, true, true, true, true, false, false, false, false, false] rfl rfl (any_of HT_.out (by kernel_rfl)) (fun _ _ _ h => h) (Or.inl ⟨by rfl, ?_⟩) ?_ ?_
              rotate_left
              · intro w'
                go_simp
                with_reducible rfl
              rotate_left
              · simp only [Act.put, List.setIfInBounds_toArray, List.set_cons_zero, List.set_cons_succ, i64_w, i32_w]
                rfl
              refine take_ (i := 8) (N := some 29) (v := ?_) (a' := ?_) #[true, true, true, true, true, true, true, true, true, false, false, false, false] rfl rfl (take_ofW HT_.out HW_.out (by kernel_rfl)) (fun _ _ _ h => h) (Or.inl ⟨by rfl, ?_⟩) hHeld ?_ ?_
              rotate_left
              · rintro w' ⟨s0, s1, s2, s3, s4⟩
                go_simp
                with_reducible rfl
              rotate_left
              · simp only [Act.put, List.setIfInBounds_toArray, List.set_cons_zero, List.set_cons_succ, i64_w, i32_w]
                rfl
              refine pure_ (i := 9) (N := some 30) (v := ?_) (a' := ?_) #[true, true, true, true, true, true, true, true, true, true, false, false, false] rfl rfl (any_of HT_.out (by kernel_rfl)) (fun _ _ _ h => h) (Or.inl ⟨by rfl, ?_⟩) ?_ ?_
              rotate_left
              · intro w'
                go_simp
                with_reducible rfl
              rotate_left
              · simp only [Act.put, List.setIfInBounds_toArray, List.set_cons_zero, List.set_cons_succ, i64_w, i32_w]
                rfl
              refine pure_ (i := 10) (N := some 31) (v := ?_) (a' := ?_) #[true, true, true, true, true, true, true, true, true, true, true, false, false] rfl rfl (any_of HT_.out (by kernel_rfl)) (fun _ _ _ h => h) (Or.inl ⟨by rfl, ?_⟩) ?_ ?_
              rotate_left
              · intro w'
                go_simp
                with_reducible rfl
              rotate_left
              · simp only [Act.put, List.setIfInBounds_toArray, List.set_cons_zero, List.set_cons_succ, i64_w, i32_w]
                rfl
              refine pure_ (i := 11) (N := some 32) (v := ?_) (a' := ?_) #[true, true, true, true, true, true, true, true, true, true, true, true, false] rfl rfl (any_of HT_.out (by kernel_rfl)) (fun _ _ _ h => h) (Or.inl ⟨by rfl, ?_⟩) ?_ ?_
              rotate_left
              · intro w'
                go_simp
                with_reducible rfl
              rotate_left
              · simp only [Act.put, List.setIfInBounds_toArray, List.set_cons_zero, List.set_cons_succ, i64_w, i32_w]
                rfl
              refine last_ (i := 12) (N := none) #[true, true, true, true, true, true, true, true, true, true, true, true, true] rfl rfl (one_of HT_.out (by kernel_rfl)) (by decide) (fun K hK => ?_)
              refine skip_ (w1 := ?_) (by rfl) rfl ?_ ?_
              rotate_left
              · go_simp
                rfl
              refine hK.out _ _ ?_
              clear hK K
              refine done_ (done_of HT_.out (by kernel_rfl)) ?_
              have n0_ : Aside0 (Kd.R k51 51 (w64.setCell ⟨go36, (t347 : Int).toNat * 3 + 2, none⟩ (.int .i64 (wrap64 (((rd_T51 t343 t347).f2) - 1)))) w.heap.size (fun _ => True) (.slice (some ⟨go36, 0, none⟩) t343.length co15) y350) := ⟨by (with_reducible repeat (first | apply Kd.R_alloc | apply Kd.R_drewN | apply Kd.R_drew)); exact HQ65.out⟩
              have n1_ : Aside0 ((w64.setCell ⟨go36, (t347 : Int).toNat * 3 + 2, none⟩ (.int .i64 (wrap64 (((rd_T51 t343 t347).f2) - 1)))).heap[gb340]? = some (.cells #[.int .i64 a0_0, .slice A0_1 l0_1.length c0_1] 29 (0, 0))) := ⟨by (with_reducible repeat (first | refine blk_drewN ?_ _ | refine blk_drew ?_ | refine blk_alloc ?_ _)); refine blk_far ?_ (by have h_ := Kd.R_ne HO_347001.out BK340.out (by decide); intro e_; exact h_ (by rw [e_]; rfl)) _; (with_reducible repeat (first | refine blk_drewN ?_ _ | refine blk_drew ?_ | refine blk_alloc ?_ _)); exact BK340.out⟩
              have n2_ : Aside0 ((w64.setCell ⟨go36, (t347 : Int).toNat * 3 + 2, none⟩ (.int .i64 (wrap64 (((rd_T51 t343 t347).f2) - 1)))).heap[gb341]? = some (.cells #[.bool false, .int .i64 0, .int .i64 0, .slice none 0 0] 38 (0, 0))) := ⟨by (with_reducible repeat (first | refine blk_drewN ?_ _ | refine blk_drew ?_ | refine blk_alloc ?_ _)); refine blk_far ?_ (by have h_ := Kd.R_ne HO_347001.out BK341.out (by decide); intro e_; exact h_ (by rw [e_]; rfl)) _; (with_reducible repeat (first | refine blk_drewN ?_ _ | refine blk_drew ?_ | refine blk_alloc ?_ _)); exact BK341.out⟩
              have n3_ : Aside0 ((w64.setCell ⟨go36, (t347 : Int).toNat * 3 + 2, none⟩ (.int .i64 (wrap64 (((rd_T51 t343 t347).f2) - 1)))).heap[gb346]? = some (.cells #[.int .i64 t342, .slice (some ⟨go36, 0, none⟩) t343.length co15] 29 (0, 0))) := ⟨by (with_reducible repeat (first | refine blk_drewN ?_ _ | refine blk_drew ?_ | refine blk_alloc ?_ _)); refine blk_far ?_ (by have h_ := Kd.R_ne HO_347001.out BK346.out (by decide); intro e_; exact h_ (by rw [e_]; rfl)) _; (with_reducible repeat (first | refine blk_drewN ?_ _ | refine blk_drew ?_ | refine blk_alloc ?_ _)); exact BK346.out⟩
              have n4_ : Aside0 (Below w.heap.size w (w64.setCell ⟨go36, (t347 : Int).toNat * 3 + 2, none⟩ (.int .i64 (wrap64 (((rd_T51 t343 t347).f2) - 1))))) := ⟨by repeat (first | (with_reducible first | exact HB.out | apply below_alloc | apply pw_below_drewN | apply below_drew1 | refine below_set ?_ GB36.out | refine below_set ?_ GE340.out | refine below_set ?_ GE341.out | refine below_set ?_ GE346.out) | exact HB.out)⟩
              (try clear HO_347001)
              (try clear BK340)
              (try clear BK341)
              (try clear BK346)
              (try clear HB)
              have ncs_ : (w64.setCell ⟨go36, (t347 : Int).toNat * 3 + 2, none⟩ (.int .i64 (wrap64 (((rd_T51 t343 t347).f2) - 1)))).cell? ⟨go36, (t347 : Int).toNat * 3 + 2, none⟩ = some (.int .i64 (wrap64 (((rd_T51 t343 t347).f2) - 1))) := by go_simp
              generalize (w64.setCell ⟨go36, (t347 : Int).toNat * 3 + 2, none⟩ (.int .i64 (wrap64 (((rd_T51 t343 t347).f2) - 1)))) = w66 at n0_ n1_ n2_ n3_ n4_ ncs_ ⊢
              have HO_347001 := n0_
              have BK340 := n1_
              have BK341 := n2_
              have BK346 := n3_
              have HB := n4_
              clear n0_ n1_ n2_ n3_ n4_
              have hnb67 := NB346_340.out
              have hnc67 := NB340_346.out
              have hnb68 := NB346_341.out
              have hnc68 := NB341_346.out
              have hcz69_0 : w66.cell? ⟨gb346, 0, none⟩ = some (.int .i64 t342) := (blk_cell BK346.out 0).trans rfl
              have hcz69_1 : w66.cell? ⟨gb346, 1, none⟩ = some (.slice (some ⟨go36, 0, none⟩) t343.length co15) := (blk_cell BK346.out 1).trans rfl
              have hfz69_0 := blk_frozen BK346.out 0
              have hfz69_1 := blk_frozen BK346.out 1
              have p37 : 0 ≤ (t347 : Int) := of_decide_eq_true (by first | (with_reducible assumption) | assumption)
              have q37 : (t347 : Int) < ((t343.length : Int) : Int) := of_decide_eq_true (by first | (with_reducible assumption) | assumption)
              replace p37 := eq_true p37
              replace q37 := eq_true q37
              have hnb70 := NB341_340.out
              have hnc70 := NB340_341.out
              have hcz71_0 : w66.cell? ⟨gb341, 0, none⟩ = some (.bool false) := (blk_cell BK341.out 0).trans rfl
              have hcz71_1 : w66.cell? ⟨gb341, 1, none⟩ = some (.int .i64 0) := (blk_cell BK341.out 1).trans rfl
              have hcz71_2 : w66.cell? ⟨gb341, 2, none⟩ = some (.int .i64 0) := (blk_cell BK341.out 2).trans rfl
              have hcz71_3 : w66.cell? ⟨gb341, 3, none⟩ = some (.slice none 0 0) := (blk_cell BK341.out 3).trans rfl
              have hfz71_0 := blk_frozen BK341.out 0
              have hfz71_1 := blk_frozen BK341.out 1
              have hfz71_2 := blk_frozen BK341.out 2
              have hfz71_3 := blk_frozen BK341.out 3
              try go_wp2
              refine bodyPost_ret (results_cell_row rfl _ _ gb341 38 #[.bool true, .int .i64 a1, .int .i64 t342, .slice (some ⟨go36, 0, none⟩) t343.length co15] (0, 0) _ rfl (by (with_reducible repeat (first | refine blk_drewN ?_ _ | refine blk_drew ?_ | refine blk_alloc ?_ _)); refine blk_put (cs := #[.bool true, .int .i64 a1, .int .i64 t342, .slice none 0 0]) ?_ 3 _ rfl; (with_reducible repeat (first | refine blk_drewN ?_ _ | refine blk_drew ?_ | refine blk_alloc ?_ _)); refine blk_put (cs := #[.bool true, .int .i64 a1, .int .i64 0, .slice none 0 0]) ?_ 2 _ rfl; (with_reducible repeat (first | refine blk_drewN ?_ _ | refine blk_drew ?_ | refine blk_alloc ?_ _)); refine blk_put (cs := #[.bool true, .int .i64 0, .int .i64 0, .slice none 0 0]) ?_ 1 _ rfl; (with_reducible repeat (first | refine blk_drewN ?_ _ | refine blk_drew ?_ | refine blk_alloc ?_ _)); refine blk_put (cs := #[.bool false, .int .i64 0, .int .i64 0, .slice none 0 0]) ?_ 0 _ rfl; (with_reducible repeat (first | refine blk_drewN ?_ _ | refine blk_drew ?_ | refine blk_alloc ?_ _)); exact BK341.out) Try.underlying38 rfl (by kernel_rfl)) rfl ?_
              exact ⟨_, by first | rfl | (simp [errW_none, errW_some] <;> rfl) | (simp [*, errW_none, errW_some] <;> rfl), by (with_reducible repeat (first | apply Kd.R_alloc | apply Kd.R_drewN | apply Kd.R_drew)); exact Kd.R_mono (Kd.R_far (p := ⟨gb341, 3, none⟩) (Kd.R_far (p := ⟨gb341, 2, none⟩) (Kd.R_far (p := ⟨gb341, 1, none⟩) (Kd.R_far (p := ⟨gb341, 0, none⟩) (Kd.R_types HO_347001.out BK341.out (by decide)) (fun _ hk => hk.2) (.bool true)) (fun _ hk => hk.2) (.int .i64 a1)) (fun _ hk => hk.2) (.int .i64 t342)) (fun _ hk => hk.2) (.slice (some ⟨go36, 0, none⟩) t343.length co15)) (fun _ hk => trivial), by repeat (first | (with_reducible first | exact HB.out | apply below_alloc | apply pw_below_drewN | apply below_drew1 | refine below_set ?_ GE340.out | refine below_set ?_ GE341.out | refine below_set ?_ GE346.out) | exact HB.out)⟩
          · rw [if_neg c35] at H
            exact absurd H (by simp)
        · rw [if_neg c34] at H
          exact absurd H (by simp)

/-! ### impl_release1: a text by hand -/
-- import Derived.Deep.RegionLaw
-- import Derived.Maps.OwnSet
def rRes (l : List S51) (id : Int) : Option (List S51) :=
  match ixId l id with
  | some i => if (gT l i).f2 = 1 then some (l.eraseIdx i) else some (l.set i ⟨(gT l i).f0, (gT l i).f1, (gT l i).f2 - 1⟩)
  | none => none
theorem ixId_none {l : List S51} {id : Int} (h : tById l id = none) : ixId l id = none := by
  unfold tById at h
  unfold ixId
  rw [List.find?_eq_none] at h
  rw [List.findIdx?_eq_none_iff]
  intro x hx
  simpa using h x hx
def RePost (lo bk m1 m2 : Nat) (next : Int) (l : List S51) (id : Int) (w : World) (e : Ending) (w' : World) : Prop :=
  (rRes l id = none ∧ e = .returned (.bool false) ∧ w' = w) ∨ ∃ l' E', rRes l id = some l' ∧ e = .returned (.bool true) ∧ E'.map (·.2) = l' ∧ Book w' lo bk m1 m2 next E' ∧ Below lo w w'
theorem key_uniq {next : Int} {E : List (Nat × S51)} {l : List S51} (hE : E.map (·.2) = l) (hv : vT next l = true) (i : Nat) (hi : i < E.length) (b : Nat) (x : S51) (h0 : x.f0 = (E[i]).2.f0) (h1 : x.f1 = (E[i]).2.f1) (j : Nat) (hj : j < (E.set i (b, x)).length) (hi' : i < (E.set i (b, x)).length) :
    (kS ((E.set i (b, x))[j]).2 = kS ((E.set i (b, x))[i]).2 → j = i) ∧ (kI ((E.set i (b, x))[j]).2 = kI ((E.set i (b, x))[i]).2 → j = i) := by
  have hlen : E.length = l.length := by rw [← hE]; simp
  have hj' : j < E.length := by simpa using hj
  by_cases c : i = j
  · exact ⟨fun _ => c.symm, fun _ => c.symm⟩
  · rw [List.getElem_set_ne c, List.getElem_set_self]
    refine ⟨fun h => ?_, fun h => ?_⟩
    · unfold kS at h
      rw [h1, getE hE hj', getE hE hi] at h
      exact text_inj hv (by omega) (by omega) (by rw [ByteArray.toList_eq, ByteArray.toList_eq]; exact Lit.string.inj h)
    · unfold kI at h
      rw [h0, getE hE hj', getE hE hi] at h
      exact id_inj hv (by omega) (by omega) (Lit.int.inj h).2
set_option maxHeartbeats 4000000 in
set_option maxRecDepth 100000 in
theorem release_any {w : World} {lo bk m1 m2 : Nat} {next : Int} {E : List (Nat × S51)} {l : List S51} (hbk : Book w lo bk m1 m2 next E) (hE : E.map (·.2) = l) (hv : vT next l = true) (id : Int) :
    Calls Try.prog 44 #[.pointer (some ⟨bk, 0, none⟩), .int .i64 id] w (RePost lo bk m1 m2 next l id w) := by
  have hu51 := Try.underlying51
  have hu61 := Try.underlying61
  obtain ⟨o, hlk, ho⟩ := Book.lookI hbk hE (fun t ht => by have := vT_mem hv ht; have := (vT_facts hv).2.1; omega) id
  have b1 : w.cell? ⟨bk, 1, none⟩ = some (.map (some m1)) := (blk_cell hbk.2.2.2.2.2.1 1).trans rfl
  have b2 : w.cell? ⟨bk, 2, none⟩ = some (.map (some m2)) := (blk_cell hbk.2.2.2.2.2.1 2).trans rfl
  have bl := blk_lt hbk.2.2.2.2.2.1
  have HBK := Aside0.mk hbk
  have HE := Aside0.mk hE
  have HV := Aside0.mk hv
  have HN := Aside0.mk (vT_facts hv)
  rcases ho with ⟨rfl, ho⟩ | ⟨b, t, rfl, ho, hm⟩
  · have HI := Aside0.mk (show rRes l id = none by unfold rRes; rw [ixId_none ho])
    simp only [ptrV] at hlk
    clear hbk hE hv ho
    go_enter Try.func44, Try.ntmps44
    go_wp2_with fail
    go_ret
    exact Or.inl ⟨HI.out, rfl, rfl⟩
  · obtain ⟨i, hi, hix, hEi⟩ := ixId_of hv hE ho hm
    have ht : gT l i = t := by rw [← getE hE hi, hEi]
    have HT := Aside0.mk (show rRes l id = if t.f2 = 1 then some (l.eraseIdx i) else some (l.set i ⟨t.f0, t.f1, t.f2 - 1⟩) by unfold rRes; rw [hix]; simp only [ht])
    have HB := Aside0.mk (hbk.2.2.2.2.2.2.1 _ hm)
    have HTB := Aside0.mk (vT_mem hv (show t ∈ l by rw [← hE]; exact List.mem_map_of_mem hm))
    have HID := Aside0.mk (show t.f0 = id by have := List.find?_some ho; simpa using this)
    have hbt : b ≠ bk := fun he => by have := (hbk.2.2.2.2.2.2.1 _ hm).2; simp only at this; rw [he, hbk.2.2.2.2.2.1] at this; cases this
    have t1 : w.cell? ⟨b, 1, none⟩ = some (.string t.f1) := (blk_cell HB.out.2 1).trans rfl
    have t2 : w.cell? ⟨b, 2, none⟩ = some (.int .i64 t.f2) := (blk_cell HB.out.2 2).trans rfl
    have tf := blk_frozen HB.out.2 2
    have tl := blk_lt HB.out.2
    have HS := Aside0.mk (Book.setRefs hbk i hi (t.f2 - 1))
    have HEi := Aside0.mk hEi
    have HIi := Aside0.mk hi
    simp only [ptrV] at hlk
    clear hbk hE hv ho hm hix ht
    have hw0 : 1 ≤ t.f2 := by have := HTB.out; omega
    have hw1 : t.f2 ≤ 2000000000 := HTB.out.2.2.2.2.2
    by_cases cm : t.f2 = 1
    case neg =>
      have cmb : (t.f2 - 1 == 0) = false := beq_eq_false_iff_ne.2 (by omega)
      have HI := Aside0.mk (show rRes l id = some (l.set i ⟨t.f0, t.f1, t.f2 - 1⟩) by rw [HT.out, if_neg cm])
      clear cm
      go_enter Try.func44, Try.ntmps44
      go_wp2_with fail
      go_ret
      refine Or.inr ⟨_, E.set i (b, ⟨t.f0, t.f1, t.f2 - 1⟩), HI.out, rfl, ?_, ?_, ?_⟩
      · rw [List.map_set, HE.out]
      · have h := HS.out
        rw [HEi.out] at h
        exact h
      · exact (Below.refl lo _).setCell HB.out.1 _
    case pos =>
      have cmb : (t.f2 - 1 == 0) = true := beq_iff_eq.2 (by omega)
      have HI := Aside0.mk (show rRes l id = some (l.eraseIdx i) by rw [HT.out, if_pos cm])
      have cmz : t.f2 - 1 = 0 := by omega
      clear cm
      have hS := HS.out
      rw [cmz] at hS
      rw [HEi.out] at hS
      obtain ⟨E1, hi1, hu, her, hl1, hge, hs1⟩ : ∃ E1 : List (Nat × S51), ∃ hi1 : i < E1.length, (∀ (j : Nat) (hj : j < E1.length), (kS (E1[j]).2 = kS (E1[i]).2 → j = i) ∧ (kI (E1[j]).2 = kI (E1[i]).2 → j = i)) ∧ E1.eraseIdx i = E.eraseIdx i ∧ E1.length = (E.length - 1) + 1 ∧ E1[i] = (b, (⟨t.f0, t.f1, 0⟩ : S51)) ∧ Book (w.setCell ⟨b, 2, none⟩ (.int .i64 0)) lo bk m1 m2 next E1 :=
        ⟨E.set i (b, (⟨t.f0, t.f1, 0⟩ : S51)), by simpa using HIi.out, fun j hj => key_uniq HE.out HV.out i HIi.out b ⟨t.f0, t.f1, 0⟩ (by rw [HEi.out]) (by rw [HEi.out]) j hj (by simpa using HIi.out), List.eraseIdx_set_eq, by have := HIi.out; simp; omega, by rw [List.getElem_set_self], hS⟩
      have HU2 := Aside0.mk hu
      have HER := Aside0.mk her
      have HL1 := Aside0.mk hl1
      have HGE := Aside0.mk hge
      have HS1 := Aside0.mk hs1
      clear hS HS hu her hl1 hge hs1
      have hmI : (fE kI E1 (.int .i64 id)).isSome = true := by
        cases hq : fE kI E1 (.int .i64 id) with
        | some _ => rfl
        | none => exact absurd (show kI (E1[i]).2 = .int .i64 id by rw [HGE.out]; unfold kI; rw [HID.out]) (fE_none.1 hq _ (List.getElem_mem hi1))
      have hmS : (fE kS E1 (kS t)).isSome = true := by
        cases hq : fE kS E1 (kS t) with
        | some _ => rfl
        | none => exact absurd (show kS (E1[i]).2 = kS t by rw [HGE.out]; rfl) (fE_none.1 hq _ (List.getElem_mem hi1))
      have o2 := HS1.out.2.2.2.2.2.2.2.2
      have o1 := HS1.out.2.2.2.2.2.2.2.1
      rw [HL1.out] at o1 o2
      obtain ⟨wa, hA, oA, tA⟩ := MapOf.drop o2 lawI Try.underlying59 (keyI id (by have := HTB.out; have := HN.out; have := HID.out; omega) (by have := HTB.out; have := HN.out; have := HID.out; omega)) hmI 0
      obtain ⟨wb, hB, oB, tB⟩ := MapOf.drop (MapOf.drew (MapOf.kept o1 tA.grown (by simp [HBK.out.2.2.2.1]))) lawS Try.underlying58 (keyS t.f1 (by have := HTB.out; unfold maxLen; omega)) hmS 0
      have HA := Aside0.mk hA
      have HBd := Aside0.mk hB
      have OA := Aside0.mk oA
      have OB := Aside0.mk oB
      have TA := Aside0.mk tA
      have TB := Aside0.mk tB
      clear hA hB oA oB tA tB o1 o2 hmI hmS
      go_enter Try.func44, Try.ntmps44
      rw [cmz] at cmb
      go_wp2_with (at_delete; refine list_val rfl (exec_delete _ _ _ _ rfl rfl rfl HA.out) ?_)
      have kk : ∀ (q : Nat) (cs : Array Value) (ty : TypeId), (w.setCell ⟨b, 2, none⟩ (.int .i64 0)).heap[q]? = some (.cells cs ty (0, 0)) → wa.heap[q]? = some (.cells cs ty (0, 0)) := fun q cs ty hc => by
        obtain ⟨es2, cl2, hm2⟩ := MapOf.isMapObj HS1.out.2.2.2.2.2.2.2.2
        have n2 : q ≠ m2 := fun he => by rw [he, hm2] at hc; cases hc
        exact (TA.out.grown.block q (blk_lt hc) (by simp [n2])).trans hc
      have K6 := Aside0.mk (kk _ _ _ HS1.out.2.2.2.2.2.1)
      have KB := Aside0.mk (kk _ _ _ (HS1.out.2.2.2.2.2.2.1 (b, ⟨t.f0, t.f1, 0⟩) (by rw [← HGE.out]; exact List.getElem_mem hi1)).2)
      clear kk b1 b2 bl t1 t2 tf tl hlk
      have b1 : wa.cell? ⟨bk, 1, none⟩ = some (.map (some m1)) := (blk_cell K6.out 1).trans rfl
      have t1 : wa.cell? ⟨b, 1, none⟩ = some (.string t.f1) := (blk_cell KB.out 1).trans rfl
      have bl := blk_lt K6.out
      go_region_law (refine step_delete rfl _ _ _ _ rfl rfl rfl HBd.out ?_)
      all_goals
        go_wp2_with fail
        go_ret
        refine Or.inr ⟨_, E1.eraseIdx i, HI.out, rfl, ?_, ?_, ?_⟩
        · rw [HER.out]
          apply List.ext_getElem?
          intro x
          rw [← HE.out, List.getElem?_map, List.getElem?_eraseIdx, List.getElem?_eraseIdx]
          split <;> rw [List.getElem?_map]
        · have hOA := OA.out
          have hOB := OB.out
          have e1 : kI (E1[i]).2 = .int .i64 id := by rw [HGE.out]; unfold kI; rw [HID.out]
          have e2 : kS (E1[i]).2 = .string t.f1.data.toList := by rw [HGE.out]; rfl
          have gA := TA.out.grown
          exact Book.erase (w2 := wa.drew) HS1.out i hi1 (fun j hj h => (HU2.out j hj).1 h) (fun j hj h => (HU2.out j hj).2 h) ⟨gA.os, gA.tape, gA.output, gA.size, gA.block⟩ (by rw [e1, HL1.out]; exact MapOf.drew hOA) TB.out.grown (by rw [e2, HL1.out]; exact hOB)
        · have g0 : lo ≤ w.heap.size := by have := blk_lt HBK.out.2.2.2.2.2.1; have := HBK.out.1; omega
          have b0 := ((Below.refl lo w).setCell (p := ⟨b, 2, none⟩) HB.out.1 (.int .i64 0)).grown TA.out.grown (by simpa using g0) (fun k hk => by cases hk; exact HBK.out.2.2.1)
          have g1 : lo ≤ wa.heap.size := Nat.le_trans (by simpa using g0) TA.out.grown.size
          exact b0.drew.grown TB.out.grown g1 (fun k hk => by cases hk; exact HBK.out.2.1)

/-! ### L_release: a text by hand -/
theorem ixId_lt {l : List S51} {s : Int} {i : Nat} (h : ixId l s = some i) : i < l.length := (List.findIdx?_eq_some_iff_getElem.1 h).1
def sRelease (next : Int) (l : List S51) (id : Int) : Bool × Int × Int × List S51 :=
  if vT next l = true then (match rRes l id with | some l' => (true, id, next, l') | none => (false, 0, next, l)) else (false, 0, next, l)
theorem rRes_asc {next : Int} {l l' : List S51} {id : Int} (hv : vT next l = true) (h : rRes l id = some l') : l'.Pairwise ltX := by
  unfold rRes at h
  split at h
  · rename_i i hi
    split at h
    · cases h
      exact (vT_asc hv).sublist (List.eraseIdx_sublist _ _)
    · cases h
      exact asc_set (vT_asc hv) i _ (ixId_lt hi) rfl
  · cases h
theorem rRes_facts {next : Int} {l : List S51} {id : Int} {l' : List S51} (hv : vT next l = true) (h : rRes l id = some l') : (l'.map kS).Nodup ∧ l'.length ≤ 1200 := by
  refine ⟨asc_nodup (rRes_asc hv h), ?_⟩
  have hl := (vT_facts hv).2.2.1
  have hle : l'.length ≤ l.length := by
    unfold rRes at h
    split at h
    · split at h
      · cases h; exact (List.eraseIdx_sublist _ _).length_le
      · cases h; simp
    · cases h
  omega

/-! ### L_release2: a text by hand -/
theorem byIdIx_loop (next : Int) (l : List S51) (id : Int) (hl : l.length ≤ 4398046511104) : ∀ (d i : Nat), i + d = l.length → Ev (fun k => spec_l4ById.l0 k id (i : Int) next l) (match ixId (l.drop i) id with | some j => ((i + j : Nat) : Int) | none => -1) := by
  intro d
  induction d with
  | zero =>
    intro i hi
    rw [List.drop_of_length_le (by omega)]
    exact Ev.step (f := fun _ => some (-1)) (fun K => by simp only [spec_l4ById.l0]; rw [if_neg (by omega)]) (Ev.now _)
  | succ d ih =>
    intro i hi
    rw [dropI l i (by omega)]
    by_cases c : (gT l i).f0 = id
    · have e : ixId (gT l i :: l.drop (i + 1)) id = some 0 := by unfold ixId; rw [List.findIdx?_cons, if_pos (by simpa using c)]
      rw [e]
      exact Ev.step (f := fun _ => some (i : Int)) (fun K => by simp only [spec_l4ById.l0]; rw [if_pos (by omega), if_pos (by omega), gT_rd, if_pos c]) (Ev.now _)
    · have e : ixId (gT l i :: l.drop (i + 1)) id = (ixId (l.drop (i + 1)) id).map (· + 1) := by unfold ixId; rw [List.findIdx?_cons, if_neg (by simpa using c)]
      rw [e]
      have ih' := ih (i + 1) (by omega)
      have e2 : (match (ixId (l.drop (i + 1)) id).map (· + 1) with | some j => ((i + j : Nat) : Int) | none => -1) = (match ixId (l.drop (i + 1)) id with | some j => ((i + 1 + j : Nat) : Int) | none => -1) := by
        cases ixId (l.drop (i + 1)) id with
        | none => rfl
        | some j => exact congrArg (fun n : Nat => (n : Int)) (by omega : i + (j + 1) = i + 1 + j)
      rw [e2]
      exact Ev.step (fun K => by simp only [spec_l4ById.l0]; rw [if_pos (by omega), if_pos (by omega), gT_rd, if_neg c, show wrap64 ((i : Int) + 1) = ((i + 1 : Nat) : Int) by unfold wrap64; omega]) ih'
theorem byIdIx_ev (next : Int) (l : List S51) (id : Int) (hl : l.length ≤ 4398046511104) : Ev (fun k => spec_l4ById.f k next l id) (match ixId l id with | some j => (j : Int) | none => -1) := by
  have h := byIdIx_loop next l id hl l.length 0 (by omega)
  simpa [spec_l4ById.f] using h
theorem specRelease_ev (next : Int) (l : List S51) (id : Int) (hL : l.length < 4398046511104) : Ev (fun k => spec_Release.f k next l id) (sRelease next l id) := by
  unfold spec_Release.f
  refine Ev.congr (fun K => by rw [l4Copy_ok hL]) ?_
  refine Ev.bind (Ev.now _) ?_
  refine Ev.bind (byIdIx_ev next l id (by omega)) ?_
  refine Ev.bind (specValid_ev next l) ?_
  unfold sRelease
  by_cases hv : vT next l = true
  · refine Ev.congr (fun K => by rw [if_pos hv]) ?_
    rw [if_pos hv]
    unfold rRes
    cases hi : ixId l id with
    | none =>
      simp only
      exact Ev.step (f := fun _ => some (false, 0, next, l)) (fun K => by simp only [spec_Release.j0]; rw [if_pos (by decide)]) (Ev.now _)
    | some i =>
      have hil := ixId_lt hi
      have hm := vT_mem hv (show gT l i ∈ l by rw [gT_at l i hil]; exact List.getElem_mem _)
      have hw : wrap64 ((gT l i).f2 - 1) = (gT l i).f2 - 1 := by unfold wrap64; omega
      have hw2 : wrap64 ((i : Int) + 1) = ((i + 1 : Nat) : Int) := by unfold wrap64; omega
      simp only
      refine Ev.step (fun K => by simp only [spec_Release.j0]; rw [if_neg (by simp), if_pos (by omega), if_pos (by omega), gT_rd, hw]) ?_
      by_cases c : (gT l i).f2 = 1
      · rw [if_pos c]
        refine Ev.congr (fun K => by rw [if_pos (by omega), Option.bind_some, if_pos (by omega), Option.bind_some, if_pos (by simp; omega), Option.bind_some, hw2, if_pos (by omega), if_pos (by omega), Option.bind_some, if_pos (by simp; omega), Int.toNat_natCast, Int.toNat_natCast, List.nil_append, ← List.eraseIdx_eq_take_drop_succ]) (Ev.now _)
      · rw [if_neg c]
        exact Ev.congr (fun K => by rw [if_neg (by omega), Int.toNat_natCast]) (Ev.now _)
  · rw [if_neg hv]
    exact Ev.congr (fun K => by rw [if_neg hv]) (Ev.step (f := fun _ => some (false, 0, next, l)) (fun K => by simp only [spec_Release.j0]; rw [if_pos trivial]) (Ev.now _))
theorem specRelease_h {k : Nat} {next : Int} {l : List S51} {id : Int} {r : Bool × Int × Int × List S51} (h : spec_Release.f k next l id = some r) : l.length < 4398046511104 ∧ r = sRelease next l id := by
  have hL : l.length < 4398046511104 := by
    have h1 := h
    unfold spec_Release.f at h1
    obtain ⟨t, ht, _⟩ := Option.bind_eq_some_iff.1 h1
    exact (l4Copy_eq ht).1
  exact ⟨hL, ev_eq (spec_Release.mono next l id) (specRelease_ev next l id hL) h⟩
def ixI (l : List S51) (id : Int) : Int := match ixId l id with | some j => (j : Int) | none => -1
theorem byIdI_ev (next : Int) (l : List S51) (id : Int) (hl : l.length ≤ 4398046511104) : Ev (fun k => spec_l4ById.f k next l id) (ixI l id) := byIdIx_ev next l id hl

/-! ### impl_release2: a text by hand -/
-- import Derived.Deep.RegionLaw
theorem sRelease_no {next : Int} {l : List S51} {id : Int} (h : vT next l = false ∨ rRes l id = none) : sRelease next l id = (false, 0, next, l) := by
  unfold sRelease
  rcases h with h | h
  · rw [h]; rfl
  · rw [h]; split <;> rfl
theorem sRelease_yes {next : Int} {l l' : List S51} {id : Int} (hv : vT next l = true) (h : rRes l id = some l') : sRelease next l id = (true, id, next, l') := by
  unfold sRelease
  rw [if_pos hv, h]
set_option maxHeartbeats 4000000 in
set_option maxRecDepth 100000 in
theorem releaseI_any (next : Int) (A : Option Addr) (c : Nat) (l : List S51) (id : Int) (w : World) (hr : Kd.C k51 w A l.length l) (hc : l.length ≤ c) (h : l.length < 4398046511104) :
    Calls Try.prog 25 #[.agg #[.int .i64 next, .slice A l.length c], .int .i64 id] w (ResPost (sRelease next l id) w) := by
  have hu29 := Try.underlying29
  have hu38 := Try.underlying38
  have HR := Aside0.mk hr
  have HC := Aside0.mk hc
  have HL := Aside0.mk h
  have HB := Aside0.mk (Below.refl w.heap.size w)
  clear hr hc h
  go_enter Try.func25, Try.ntmps25
  go_wp2_with fail
  have K1 := Aside0.mk (blk_alloc (blk_new w (.cells #[.int .i64 next, .slice A l.length c] 29)) (.cells #[.bool false, .int .i64 0, .int .i64 0, .slice none 0 0] 38))
  have K2 := Aside0.mk (dblk_new2 w (.cells #[.int .i64 next, .slice A l.length c] 29) (.cells #[.bool false, .int .i64 0, .int .i64 0, .slice none 0 0] 38))
  have HRA := Aside0.mk (Kd.C_alloc (Kd.C_alloc HR.out (.cells #[.int .i64 next, .slice A l.length c] 29)) (.cells #[.bool false, .int .i64 0, .int .i64 0, .slice none 0 0] 38))
  have HBA := Aside0.mk (below_alloc (below_alloc HB.out (.cells #[.int .i64 next, .slice A l.length c] 29)) (.cells #[.bool false, .int .i64 0, .int .i64 0, .slice none 0 0] 38))
  refine (book_calls next A c l _ HRA.out HC.out).mono ?_
  generalize (w.alloc (.cells #[.int .i64 next, .slice A l.length c] 29)).alloc (.cells #[.bool false, .int .i64 0, .int .i64 0, .slice none 0 0] 38) = w1 at *
  rintro e w2 ⟨hb, hcase⟩
  have K1b := Aside0.mk (blk_below K1.out hb)
  have K2b := Aside0.mk (blk_below K2.out hb)
  have HRb := Aside0.mk (Kd.C_below HRA.out hb)
  have HS1 := Aside0.mk (show w.heap.size + 1 < w1.heap.size from blk_lt K2.out)
  have HBb := Aside0.mk (below_then HBA.out (by have := HS1.out; omega) hb)
  have x0 : w2.cell? ⟨w.heap.size, 0, none⟩ = some (.int .i64 next) := (blk_cell K1b.out 0).trans rfl
  have x1 : w2.cell? ⟨w.heap.size, 1, none⟩ = some (.slice A l.length c) := (blk_cell K1b.out 1).trans rfl
  rcases hcase with ⟨hv, rfl⟩ | ⟨hv, bk, m1, m2, E, rfl, hE, hbk⟩
  · have HV := Aside0.mk (sRelease_no (id := id) (Or.inl hv))
    clear hv hb
    go_wp2_with fail
    refine (dclone_any next A c l _ HRb.out HC.out HL.out).mono ?_
    rintro e w5 ⟨A', c', rfl, hR, hB⟩
    have K5 := Aside0.mk (blk_below K2b.out hB)
    have hle : w.heap.size ≤ w2.heap.size := by have := blk_lt K2b.out; omega
    have HR5 := Aside0.mk (Kd.R_lower hR hle)
    have HB5 := Aside0.mk (below_then HBb.out hle hB)
    clear hR hB hle x0 x1
    obtain ⟨z0, z1, z2, z3, y0, y1, y2, y3⟩ := dblk_cells4 K5.out
    have yl := blk_lt K5.out
    go_wp2_with fail
    refine bodyPost_ret (results_cell_row rfl _ _ (w.heap.size + 1) 38 #[.bool false, .int .i64 0, .int .i64 next, .slice A' l.length c'] (0, 0) _ rfl (dblk_set4 K5.out) Try.underlying38 rfl (by kernel_rfl)) rfl ?_
    rw [HV.out]
    exact ⟨_, rfl, res_row HR5.out K5.out, res_below HB5.out (by omega) _ _ _ _⟩
  · have HBK := Aside0.mk hbk
    have HE := Aside0.mk hE
    have HVT := Aside0.mk hv
    clear hb hE hv hbk
    go_wp2_with fail
    refine (release_any HBK.out HE.out HVT.out id).mono ?_
    rintro e w3 hpost
    rcases hpost with ⟨hn, rfl, hw⟩ | ⟨l', E', hi, rfl, hE', hbk', hB3⟩
    · subst hw
      have HV := Aside0.mk (sRelease_no (next := next) (Or.inr hn))
      clear hn
      go_wp2_with fail
      refine (dclone_any next A c l _ HRb.out HC.out HL.out).mono ?_
      rintro e w5 ⟨A', c', rfl, hR, hB⟩
      have K5 := Aside0.mk (blk_below K2b.out hB)
      have hle : w.heap.size ≤ w3.heap.size := by have := blk_lt K2b.out; omega
      have HR5 := Aside0.mk (Kd.R_lower hR hle)
      have HB5 := Aside0.mk (below_then HBb.out hle hB)
      clear hR hB hle x0 x1
      obtain ⟨z0, z1, z2, z3, y0, y1, y2, y3⟩ := dblk_cells4 K5.out
      have yl := blk_lt K5.out
      go_wp2_with fail
      refine bodyPost_ret (results_cell_row rfl _ _ (w.heap.size + 1) 38 #[.bool false, .int .i64 0, .int .i64 next, .slice A' l.length c'] (0, 0) _ rfl (dblk_set4 K5.out) Try.underlying38 rfl (by kernel_rfl)) rfl ?_
      rw [HV.out]
      exact ⟨_, rfl, res_row HR5.out K5.out, res_below HB5.out (by omega) _ _ _ _⟩
    · have HV := Aside0.mk (sRelease_yes HVT.out hi)
      have HLP := Aside0.mk (rRes_asc HVT.out hi)
      have hF := rRes_facts HVT.out hi
      have HF := Aside0.mk (show (E'.map (fun p => kS p.2)).Nodup ∧ E'.length ≤ 1200 from ⟨by have := hF.1; rw [← hE', List.map_map] at this; exact this, by have := hF.2; rw [← hE', List.length_map] at this; exact this⟩)
      have HE3 := Aside0.mk hE'
      have HBK3 := Aside0.mk hbk'
      have K2c := Aside0.mk ((hB3.block _ HS1.out).trans K2b.out)
      have HBc := Aside0.mk (HBb.out.trans ⟨hB3.os, hB3.tape, hB3.output, hB3.size, fun i hi => hB3.block i (by have := HS1.out; omega)⟩)
      clear hF hE' hbk' hB3 hi x0 x1
      go_wp2_with fail
      refine (dict_any HBK3.out HF.out.1 HF.out.2).mono ?_
      rintro e w5 ⟨A', c', ys, rfl, hp, ha, hR, hB⟩
      rw [HE3.out] at hp
      obtain rfl : ys = l' := asc_unique hp ha HLP.out
      have K5 := Aside0.mk (blk_below K2c.out hB)
      have hle : w.heap.size ≤ w3.heap.size := by have := blk_lt K2c.out; omega
      have HR5 := Aside0.mk (Kd.R_lower hR hle)
      have HB5 := Aside0.mk (below_then HBc.out hle hB)
      clear hR hB hle hp ha
      obtain ⟨z0, z1, z2, z3, y0, y1, y2, y3⟩ := dblk_cells4 K5.out
      have yl := blk_lt K5.out
      go_wp2_with fail
      refine bodyPost_ret (results_cell_row rfl _ _ (w.heap.size + 1) 38 #[.bool true, .int .i64 id, .int .i64 next, .slice A' ys.length c'] (0, 0) _ rfl (dblk_set4 K5.out) Try.underlying38 rfl (by kernel_rfl)) rfl ?_
      rw [HV.out]
      exact ⟨_, rfl, res_row HR5.out K5.out, res_below HB5.out (by omega) _ _ _ _⟩

/-! ### impl_Release: function 25, proved by hand -/
theorem impl_Release.calls (k : Nat) (a0_0 : Int) (A0_1 : Option Addr) (c0_1 : Nat) (l0_1 : List (S51)) (a1 : Int) (r1 : Bool) (r2 : Int) (r3 : Int) (r4 : List (S51)) (w : World) (hr0_1 : Kd.C k51 w A0_1 l0_1.length l0_1) (hc0_1 : l0_1.length ≤ c0_1) (h : spec_Release.f k a0_0 l0_1 a1 = some (r1, r2, r3, r4)) :
    Calls Try.prog 25 #[.agg #[.int .i64 a0_0, .slice A0_1 l0_1.length c0_1], .int .i64 a1] w fun e w' => ∃ v3_ : Value, e = .returned (.agg #[.bool r1, .int .i64 r2, .int .i64 r3, v3_]) ∧ Kd.R k51 51 w' w.heap.size (fun _ => True) v3_ r4 ∧ Below w.heap.size w w' := by
  obtain ⟨hL, hr⟩ := specRelease_h h
  refine (releaseI_any a0_0 A0_1 c0_1 l0_1 a1 w hr0_1 hc0_1 hL).mono ?_
  rintro e w' ⟨v, he, hR, hB⟩
  rw [← hr] at he hR
  exact ⟨v, he, hR, hB⟩

/-! ### impl_ValidDict: function 12, proved by hand -/
set_option maxHeartbeats 4000000 in
set_option maxRecDepth 100000 in
theorem impl_ValidDict.calls (k : Nat) (a0_0 : Int) (A0_1 : Option Addr) (c0_1 : Nat) (l0_1 : List (S51)) (r : Bool) (w : World) (hr0_1 : Kd.C k51 w A0_1 l0_1.length l0_1) (hc0_1 : l0_1.length ≤ c0_1) (h : spec_ValidDict.f k a0_0 l0_1 = some r) :
    Calls Try.prog 12 #[.agg #[.int .i64 a0_0, .slice A0_1 l0_1.length c0_1]] w fun e w' => e = .returned (.bool r) ∧ Below w.heap.size w w' := by
  obtain rfl := ev_eq (spec_ValidDict.mono _ _) (specValid_ev a0_0 l0_1) h
  clear h
  have HR := Aside0.mk hr0_1
  have HC := Aside0.mk hc0_1
  clear hr0_1 hc0_1
  have hu29 := Try.underlying29
  have HB := Aside0.mk (Below.refl w.heap.size w)
  go_enter Try.func12, Try.ntmps12
  go_wp2_with fail
  refine (book_calls a0_0 _ _ l0_1 _ (Kd.C_alloc HR.out _) HC.out).mono ?_
  rintro e w1 ⟨hb, ⟨hv, rfl⟩ | ⟨hv, bk, m1, m2, E, rfl, hE, hbk⟩⟩
  · have HV := Aside0.mk hv
    have HB1 := Aside0.mk (below_step (below_alloc HB.out _) hb)
    clear hv hb
    go_wp2_with fail
    go_ret
    exact ⟨by rw [HV.out]; rfl, HB1.out⟩
  · have HV := Aside0.mk hv
    have HB1 := Aside0.mk (below_step (below_alloc HB.out _) hb)
    clear hv hb hE hbk
    go_wp2_with fail
    go_ret
    exact ⟨by rw [HV.out]; rfl, HB1.out⟩

/-! ### spec_TermText: function 14 -/
def spec_TermText.f (k : Nat) (a0_0 : Int) (l0_1 : List (S51)) (a1 : Int) : Option (ByteArray) := (spec_l4ById.f k a0_0 l0_1 a1).bind fun t528 => (if t528 < 0 then (some (⟨#[]⟩ : ByteArray)) else ((spec_ValidDict.f k a0_0 l0_1).bind fun t529 => (if t529 = true then (if 0 ≤ t528 then (if t528 < (l0_1.length : Int) then (some ((rd_T51 l0_1 t528).f1)) else (none)) else (none)) else (some (⟨#[]⟩ : ByteArray)))))
theorem spec_TermText.mono : ∀ a0 a1 a2 k, LeO (spec_TermText.f k a0 a1 a2) (spec_TermText.f (k + 1) a0 a1 a2) := by
  intro a0 a1 a2 k
  unfold spec_TermText.f
  repeat' first
      | (with_reducible exact spec_ValidDict.mono _ _ _)
      | (with_reducible exact spec_l4ById.mono _ _ _ _)
      | (with_reducible exact LeO.refl _)
      | (with_reducible exact LeO.none _)
      | (with_reducible refine LeO.ite ?_ ?_)
      | (with_reducible refine LeO.bind ?_ (fun _ => ?_))
      | exact spec_ValidDict.mono _ _ _
      | exact spec_l4ById.mono _ _ _ _
      | exact LeO.none _
      | refine LeO.ite ?_ ?_
      | refine LeO.bind ?_ (fun _ => ?_)
set_option maxHeartbeats 8000000 in
set_option maxRecDepth 100000 in
theorem spec_TermText.calls (k : Nat) (a0_0 : Int) (A0_1 : Option Addr) (c0_1 : Nat) (l0_1 : List (S51)) (a1 : Int) (r : ByteArray) (w : World) (hr0_1 : Kd.C k51 w A0_1 l0_1.length l0_1) (hc0_1 : l0_1.length ≤ c0_1) (h : spec_TermText.f k a0_0 l0_1 a1 = some r) :
    Calls Try.prog 14 #[.agg #[.int .i64 a0_0, .slice A0_1 l0_1.length c0_1], .int .i64 a1] w fun e w' => e = .returned (.string r) ∧ Below w.heap.size w w' := by
  have hu29 := Try.underlying29
  have HR0_1 := Aside0.mk hr0_1
  have HC0_1 := Aside0.mk hc0_1
  clear hr0_1 hc0_1
  have HB := Aside0.mk (Below.refl w.heap.size w)
  have H : ((spec_l4ById.f k a0_0 l0_1 a1).bind fun t528 => (if t528 < 0 then (some (⟨#[]⟩ : ByteArray)) else ((spec_ValidDict.f k a0_0 l0_1).bind fun t529 => (if t529 = true then (if 0 ≤ t528 then (if t528 < (l0_1.length : Int) then (some ((rd_T51 l0_1 t528).f1)) else (none)) else (none)) else (some (⟨#[]⟩ : ByteArray)))))) = some r := h
  clear h
  replace H := Option.bind_eq_some_iff.mp H
  obtain ⟨t528, A30, H⟩ := H
  replace H : (if t528 < 0 then (some (⟨#[]⟩ : ByteArray)) else ((spec_ValidDict.f k a0_0 l0_1).bind fun t529 => (if t529 = true then (if 0 ≤ t528 then (if t528 < (l0_1.length : Int) then (some ((rd_T51 l0_1 t528).f1)) else (none)) else (none)) else (some (⟨#[]⟩ : ByteArray))))) = some r := H
  have A3 := Aside0.mk A30
  clear A30
  by_cases c4 : t528 < 0
  · rw [if_pos c4] at H
    have c4b0 : decide (t528 < 0) = true := decide_eq_true c4
    clear c4
    obtain rfl := Option.some.inj H
    go_enter Try.func14, Try.ntmps14
    go_wp2_with (first | ((with_reducible refine gate_dst (N := 2) rfl ?_); refine box_event ?hg (N := 2) ?hd (cs := #[.int .i64 a0_0, .slice A0_1 l0_1.length c0_1]) (t := 29) ?hr ?_; (case hd => rfl); (case hg => rfl); (case hr => first | (go_simp; done) | (go_simp; rfl)); intro gb527 hg w5 hbox hb; have n0_ := Aside0.mk (below_step (by repeat (first | (with_reducible first | exact HB.out | apply below_alloc | apply pw_below_drewN | apply below_drew1) | exact HB.out)) hb); have n1_ := Aside0.mk (hbox); have n2_ := Aside0.mk ((by rw [hg]; exact (below_size (by repeat (first | (with_reducible first | exact HB.out | apply below_alloc | apply pw_below_drewN | apply below_drew1) | exact HB.out))) : w.heap.size ≤ gb527)); have n3_ := Aside0.mk ((by rw [hg]; exact (below_size (by repeat (first | (with_reducible first | exact HB.out | apply below_alloc | apply pw_below_drewN | apply below_drew1) | exact HB.out))) : w.heap.size ≤ gb527)); clear HB; have HB := n0_; have BK527 := n1_; have GW527 := n2_; have GE527 := n3_; clear n0_ n1_ n2_ n3_; clear hb hbox hg; have hcz6_0 : w5.cell? ⟨gb527, 0, none⟩ = some (.int .i64 a0_0) := (blk_cell BK527.out 0).trans rfl; have hcz6_1 : w5.cell? ⟨gb527, 1, none⟩ = some (.slice A0_1 l0_1.length c0_1) := (blk_cell BK527.out 1).trans rfl; have hfz6_0 := blk_frozen BK527.out 0; have hfz6_1 := blk_frozen BK527.out 1) | ((with_reducible refine gate_callee (f := 35) rfl ?_); refine goesL_ (some 8) rfl rfl Try.func35 (by kernel_rfl) rfl #[.agg #[.int .i64 a0_0, .slice A0_1 l0_1.length c0_1], .int .i64 a1] rfl (by (try simp only [List.map_toArray, List.map_cons, List.map_nil]); first | done | rfl | (simp only [List.length_drop, List.length_take]; rfl)) ?_; (with_reducible refine (spec_l4ById.calls k a0_0 _ _ l0_1 a1 t528 _ ?side1 ?side2 A3.out).mono ?_); (case side1 => repeat (first | exact (Kd.C_below HR0_1.out HB.out) | (with_reducible refine Kd.C_alloc ?_ _) | (with_reducible refine Kd.C_drewN ?_ _) | (with_reducible refine Kd.C_drew ?_))); (case side2 => exact HC0_1.out); rintro e w7 ⟨rfl, hb⟩; refine ⟨_, rfl, ?_⟩; have n0_ := Aside0.mk (blk_below (g := gb527) (o := .cells #[.int .i64 a0_0, .slice A0_1 l0_1.length c0_1] 29 (0, 0)) (by (with_reducible repeat (first | refine blk_drewN ?_ _ | refine blk_drew ?_ | refine blk_alloc ?_ _)); exact BK527.out) hb); have n1_ := Aside0.mk (below_step (by repeat (first | (with_reducible first | exact HB.out | apply below_alloc | apply pw_below_drewN | apply below_drew1 | refine below_set ?_ GE527.out) | exact HB.out)) hb); clear BK527; clear HB; have BK527 := n0_; have HB := n1_; clear n0_ n1_; (try clear hb); (try clear hb2); (try clear hk); (try clear hi)))
    go_ret
    exact ⟨by first | rfl | (simp [errW_none, errW_some] <;> rfl) | (simp [*, errW_none, errW_some] <;> rfl), by repeat (first | (with_reducible first | exact HB.out | apply below_alloc | apply pw_below_drewN | apply below_drew1 | refine below_set ?_ GE527.out) | exact HB.out)⟩
  · rw [if_neg c4] at H
    have c4b0 : decide (t528 < 0) = false := decide_eq_false c4
    clear c4
    replace H := Option.bind_eq_some_iff.mp H
    obtain ⟨t529, A80, H⟩ := H
    replace H : (if t529 = true then (if 0 ≤ t528 then (if t528 < (l0_1.length : Int) then (some ((rd_T51 l0_1 t528).f1)) else (none)) else (none)) else (some (⟨#[]⟩ : ByteArray))) = some r := H
    have A8 := Aside0.mk A80
    clear A80
    by_cases c9 : t529 = true
    · subst c9
      have H1 : (if 0 ≤ t528 then (if t528 < (l0_1.length : Int) then (some ((rd_T51 l0_1 t528).f1)) else (none)) else (none)) = some r := by rw [if_pos rfl] at H; exact H
      clear H
      have H := H1
      clear H1
      by_cases c10 : 0 ≤ t528
      · rw [if_pos c10] at H
        have c10b0 : decide (0 ≤ t528) = true := decide_eq_true c10
        clear c10
        by_cases c11 : t528 < (l0_1.length : Int)
        · rw [if_pos c11] at H
          have c11b0 : decide (t528 < (l0_1.length : Int)) = true := decide_eq_true c11
          clear c11
          obtain rfl := Option.some.inj H
          go_enter Try.func14, Try.ntmps14
          go_wp2_with (first | ((with_reducible refine gate_dst (N := 2) rfl ?_); refine box_event ?hg (N := 2) ?hd (cs := #[.int .i64 a0_0, .slice A0_1 l0_1.length c0_1]) (t := 29) ?hr ?_; (case hd => rfl); (case hg => rfl); (case hr => first | (go_simp; done) | (go_simp; rfl)); intro gb527 hg w12 hbox hb; have n0_ := Aside0.mk (below_step (by repeat (first | (with_reducible first | exact HB.out | apply below_alloc | apply pw_below_drewN | apply below_drew1) | exact HB.out)) hb); have n1_ := Aside0.mk (hbox); have n2_ := Aside0.mk ((by rw [hg]; exact (below_size (by repeat (first | (with_reducible first | exact HB.out | apply below_alloc | apply pw_below_drewN | apply below_drew1) | exact HB.out))) : w.heap.size ≤ gb527)); have n3_ := Aside0.mk ((by rw [hg]; exact (below_size (by repeat (first | (with_reducible first | exact HB.out | apply below_alloc | apply pw_below_drewN | apply below_drew1) | exact HB.out))) : w.heap.size ≤ gb527)); clear HB; have HB := n0_; have BK527 := n1_; have GW527 := n2_; have GE527 := n3_; clear n0_ n1_ n2_ n3_; clear hb hbox hg; have hcz13_0 : w12.cell? ⟨gb527, 0, none⟩ = some (.int .i64 a0_0) := (blk_cell BK527.out 0).trans rfl; have hcz13_1 : w12.cell? ⟨gb527, 1, none⟩ = some (.slice A0_1 l0_1.length c0_1) := (blk_cell BK527.out 1).trans rfl; have hfz13_0 := blk_frozen BK527.out 0; have hfz13_1 := blk_frozen BK527.out 1) | ((with_reducible refine gate_callee (f := 35) rfl ?_); refine goesL_ (some 8) rfl rfl Try.func35 (by kernel_rfl) rfl #[.agg #[.int .i64 a0_0, .slice A0_1 l0_1.length c0_1], .int .i64 a1] rfl (by (try simp only [List.map_toArray, List.map_cons, List.map_nil]); first | done | rfl | (simp only [List.length_drop, List.length_take]; rfl)) ?_; (with_reducible refine (spec_l4ById.calls k a0_0 _ _ l0_1 a1 t528 _ ?side1 ?side2 A3.out).mono ?_); (case side1 => repeat (first | exact (Kd.C_below HR0_1.out HB.out) | (with_reducible refine Kd.C_alloc ?_ _) | (with_reducible refine Kd.C_drewN ?_ _) | (with_reducible refine Kd.C_drew ?_))); (case side2 => exact HC0_1.out); rintro e w14 ⟨rfl, hb⟩; refine ⟨_, rfl, ?_⟩; have n0_ := Aside0.mk (blk_below (g := gb527) (o := .cells #[.int .i64 a0_0, .slice A0_1 l0_1.length c0_1] 29 (0, 0)) (by (with_reducible repeat (first | refine blk_drewN ?_ _ | refine blk_drew ?_ | refine blk_alloc ?_ _)); exact BK527.out) hb); have n1_ := Aside0.mk (below_step (by repeat (first | (with_reducible first | exact HB.out | apply below_alloc | apply pw_below_drewN | apply below_drew1 | refine below_set ?_ GE527.out) | exact HB.out)) hb); clear BK527; clear HB; have BK527 := n0_; have HB := n1_; clear n0_ n1_; (try clear hb); (try clear hb2); (try clear hk); (try clear hi); have hcz15_0 : w14.cell? ⟨gb527, 0, none⟩ = some (.int .i64 a0_0) := (blk_cell BK527.out 0).trans rfl; have hcz15_1 : w14.cell? ⟨gb527, 1, none⟩ = some (.slice A0_1 l0_1.length c0_1) := (blk_cell BK527.out 1).trans rfl; have hfz15_0 := blk_frozen BK527.out 0; have hfz15_1 := blk_frozen BK527.out 1) | (go_at_call 10; (with_reducible refine (spec_ValidDict.calls k a0_0 _ _ l0_1 true _ ?side1 ?side2 A8.out).mono ?_); (case side1 => repeat (first | exact (Kd.C_below HR0_1.out HB.out) | (with_reducible refine Kd.C_alloc ?_ _) | (with_reducible refine Kd.C_drewN ?_ _) | (with_reducible refine Kd.C_drew ?_))); (case side2 => exact HC0_1.out); rintro e w16 ⟨rfl, hb⟩; have n0_ := Aside0.mk (blk_below (g := gb527) (o := .cells #[.int .i64 a0_0, .slice A0_1 l0_1.length c0_1] 29 (0, 0)) (by (with_reducible repeat (first | refine blk_drewN ?_ _ | refine blk_drew ?_ | refine blk_alloc ?_ _)); exact BK527.out) hb); have n1_ := Aside0.mk (below_step (by repeat (first | (with_reducible first | exact HB.out | apply below_alloc | apply pw_below_drewN | apply below_drew1 | refine below_set ?_ GE527.out) | exact HB.out)) hb); clear BK527; clear HB; have BK527 := n0_; have HB := n1_; clear n0_ n1_; (try clear hb); (try clear hb2); (try clear hk); (try clear hi); have hcz17_0 : w16.cell? ⟨gb527, 0, none⟩ = some (.int .i64 a0_0) := (blk_cell BK527.out 0).trans rfl; have hcz17_1 : w16.cell? ⟨gb527, 1, none⟩ = some (.slice A0_1 l0_1.length c0_1) := (blk_cell BK527.out 1).trans rfl; have hfz17_0 := blk_frozen BK527.out 0; have hfz17_1 := blk_frozen BK527.out 1; have p530 : 0 ≤ (t528 : Int) := of_decide_eq_true (by first | (with_reducible assumption) | assumption); have q530 : t528 < (l0_1.length : Int) := of_decide_eq_true (by first | (with_reducible assumption) | assumption); obtain ⟨ad530, e530, hx530_0, hx530_1, hx530_2⟩ := at_T51 HR0_1.out t528 p530 q530; cases e530; replace hx530_0 := (HB.out.cell (World.block_lt_of_cell? w _ hx530_0)).trans hx530_0; replace hx530_1 := (HB.out.cell (World.block_lt_of_cell? w _ hx530_1)).trans hx530_1; replace hx530_2 := (HB.out.cell (World.block_lt_of_cell? w _ hx530_2)).trans hx530_2; replace p530 := eq_true p530; replace q530 := eq_true q530))
          go_ret
          exact ⟨by first | rfl | (simp [errW_none, errW_some] <;> rfl) | (simp [*, errW_none, errW_some] <;> rfl), by repeat (first | (with_reducible first | exact HB.out | apply below_alloc | apply pw_below_drewN | apply below_drew1 | refine below_set ?_ GE527.out) | exact HB.out)⟩
        · rw [if_neg c11] at H
          exact absurd H (by simp)
      · rw [if_neg c10] at H
        exact absurd H (by simp)
    · replace c9 := Bool.eq_false_iff.mpr c9
      subst c9
      have H1 : (some (⟨#[]⟩ : ByteArray)) = some r := by rw [if_neg (show ¬ (false = true) by decide)] at H; exact H
      clear H
      have H := H1
      clear H1
      obtain rfl := Option.some.inj H
      go_enter Try.func14, Try.ntmps14
      go_wp2_with (first | ((with_reducible refine gate_dst (N := 2) rfl ?_); refine box_event ?hg (N := 2) ?hd (cs := #[.int .i64 a0_0, .slice A0_1 l0_1.length c0_1]) (t := 29) ?hr ?_; (case hd => rfl); (case hg => rfl); (case hr => first | (go_simp; done) | (go_simp; rfl)); intro gb527 hg w18 hbox hb; have n0_ := Aside0.mk (below_step (by repeat (first | (with_reducible first | exact HB.out | apply below_alloc | apply pw_below_drewN | apply below_drew1) | exact HB.out)) hb); have n1_ := Aside0.mk (hbox); have n2_ := Aside0.mk ((by rw [hg]; exact (below_size (by repeat (first | (with_reducible first | exact HB.out | apply below_alloc | apply pw_below_drewN | apply below_drew1) | exact HB.out))) : w.heap.size ≤ gb527)); have n3_ := Aside0.mk ((by rw [hg]; exact (below_size (by repeat (first | (with_reducible first | exact HB.out | apply below_alloc | apply pw_below_drewN | apply below_drew1) | exact HB.out))) : w.heap.size ≤ gb527)); clear HB; have HB := n0_; have BK527 := n1_; have GW527 := n2_; have GE527 := n3_; clear n0_ n1_ n2_ n3_; clear hb hbox hg; have hcz19_0 : w18.cell? ⟨gb527, 0, none⟩ = some (.int .i64 a0_0) := (blk_cell BK527.out 0).trans rfl; have hcz19_1 : w18.cell? ⟨gb527, 1, none⟩ = some (.slice A0_1 l0_1.length c0_1) := (blk_cell BK527.out 1).trans rfl; have hfz19_0 := blk_frozen BK527.out 0; have hfz19_1 := blk_frozen BK527.out 1) | ((with_reducible refine gate_callee (f := 35) rfl ?_); refine goesL_ (some 8) rfl rfl Try.func35 (by kernel_rfl) rfl #[.agg #[.int .i64 a0_0, .slice A0_1 l0_1.length c0_1], .int .i64 a1] rfl (by (try simp only [List.map_toArray, List.map_cons, List.map_nil]); first | done | rfl | (simp only [List.length_drop, List.length_take]; rfl)) ?_; (with_reducible refine (spec_l4ById.calls k a0_0 _ _ l0_1 a1 t528 _ ?side1 ?side2 A3.out).mono ?_); (case side1 => repeat (first | exact (Kd.C_below HR0_1.out HB.out) | (with_reducible refine Kd.C_alloc ?_ _) | (with_reducible refine Kd.C_drewN ?_ _) | (with_reducible refine Kd.C_drew ?_))); (case side2 => exact HC0_1.out); rintro e w20 ⟨rfl, hb⟩; refine ⟨_, rfl, ?_⟩; have n0_ := Aside0.mk (blk_below (g := gb527) (o := .cells #[.int .i64 a0_0, .slice A0_1 l0_1.length c0_1] 29 (0, 0)) (by (with_reducible repeat (first | refine blk_drewN ?_ _ | refine blk_drew ?_ | refine blk_alloc ?_ _)); exact BK527.out) hb); have n1_ := Aside0.mk (below_step (by repeat (first | (with_reducible first | exact HB.out | apply below_alloc | apply pw_below_drewN | apply below_drew1 | refine below_set ?_ GE527.out) | exact HB.out)) hb); clear BK527; clear HB; have BK527 := n0_; have HB := n1_; clear n0_ n1_; (try clear hb); (try clear hb2); (try clear hk); (try clear hi); have hcz21_0 : w20.cell? ⟨gb527, 0, none⟩ = some (.int .i64 a0_0) := (blk_cell BK527.out 0).trans rfl; have hcz21_1 : w20.cell? ⟨gb527, 1, none⟩ = some (.slice A0_1 l0_1.length c0_1) := (blk_cell BK527.out 1).trans rfl; have hfz21_0 := blk_frozen BK527.out 0; have hfz21_1 := blk_frozen BK527.out 1) | (go_at_call 10; (with_reducible refine (spec_ValidDict.calls k a0_0 _ _ l0_1 false _ ?side1 ?side2 A8.out).mono ?_); (case side1 => repeat (first | exact (Kd.C_below HR0_1.out HB.out) | (with_reducible refine Kd.C_alloc ?_ _) | (with_reducible refine Kd.C_drewN ?_ _) | (with_reducible refine Kd.C_drew ?_))); (case side2 => exact HC0_1.out); rintro e w22 ⟨rfl, hb⟩; have n0_ := Aside0.mk (blk_below (g := gb527) (o := .cells #[.int .i64 a0_0, .slice A0_1 l0_1.length c0_1] 29 (0, 0)) (by (with_reducible repeat (first | refine blk_drewN ?_ _ | refine blk_drew ?_ | refine blk_alloc ?_ _)); exact BK527.out) hb); have n1_ := Aside0.mk (below_step (by repeat (first | (with_reducible first | exact HB.out | apply below_alloc | apply pw_below_drewN | apply below_drew1 | refine below_set ?_ GE527.out) | exact HB.out)) hb); clear BK527; clear HB; have BK527 := n0_; have HB := n1_; clear n0_ n1_; (try clear hb); (try clear hb2); (try clear hk); (try clear hi)))
      go_ret
      exact ⟨by first | rfl | (simp [errW_none, errW_some] <;> rfl) | (simp [*, errW_none, errW_some] <;> rfl), by repeat (first | (with_reducible first | exact HB.out | apply below_alloc | apply pw_below_drewN | apply below_drew1 | refine below_set ?_ GE527.out) | exact HB.out)⟩

section
attribute [local go_sem high] eqA51

/-! ### spec_TermId: function 16 -/
def spec_TermId.f (k : Nat) (a0_0 : Int) (l0_1 : List (S51)) (a1 : ByteArray) : Option (Int) := (spec_l4ByText.f k a0_0 l0_1 a1).bind fun t458 => (if t458 < 0 then (some 0) else ((spec_ValidDict.f k a0_0 l0_1).bind fun t459 => (if t459 = true then (if 0 ≤ t458 then (if t458 < (l0_1.length : Int) then (some ((rd_T51 l0_1 t458).f0)) else (none)) else (none)) else (some 0))))
theorem spec_TermId.mono : ∀ a0 a1 a2 k, LeO (spec_TermId.f k a0 a1 a2) (spec_TermId.f (k + 1) a0 a1 a2) := by
  intro a0 a1 a2 k
  unfold spec_TermId.f
  repeat' first
      | (with_reducible exact spec_ValidDict.mono _ _ _)
      | (with_reducible exact spec_l4ByText.mono _ _ _ _)
      | (with_reducible exact LeO.refl _)
      | (with_reducible exact LeO.none _)
      | (with_reducible refine LeO.ite ?_ ?_)
      | (with_reducible refine LeO.bind ?_ (fun _ => ?_))
      | exact spec_ValidDict.mono _ _ _
      | exact spec_l4ByText.mono _ _ _ _
      | exact LeO.none _
      | refine LeO.ite ?_ ?_
      | refine LeO.bind ?_ (fun _ => ?_)
set_option maxHeartbeats 8000000 in
set_option maxRecDepth 100000 in
theorem spec_TermId.calls (k : Nat) (a0_0 : Int) (A0_1 : Option Addr) (c0_1 : Nat) (l0_1 : List (S51)) (a1 : ByteArray) (r : Int) (w : World) (hr0_1 : Kd.C k51 w A0_1 l0_1.length l0_1) (hc0_1 : l0_1.length ≤ c0_1) (h : spec_TermId.f k a0_0 l0_1 a1 = some r) :
    Calls Try.prog 16 #[.agg #[.int .i64 a0_0, .slice A0_1 l0_1.length c0_1], .string a1] w fun e w' => e = .returned (.int .i64 r) ∧ Below w.heap.size w w' := by
  have hu29 := Try.underlying29
  have HR0_1 := Aside0.mk hr0_1
  have HC0_1 := Aside0.mk hc0_1
  clear hr0_1 hc0_1
  have HB := Aside0.mk (Below.refl w.heap.size w)
  have H : ((spec_l4ByText.f k a0_0 l0_1 a1).bind fun t458 => (if t458 < 0 then (some 0) else ((spec_ValidDict.f k a0_0 l0_1).bind fun t459 => (if t459 = true then (if 0 ≤ t458 then (if t458 < (l0_1.length : Int) then (some ((rd_T51 l0_1 t458).f0)) else (none)) else (none)) else (some 0))))) = some r := h
  clear h
  replace H := Option.bind_eq_some_iff.mp H
  obtain ⟨t458, A30, H⟩ := H
  replace H : (if t458 < 0 then (some 0) else ((spec_ValidDict.f k a0_0 l0_1).bind fun t459 => (if t459 = true then (if 0 ≤ t458 then (if t458 < (l0_1.length : Int) then (some ((rd_T51 l0_1 t458).f0)) else (none)) else (none)) else (some 0)))) = some r := H
  have A3 := Aside0.mk A30
  clear A30
  by_cases c4 : t458 < 0
  · rw [if_pos c4] at H
    have c4b0 : decide (t458 < 0) = true := decide_eq_true c4
    clear c4
    obtain rfl := Option.some.inj H
    go_enter Try.func16, Try.ntmps16
    go_wp2_with (first | ((with_reducible refine gate_dst (N := 2) rfl ?_); refine box_event ?hg (N := 2) ?hd (cs := #[.int .i64 a0_0, .slice A0_1 l0_1.length c0_1]) (t := 29) ?hr ?_; (case hd => rfl); (case hg => rfl); (case hr => first | (go_simp; done) | (go_simp; rfl)); intro gb457 hg w5 hbox hb; have n0_ := Aside0.mk (below_step (by repeat (first | (with_reducible first | exact HB.out | apply below_alloc | apply pw_below_drewN | apply below_drew1) | exact HB.out)) hb); have n1_ := Aside0.mk (hbox); have n2_ := Aside0.mk ((by rw [hg]; exact (below_size (by repeat (first | (with_reducible first | exact HB.out | apply below_alloc | apply pw_below_drewN | apply below_drew1) | exact HB.out))) : w.heap.size ≤ gb457)); have n3_ := Aside0.mk ((by rw [hg]; exact (below_size (by repeat (first | (with_reducible first | exact HB.out | apply below_alloc | apply pw_below_drewN | apply below_drew1) | exact HB.out))) : w.heap.size ≤ gb457)); clear HB; have HB := n0_; have BK457 := n1_; have GW457 := n2_; have GE457 := n3_; clear n0_ n1_ n2_ n3_; clear hb hbox hg; have hcz6_0 : w5.cell? ⟨gb457, 0, none⟩ = some (.int .i64 a0_0) := (blk_cell BK457.out 0).trans rfl; have hcz6_1 : w5.cell? ⟨gb457, 1, none⟩ = some (.slice A0_1 l0_1.length c0_1) := (blk_cell BK457.out 1).trans rfl; have hfz6_0 := blk_frozen BK457.out 0; have hfz6_1 := blk_frozen BK457.out 1) | ((with_reducible refine gate_callee (f := 36) rfl ?_); refine goesL_ (some 8) rfl rfl Try.func36 (by kernel_rfl) rfl #[.agg #[.int .i64 a0_0, .slice A0_1 l0_1.length c0_1], .string a1] rfl (by (try simp only [List.map_toArray, List.map_cons, List.map_nil]); first | done | rfl | (simp only [List.length_drop, List.length_take]; rfl)) ?_; (with_reducible refine (spec_l4ByText.calls k a0_0 _ _ l0_1 a1 t458 _ ?side1 ?side2 A3.out).mono ?_); (case side1 => repeat (first | exact (Kd.C_below HR0_1.out HB.out) | (with_reducible refine Kd.C_alloc ?_ _) | (with_reducible refine Kd.C_drewN ?_ _) | (with_reducible refine Kd.C_drew ?_))); (case side2 => exact HC0_1.out); rintro e w7 ⟨rfl, hb⟩; refine ⟨_, rfl, ?_⟩; have n0_ := Aside0.mk (blk_below (g := gb457) (o := .cells #[.int .i64 a0_0, .slice A0_1 l0_1.length c0_1] 29 (0, 0)) (by (with_reducible repeat (first | refine blk_drewN ?_ _ | refine blk_drew ?_ | refine blk_alloc ?_ _)); exact BK457.out) hb); have n1_ := Aside0.mk (below_step (by repeat (first | (with_reducible first | exact HB.out | apply below_alloc | apply pw_below_drewN | apply below_drew1 | refine below_set ?_ GE457.out) | exact HB.out)) hb); clear BK457; clear HB; have BK457 := n0_; have HB := n1_; clear n0_ n1_; (try clear hb); (try clear hb2); (try clear hk); (try clear hi)))
    go_ret
    exact ⟨by first | rfl | (simp [errW_none, errW_some] <;> rfl) | (simp [*, errW_none, errW_some] <;> rfl), by repeat (first | (with_reducible first | exact HB.out | apply below_alloc | apply pw_below_drewN | apply below_drew1 | refine below_set ?_ GE457.out) | exact HB.out)⟩
  · rw [if_neg c4] at H
    have c4b0 : decide (t458 < 0) = false := decide_eq_false c4
    clear c4
    replace H := Option.bind_eq_some_iff.mp H
    obtain ⟨t459, A80, H⟩ := H
    replace H : (if t459 = true then (if 0 ≤ t458 then (if t458 < (l0_1.length : Int) then (some ((rd_T51 l0_1 t458).f0)) else (none)) else (none)) else (some 0)) = some r := H
    have A8 := Aside0.mk A80
    clear A80
    by_cases c9 : t459 = true
    · subst c9
      have H1 : (if 0 ≤ t458 then (if t458 < (l0_1.length : Int) then (some ((rd_T51 l0_1 t458).f0)) else (none)) else (none)) = some r := by rw [if_pos rfl] at H; exact H
      clear H
      have H := H1
      clear H1
      by_cases c10 : 0 ≤ t458
      · rw [if_pos c10] at H
        have c10b0 : decide (0 ≤ t458) = true := decide_eq_true c10
        clear c10
        by_cases c11 : t458 < (l0_1.length : Int)
        · rw [if_pos c11] at H
          have c11b0 : decide (t458 < (l0_1.length : Int)) = true := decide_eq_true c11
          clear c11
          obtain rfl := Option.some.inj H
          go_enter Try.func16, Try.ntmps16
          go_wp2_with (first | ((with_reducible refine gate_dst (N := 2) rfl ?_); refine box_event ?hg (N := 2) ?hd (cs := #[.int .i64 a0_0, .slice A0_1 l0_1.length c0_1]) (t := 29) ?hr ?_; (case hd => rfl); (case hg => rfl); (case hr => first | (go_simp; done) | (go_simp; rfl)); intro gb457 hg w12 hbox hb; have n0_ := Aside0.mk (below_step (by repeat (first | (with_reducible first | exact HB.out | apply below_alloc | apply pw_below_drewN | apply below_drew1) | exact HB.out)) hb); have n1_ := Aside0.mk (hbox); have n2_ := Aside0.mk ((by rw [hg]; exact (below_size (by repeat (first | (with_reducible first | exact HB.out | apply below_alloc | apply pw_below_drewN | apply below_drew1) | exact HB.out))) : w.heap.size ≤ gb457)); have n3_ := Aside0.mk ((by rw [hg]; exact (below_size (by repeat (first | (with_reducible first | exact HB.out | apply below_alloc | apply pw_below_drewN | apply below_drew1) | exact HB.out))) : w.heap.size ≤ gb457)); clear HB; have HB := n0_; have BK457 := n1_; have GW457 := n2_; have GE457 := n3_; clear n0_ n1_ n2_ n3_; clear hb hbox hg; have hcz13_0 : w12.cell? ⟨gb457, 0, none⟩ = some (.int .i64 a0_0) := (blk_cell BK457.out 0).trans rfl; have hcz13_1 : w12.cell? ⟨gb457, 1, none⟩ = some (.slice A0_1 l0_1.length c0_1) := (blk_cell BK457.out 1).trans rfl; have hfz13_0 := blk_frozen BK457.out 0; have hfz13_1 := blk_frozen BK457.out 1) | ((with_reducible refine gate_callee (f := 36) rfl ?_); refine goesL_ (some 8) rfl rfl Try.func36 (by kernel_rfl) rfl #[.agg #[.int .i64 a0_0, .slice A0_1 l0_1.length c0_1], .string a1] rfl (by (try simp only [List.map_toArray, List.map_cons, List.map_nil]); first | done | rfl | (simp only [List.length_drop, List.length_take]; rfl)) ?_; (with_reducible refine (spec_l4ByText.calls k a0_0 _ _ l0_1 a1 t458 _ ?side1 ?side2 A3.out).mono ?_); (case side1 => repeat (first | exact (Kd.C_below HR0_1.out HB.out) | (with_reducible refine Kd.C_alloc ?_ _) | (with_reducible refine Kd.C_drewN ?_ _) | (with_reducible refine Kd.C_drew ?_))); (case side2 => exact HC0_1.out); rintro e w14 ⟨rfl, hb⟩; refine ⟨_, rfl, ?_⟩; have n0_ := Aside0.mk (blk_below (g := gb457) (o := .cells #[.int .i64 a0_0, .slice A0_1 l0_1.length c0_1] 29 (0, 0)) (by (with_reducible repeat (first | refine blk_drewN ?_ _ | refine blk_drew ?_ | refine blk_alloc ?_ _)); exact BK457.out) hb); have n1_ := Aside0.mk (below_step (by repeat (first | (with_reducible first | exact HB.out | apply below_alloc | apply pw_below_drewN | apply below_drew1 | refine below_set ?_ GE457.out) | exact HB.out)) hb); clear BK457; clear HB; have BK457 := n0_; have HB := n1_; clear n0_ n1_; (try clear hb); (try clear hb2); (try clear hk); (try clear hi); have hcz15_0 : w14.cell? ⟨gb457, 0, none⟩ = some (.int .i64 a0_0) := (blk_cell BK457.out 0).trans rfl; have hcz15_1 : w14.cell? ⟨gb457, 1, none⟩ = some (.slice A0_1 l0_1.length c0_1) := (blk_cell BK457.out 1).trans rfl; have hfz15_0 := blk_frozen BK457.out 0; have hfz15_1 := blk_frozen BK457.out 1) | (go_at_call 10; (with_reducible refine (spec_ValidDict.calls k a0_0 _ _ l0_1 true _ ?side1 ?side2 A8.out).mono ?_); (case side1 => repeat (first | exact (Kd.C_below HR0_1.out HB.out) | (with_reducible refine Kd.C_alloc ?_ _) | (with_reducible refine Kd.C_drewN ?_ _) | (with_reducible refine Kd.C_drew ?_))); (case side2 => exact HC0_1.out); rintro e w16 ⟨rfl, hb⟩; have n0_ := Aside0.mk (blk_below (g := gb457) (o := .cells #[.int .i64 a0_0, .slice A0_1 l0_1.length c0_1] 29 (0, 0)) (by (with_reducible repeat (first | refine blk_drewN ?_ _ | refine blk_drew ?_ | refine blk_alloc ?_ _)); exact BK457.out) hb); have n1_ := Aside0.mk (below_step (by repeat (first | (with_reducible first | exact HB.out | apply below_alloc | apply pw_below_drewN | apply below_drew1 | refine below_set ?_ GE457.out) | exact HB.out)) hb); clear BK457; clear HB; have BK457 := n0_; have HB := n1_; clear n0_ n1_; (try clear hb); (try clear hb2); (try clear hk); (try clear hi); have hcz17_0 : w16.cell? ⟨gb457, 0, none⟩ = some (.int .i64 a0_0) := (blk_cell BK457.out 0).trans rfl; have hcz17_1 : w16.cell? ⟨gb457, 1, none⟩ = some (.slice A0_1 l0_1.length c0_1) := (blk_cell BK457.out 1).trans rfl; have hfz17_0 := blk_frozen BK457.out 0; have hfz17_1 := blk_frozen BK457.out 1; have p460 : 0 ≤ (t458 : Int) := of_decide_eq_true (by first | (with_reducible assumption) | assumption); have q460 : t458 < (l0_1.length : Int) := of_decide_eq_true (by first | (with_reducible assumption) | assumption); obtain ⟨ad460, e460, hx460_0, hx460_1, hx460_2⟩ := at_T51 HR0_1.out t458 p460 q460; cases e460; replace hx460_0 := (HB.out.cell (World.block_lt_of_cell? w _ hx460_0)).trans hx460_0; replace hx460_1 := (HB.out.cell (World.block_lt_of_cell? w _ hx460_1)).trans hx460_1; replace hx460_2 := (HB.out.cell (World.block_lt_of_cell? w _ hx460_2)).trans hx460_2; replace p460 := eq_true p460; replace q460 := eq_true q460))
          go_ret
          exact ⟨by first | rfl | (simp [errW_none, errW_some] <;> rfl) | (simp [*, errW_none, errW_some] <;> rfl), by repeat (first | (with_reducible first | exact HB.out | apply below_alloc | apply pw_below_drewN | apply below_drew1 | refine below_set ?_ GE457.out) | exact HB.out)⟩
        · rw [if_neg c11] at H
          exact absurd H (by simp)
      · rw [if_neg c10] at H
        exact absurd H (by simp)
    · replace c9 := Bool.eq_false_iff.mpr c9
      subst c9
      have H1 : (some 0) = some r := by rw [if_neg (show ¬ (false = true) by decide)] at H; exact H
      clear H
      have H := H1
      clear H1
      obtain rfl := Option.some.inj H
      go_enter Try.func16, Try.ntmps16
      go_wp2_with (first | ((with_reducible refine gate_dst (N := 2) rfl ?_); refine box_event ?hg (N := 2) ?hd (cs := #[.int .i64 a0_0, .slice A0_1 l0_1.length c0_1]) (t := 29) ?hr ?_; (case hd => rfl); (case hg => rfl); (case hr => first | (go_simp; done) | (go_simp; rfl)); intro gb457 hg w18 hbox hb; have n0_ := Aside0.mk (below_step (by repeat (first | (with_reducible first | exact HB.out | apply below_alloc | apply pw_below_drewN | apply below_drew1) | exact HB.out)) hb); have n1_ := Aside0.mk (hbox); have n2_ := Aside0.mk ((by rw [hg]; exact (below_size (by repeat (first | (with_reducible first | exact HB.out | apply below_alloc | apply pw_below_drewN | apply below_drew1) | exact HB.out))) : w.heap.size ≤ gb457)); have n3_ := Aside0.mk ((by rw [hg]; exact (below_size (by repeat (first | (with_reducible first | exact HB.out | apply below_alloc | apply pw_below_drewN | apply below_drew1) | exact HB.out))) : w.heap.size ≤ gb457)); clear HB; have HB := n0_; have BK457 := n1_; have GW457 := n2_; have GE457 := n3_; clear n0_ n1_ n2_ n3_; clear hb hbox hg; have hcz19_0 : w18.cell? ⟨gb457, 0, none⟩ = some (.int .i64 a0_0) := (blk_cell BK457.out 0).trans rfl; have hcz19_1 : w18.cell? ⟨gb457, 1, none⟩ = some (.slice A0_1 l0_1.length c0_1) := (blk_cell BK457.out 1).trans rfl; have hfz19_0 := blk_frozen BK457.out 0; have hfz19_1 := blk_frozen BK457.out 1) | ((with_reducible refine gate_callee (f := 36) rfl ?_); refine goesL_ (some 8) rfl rfl Try.func36 (by kernel_rfl) rfl #[.agg #[.int .i64 a0_0, .slice A0_1 l0_1.length c0_1], .string a1] rfl (by (try simp only [List.map_toArray, List.map_cons, List.map_nil]); first | done | rfl | (simp only [List.length_drop, List.length_take]; rfl)) ?_; (with_reducible refine (spec_l4ByText.calls k a0_0 _ _ l0_1 a1 t458 _ ?side1 ?side2 A3.out).mono ?_); (case side1 => repeat (first | exact (Kd.C_below HR0_1.out HB.out) | (with_reducible refine Kd.C_alloc ?_ _) | (with_reducible refine Kd.C_drewN ?_ _) | (with_reducible refine Kd.C_drew ?_))); (case side2 => exact HC0_1.out); rintro e w20 ⟨rfl, hb⟩; refine ⟨_, rfl, ?_⟩; have n0_ := Aside0.mk (blk_below (g := gb457) (o := .cells #[.int .i64 a0_0, .slice A0_1 l0_1.length c0_1] 29 (0, 0)) (by (with_reducible repeat (first | refine blk_drewN ?_ _ | refine blk_drew ?_ | refine blk_alloc ?_ _)); exact BK457.out) hb); have n1_ := Aside0.mk (below_step (by repeat (first | (with_reducible first | exact HB.out | apply below_alloc | apply pw_below_drewN | apply below_drew1 | refine below_set ?_ GE457.out) | exact HB.out)) hb); clear BK457; clear HB; have BK457 := n0_; have HB := n1_; clear n0_ n1_; (try clear hb); (try clear hb2); (try clear hk); (try clear hi); have hcz21_0 : w20.cell? ⟨gb457, 0, none⟩ = some (.int .i64 a0_0) := (blk_cell BK457.out 0).trans rfl; have hcz21_1 : w20.cell? ⟨gb457, 1, none⟩ = some (.slice A0_1 l0_1.length c0_1) := (blk_cell BK457.out 1).trans rfl; have hfz21_0 := blk_frozen BK457.out 0; have hfz21_1 := blk_frozen BK457.out 1) | (go_at_call 10; (with_reducible refine (spec_ValidDict.calls k a0_0 _ _ l0_1 false _ ?side1 ?side2 A8.out).mono ?_); (case side1 => repeat (first | exact (Kd.C_below HR0_1.out HB.out) | (with_reducible refine Kd.C_alloc ?_ _) | (with_reducible refine Kd.C_drewN ?_ _) | (with_reducible refine Kd.C_drew ?_))); (case side2 => exact HC0_1.out); rintro e w22 ⟨rfl, hb⟩; have n0_ := Aside0.mk (blk_below (g := gb457) (o := .cells #[.int .i64 a0_0, .slice A0_1 l0_1.length c0_1] 29 (0, 0)) (by (with_reducible repeat (first | refine blk_drewN ?_ _ | refine blk_drew ?_ | refine blk_alloc ?_ _)); exact BK457.out) hb); have n1_ := Aside0.mk (below_step (by repeat (first | (with_reducible first | exact HB.out | apply below_alloc | apply pw_below_drewN | apply below_drew1 | refine below_set ?_ GE457.out) | exact HB.out)) hb); clear BK457; clear HB; have BK457 := n0_; have HB := n1_; clear n0_ n1_; (try clear hb); (try clear hb2); (try clear hk); (try clear hi)))
      go_ret
      exact ⟨by first | rfl | (simp [errW_none, errW_some] <;> rfl) | (simp [*, errW_none, errW_some] <;> rfl), by repeat (first | (with_reducible first | exact HB.out | apply below_alloc | apply pw_below_drewN | apply below_drew1 | refine below_set ?_ GE457.out) | exact HB.out)⟩
end

/-! ### L_term: a text by hand -/
theorem drop_gT (l : List S51) (i : Nat) (h : i < l.length) : l.drop i = gT l i :: l.drop (i + 1) := by rw [gT_at l i h]; exact List.drop_eq_getElem_cons h
theorem byId_loop (next : Int) (l : List S51) (id : Int) (hl : l.length ≤ 1048576) : ∀ (d i : Nat), i + d = l.length → ∃ r, Ev (fun k => spec_l4ById.l0 k id (i : Int) next l) r ∧ ((r < 0 ∧ tById (l.drop i) id = none) ∨ (0 ≤ r ∧ r < l.length ∧ tById (l.drop i) id = some (rd_T51 l r))) := by
  intro d
  induction d with
  | zero =>
    intro i hi
    refine ⟨-1, Ev.step (f := fun _ => some (-1)) (fun K => by simp only [spec_l4ById.l0]; rw [if_neg (by omega)]) (Ev.now _), Or.inl ⟨by decide, ?_⟩⟩
    rw [List.drop_of_length_le (by omega)]; rfl
  | succ d ih =>
    intro i hi
    rw [drop_gT l i (by omega)]
    by_cases c : (gT l i).f0 = id
    · refine ⟨i, Ev.step (f := fun _ => some (i : Int)) (fun K => by simp only [spec_l4ById.l0]; rw [if_pos (by omega), if_pos (by omega), gT_rd, if_pos c]) (Ev.now _), Or.inr ⟨by omega, by omega, ?_⟩⟩
      rw [gT_rd]
      exact List.find?_cons_of_pos (by simpa using c)
    · obtain ⟨r, h1, h2⟩ := ih (i + 1) (by omega)
      refine ⟨r, Ev.step (fun K => by simp only [spec_l4ById.l0]; rw [if_pos (by omega), if_pos (by omega), gT_rd, if_neg c, show wrap64 ((i : Int) + 1) = ((i + 1 : Nat) : Int) by unfold wrap64; omega]) h1, ?_⟩
      rw [show tById (gT l i :: l.drop (i + 1)) id = tById (l.drop (i + 1)) id from List.find?_cons_of_neg (by simpa using c)]
      exact h2
theorem byId_ev (next : Int) (l : List S51) (id : Int) (hl : l.length ≤ 1048576) : ∃ r, Ev (fun k => spec_l4ById.f k next l id) r ∧ ((r < 0 ∧ tById l id = none) ∨ (0 ≤ r ∧ r < l.length ∧ tById l id = some (rd_T51 l r))) :=
  byId_loop next l id hl l.length 0 (by omega)
theorem byText_loop (next : Int) (l : List S51) (s : ByteArray) (hl : l.length ≤ 1048576) : ∀ (d i : Nat), i + d = l.length → ∃ r, Ev (fun k => spec_l4ByText.l0 k s (i : Int) next l) r ∧ ((r < 0 ∧ tByText (l.drop i) s = none) ∨ (0 ≤ r ∧ r < l.length ∧ tByText (l.drop i) s = some (rd_T51 l r))) := by
  intro d
  induction d with
  | zero =>
    intro i hi
    refine ⟨-1, Ev.step (f := fun _ => some (-1)) (fun K => by simp only [spec_l4ByText.l0]; rw [if_neg (by omega)]) (Ev.now _), Or.inl ⟨by decide, ?_⟩⟩
    rw [List.drop_of_length_le (by omega)]; rfl
  | succ d ih =>
    intro i hi
    rw [drop_gT l i (by omega)]
    by_cases c : (gT l i).f1.toList = s.toList
    · refine ⟨i, Ev.step (f := fun _ => some (i : Int)) (fun K => by simp only [spec_l4ByText.l0]; rw [if_pos (by omega), if_pos (by omega), gT_rd, if_pos c]) (Ev.now _), Or.inr ⟨by omega, by omega, ?_⟩⟩
      rw [gT_rd]
      exact List.find?_cons_of_pos (by simpa using c)
    · obtain ⟨r, h1, h2⟩ := ih (i + 1) (by omega)
      refine ⟨r, Ev.step (fun K => by simp only [spec_l4ByText.l0]; rw [if_pos (by omega), if_pos (by omega), gT_rd, if_neg c, show wrap64 ((i : Int) + 1) = ((i + 1 : Nat) : Int) by unfold wrap64; omega]) h1, ?_⟩
      rw [show tByText (gT l i :: l.drop (i + 1)) s = tByText (l.drop (i + 1)) s from List.find?_cons_of_neg (by simpa using c)]
      exact h2
theorem byText_ev (next : Int) (l : List S51) (s : ByteArray) (hl : l.length ≤ 1048576) : ∃ r, Ev (fun k => spec_l4ByText.f k next l s) r ∧ ((r < 0 ∧ tByText l s = none) ∨ (0 ≤ r ∧ r < l.length ∧ tByText l s = some (rd_T51 l r))) :=
  byText_loop next l s hl l.length 0 (by omega)
def tText (next : Int) (l : List S51) (id : Int) : ByteArray := if vT next l = true then ((tById l id).map (·.f1)).getD ⟨#[]⟩ else ⟨#[]⟩
def tId (next : Int) (l : List S51) (s : ByteArray) : Int := if vT next l = true then ((tByText l s).map (·.f0)).getD 0 else 0
theorem specText_ev (next : Int) (l : List S51) (id : Int) (hl : l.length ≤ 1048576) : Ev (fun k => spec_TermText.f k next l id) (tText next l id) := by
  obtain ⟨r, h1, h2⟩ := byId_ev next l id hl
  unfold spec_TermText.f tText
  refine Ev.bind h1 ?_
  rcases h2 with ⟨h2, h3⟩ | ⟨h2, h4, h3⟩
  · rw [h3]
    exact Ev.congr (fun K => by rw [if_pos h2]) (by split <;> exact Ev.now _)
  · refine Ev.congr (fun K => by rw [if_neg (by omega)]) (Ev.bind (specValid_ev next l) ?_)
    rw [h3]
    by_cases c : vT next l = true
    · rw [if_pos c]
      exact Ev.congr (fun K => by rw [if_pos c, if_pos h2, if_pos h4]; rfl) (Ev.now _)
    · rw [if_neg c]
      exact Ev.congr (fun K => by rw [if_neg c]) (Ev.now _)
theorem specId_ev (next : Int) (l : List S51) (s : ByteArray) (hl : l.length ≤ 1048576) : Ev (fun k => spec_TermId.f k next l s) (tId next l s) := by
  obtain ⟨r, h1, h2⟩ := byText_ev next l s hl
  unfold spec_TermId.f tId
  refine Ev.bind h1 ?_
  rcases h2 with ⟨h2, h3⟩ | ⟨h2, h4, h3⟩
  · rw [h3]
    exact Ev.congr (fun K => by rw [if_pos h2]) (by split <;> exact Ev.now _)
  · refine Ev.congr (fun K => by rw [if_neg (by omega)]) (Ev.bind (specValid_ev next l) ?_)
    rw [h3]
    by_cases c : vT next l = true
    · rw [if_pos c]
      exact Ev.congr (fun K => by rw [if_pos c, if_pos h2, if_pos h4]; rfl) (Ev.now _)
    · rw [if_neg c]
      exact Ev.congr (fun K => by rw [if_neg c]) (Ev.now _)
theorem termText_of {next : Int} {l : List S51} {id : Int} {k : Nat} {r : ByteArray} (h : spec_TermText.f k next l id = some r) : r = tText next l id := by
  by_cases c : vT next l = true
  · exact ev_eq (spec_TermText.mono _ _ _) (specText_ev next l id (by have := (vT_facts c).2.2.1; omega)) h
  · unfold tText
    rw [if_neg c]
    unfold spec_TermText.f at h
    obtain ⟨t, _, h⟩ := Option.bind_eq_some_iff.1 h
    by_cases c2 : t < 0
    · rw [if_pos c2] at h; exact (Option.some.inj h).symm
    · rw [if_neg c2] at h
      obtain ⟨v, hv, h⟩ := Option.bind_eq_some_iff.1 h
      rw [ev_eq (spec_ValidDict.mono _ _) (specValid_ev next l) hv, if_neg c] at h
      exact (Option.some.inj h).symm
theorem termId_of {next : Int} {l : List S51} {s : ByteArray} {k : Nat} {r : Int} (h : spec_TermId.f k next l s = some r) : r = tId next l s := by
  by_cases c : vT next l = true
  · exact ev_eq (spec_TermId.mono _ _ _) (specId_ev next l s (by have := (vT_facts c).2.2.1; omega)) h
  · unfold tId
    rw [if_neg c]
    unfold spec_TermId.f at h
    obtain ⟨t, _, h⟩ := Option.bind_eq_some_iff.1 h
    by_cases c2 : t < 0
    · rw [if_pos c2] at h; exact (Option.some.inj h).symm
    · rw [if_neg c2] at h
      obtain ⟨v, hv, h⟩ := Option.bind_eq_some_iff.1 h
      rw [ev_eq (spec_ValidDict.mono _ _) (specValid_ev next l) hv, if_neg c] at h
      exact (Option.some.inj h).symm

section
attribute [local go_sem high] eqA51

/-! ### impl_TermText: function 15, proved by hand -/
set_option maxHeartbeats 4000000 in
set_option maxRecDepth 100000 in
theorem impl_TermText.calls (k : Nat) (a0_0 : Int) (A0_1 : Option Addr) (c0_1 : Nat) (l0_1 : List (S51)) (a1 : Int) (r : ByteArray) (w : World) (hr0_1 : Kd.C k51 w A0_1 l0_1.length l0_1) (hc0_1 : l0_1.length ≤ c0_1) (h : spec_TermText.f k a0_0 l0_1 a1 = some r) :
    Calls Try.prog 15 #[.agg #[.int .i64 a0_0, .slice A0_1 l0_1.length c0_1], .int .i64 a1] w fun e w' => e = .returned (.string r) ∧ Below w.heap.size w w' := by
  obtain rfl := termText_of h
  clear h
  have HR := Aside0.mk hr0_1
  have HC := Aside0.mk hc0_1
  clear hr0_1 hc0_1
  have hu29 := Try.underlying29
  have hu51 := Try.underlying51
  have hu61 := Try.underlying61
  have HB := Aside0.mk (Below.refl w.heap.size w)
  go_enter Try.func15, Try.ntmps15
  go_wp2_with fail
  refine (book_calls a0_0 _ _ l0_1 _ (Kd.C_alloc HR.out _) HC.out).mono ?_
  rintro e w1 ⟨hb, ⟨hv, rfl⟩ | ⟨hv, bk, m1, m2, E, rfl, hE, hbk⟩⟩
  · have HV := Aside0.mk (show tText a0_0 l0_1 a1 = ⟨#[]⟩ by unfold tText; rw [hv, if_neg (by decide)])
    have HB1 := Aside0.mk (below_step (below_alloc HB.out _) hb)
    clear hv hb
    go_wp2_with fail
    go_ret
    exact ⟨by rw [HV.out]; rfl, HB1.out⟩
  · have HB1 := Aside0.mk (below_step (below_alloc HB.out _) hb)
    have hV : tText a0_0 l0_1 a1 = ((tById l0_1 a1).map (·.f1)).getD ⟨#[]⟩ := by unfold tText; rw [if_pos hv]
    obtain ⟨o, hlk, ho⟩ := Book.lookI hbk hE (fun t ht => by have := vT_mem hv ht; have := (vT_facts hv).2.1; omega) a1
    have b2 : w1.cell? ⟨bk, 2, none⟩ = some (.map (some m2)) := (blk_cell hbk.2.2.2.2.2.1 2).trans rfl
    rcases ho with ⟨rfl, ho⟩ | ⟨b, t, rfl, ho, hm⟩
    · have HV := Aside0.mk (show tText a0_0 l0_1 a1 = ⟨#[]⟩ by rw [hV, ho]; rfl)
      simp only [ptrV] at hlk
      clear hv hb hV ho hbk hE
      go_wp2_with fail
      go_ret
      exact ⟨by rw [HV.out]; rfl, HB1.out⟩
    · have HV := Aside0.mk (show tText a0_0 l0_1 a1 = t.f1 by rw [hV, ho]; rfl)
      have t1 : w1.cell? ⟨b, 1, none⟩ = some (.string t.f1) := (blk_cell (hbk.2.2.2.2.2.2.1 _ hm).2 1).trans rfl
      simp only [ptrV] at hlk
      clear hv hb hV ho hbk hE hm
      go_wp2_with fail
      go_ret
      exact ⟨by rw [HV.out]; rfl, HB1.out⟩
end

section
attribute [local go_sem high] eqA51

/-! ### impl_TermId: function 17, proved by hand -/
theorem book_id {w : World} {lo bk m1 m2 : Nat} {next : Int} {E : List (Nat × S51)} {l : List S51} (hbk : Book w lo bk m1 m2 next E) (hE : E.map (·.2) = l) (hl : ∀ t ∈ l, t.f1.size ≤ 30) (s : ByteArray) :
    Calls Try.prog 37 #[.pointer (some ⟨bk, 0, none⟩), .string s] w fun e w' => e = .returned (.int .i64 (((tByText l s).map (·.f0)).getD 0)) ∧ w' = w := by
  have hu51 := Try.underlying51
  have hu61 := Try.underlying61
  obtain ⟨o, hlk, ho⟩ := Book.lookS hbk hE hl s
  have b1 : w.cell? ⟨bk, 1, none⟩ = some (.map (some m1)) := (blk_cell hbk.2.2.2.2.2.1 1).trans rfl
  rcases ho with ⟨rfl, ho⟩ | ⟨b, t, rfl, ho, hm⟩
  · have HV := Aside0.mk ho
    simp only [ptrV] at hlk
    clear ho hbk hE hl
    go_enter Try.func37, Try.ntmps37
    go_wp2_with fail
    go_ret
    exact ⟨by rw [HV.out]; rfl, rfl⟩
  · have HV := Aside0.mk ho
    have t0 : w.cell? ⟨b, 0, none⟩ = some (.int .i64 t.f0) := (blk_cell (hbk.2.2.2.2.2.2.1 _ hm).2 0).trans rfl
    simp only [ptrV] at hlk
    clear ho hbk hE hm hl
    go_enter Try.func37, Try.ntmps37
    go_wp2_with fail
    go_ret
    exact ⟨by rw [HV.out]; rfl, rfl⟩
set_option maxHeartbeats 4000000 in
set_option maxRecDepth 100000 in
theorem impl_TermId.calls (k : Nat) (a0_0 : Int) (A0_1 : Option Addr) (c0_1 : Nat) (l0_1 : List (S51)) (a1 : ByteArray) (r : Int) (w : World) (hr0_1 : Kd.C k51 w A0_1 l0_1.length l0_1) (hc0_1 : l0_1.length ≤ c0_1) (h : spec_TermId.f k a0_0 l0_1 a1 = some r) :
    Calls Try.prog 17 #[.agg #[.int .i64 a0_0, .slice A0_1 l0_1.length c0_1], .string a1] w fun e w' => e = .returned (.int .i64 r) ∧ Below w.heap.size w w' := by
  obtain rfl := termId_of h
  clear h
  have HR := Aside0.mk hr0_1
  have HC := Aside0.mk hc0_1
  clear hr0_1 hc0_1
  have hu29 := Try.underlying29
  have HB := Aside0.mk (Below.refl w.heap.size w)
  go_enter Try.func17, Try.ntmps17
  go_wp2_with fail
  refine (book_calls a0_0 _ _ l0_1 _ (Kd.C_alloc HR.out _) HC.out).mono ?_
  rintro e w1 ⟨hb, ⟨hv, rfl⟩ | ⟨hv, bk, m1, m2, E, rfl, hE, hbk⟩⟩
  · have HV := Aside0.mk (show tId a0_0 l0_1 a1 = 0 by unfold tId; rw [hv, if_neg (by decide)])
    have HB1 := Aside0.mk (below_step (below_alloc HB.out _) hb)
    clear hv hb
    go_wp2_with fail
    go_ret
    exact ⟨by rw [HV.out]; rfl, HB1.out⟩
  · have HB1 := Aside0.mk (below_step (below_alloc HB.out _) hb)
    have HV := Aside0.mk (show tId a0_0 l0_1 a1 = ((tByText l0_1 a1).map (·.f0)).getD 0 by unfold tId; rw [if_pos hv])
    have HC2 := Aside0.mk (book_id hbk hE (fun t ht => by have := vT_mem hv ht; omega) a1)
    clear hv hb hbk hE
    go_wp2_with fail
    refine HC2.out.mono ?_
    rintro e w2 ⟨rfl, rfl⟩
    go_wp2_with fail
    go_ret
    exact ⟨by rw [HV.out]; rfl, HB1.out⟩
end

section
attribute [local go_sem high] eqA51

/-! ### impl_DictNew: function 26 -/
def impl_DictNew.f  : Option (Int × (List (S51))) := some (1, ([] : List (S51)))
set_option maxHeartbeats 8000000 in
set_option maxRecDepth 100000 in
theorem impl_DictNew.calls  (r1 : Int) (r2 : List (S51)) (w : World) (h : impl_DictNew.f  = some (r1, r2)) :
    Calls Try.prog 26 #[] w fun e w' => ∃ v1_ : Value, e = .returned (.agg #[.int .i64 r1, v1_]) ∧ Kd.R k51 51 w' w.heap.size (fun _ => True) v1_ r2 ∧ Below w.heap.size w w' := by
  have hu29 := Try.underlying29
  have HB := Aside0.mk (Below.refl w.heap.size w)
  have H : (some (1, ([] : List (S51)))) = some (r1, r2) := h
  clear h
  simp only [Option.some.injEq, Prod.mk.injEq] at H
  obtain ⟨rfl, rfl⟩ := H
  go_enter Try.func26, Try.ntmps26
  go_wp2_with (first | ((with_reducible refine gate_dst (N := 0) rfl ?_); refine box_event ?hg (N := 0) ?hd (cs := #[.int .i64 0, .slice none 0 0]) (t := 29) ?hr ?_; (case hd => rfl); (case hg => rfl); (case hr => first | (go_simp; done) | (go_simp; rfl)); intro gb465 hg w1 hbox hb; have n0_ := Aside0.mk (below_step (by repeat (first | (with_reducible first | exact HB.out | apply below_alloc | apply pw_below_drewN | apply below_drew1) | exact HB.out)) hb); have n1_ := Aside0.mk (hbox); have n2_ := Aside0.mk ((by rw [hg]; exact (below_size (by repeat (first | (with_reducible first | exact HB.out | apply below_alloc | apply pw_below_drewN | apply below_drew1) | exact HB.out))) : w.heap.size ≤ gb465)); have n3_ := Aside0.mk ((by rw [hg]; exact (below_size (by repeat (first | (with_reducible first | exact HB.out | apply below_alloc | apply pw_below_drewN | apply below_drew1) | exact HB.out))) : w.heap.size ≤ gb465)); clear HB; have HB := n0_; have BK465 := n1_; have GW465 := n2_; have GE465 := n3_; clear n0_ n1_ n2_ n3_; clear hb hbox hg; have hcz2_0 : w1.cell? ⟨gb465, 0, none⟩ = some (.int .i64 0) := (blk_cell BK465.out 0).trans rfl; have hcz2_1 : w1.cell? ⟨gb465, 1, none⟩ = some (.slice none 0 0) := (blk_cell BK465.out 1).trans rfl; have hfz2_0 := blk_frozen BK465.out 0; have hfz2_1 := blk_frozen BK465.out 1))
  refine bodyPost_ret (results_cell_row rfl _ _ gb465 29 #[.int .i64 1, .slice none 0 0] (0, 0) _ rfl (by (with_reducible repeat (first | refine blk_drewN ?_ _ | refine blk_drew ?_ | refine blk_alloc ?_ _)); refine blk_put (cs := #[.int .i64 1, .slice none 0 0]) ?_ 1 _ rfl; (with_reducible repeat (first | refine blk_drewN ?_ _ | refine blk_drew ?_ | refine blk_alloc ?_ _)); refine blk_put (cs := #[.int .i64 0, .slice none 0 0]) ?_ 0 _ rfl; (with_reducible repeat (first | refine blk_drewN ?_ _ | refine blk_drew ?_ | refine blk_alloc ?_ _)); exact BK465.out) Try.underlying29 rfl (by kernel_rfl)) rfl ?_
  exact ⟨_, by first | rfl | (simp [errW_none, errW_some] <;> rfl) | (simp [*, errW_none, errW_some] <;> rfl), by first | exact Kd.R_nil _ _ _ _ _ | exact Kd.N_nil _ _ _ _ _ | exact Kd.V_nil _ _ _ _ _ | exact Kd.Q_nil _ _ _ _ _ | exact Kd.S_nil _ _ _ _ _, by repeat (first | (with_reducible first | exact HB.out | apply below_alloc | apply pw_below_drewN | apply below_drew1 | refine below_set ?_ GE465.out) | exact HB.out)⟩
end

section
attribute [local go_sem high] eqA51

/-! ### spec_DictNew: function 27 -/
def spec_DictNew.f  : Option (Int × (List (S51))) := some (1, ([] : List (S51)))
set_option maxHeartbeats 8000000 in
set_option maxRecDepth 100000 in
theorem spec_DictNew.calls  (r1 : Int) (r2 : List (S51)) (w : World) (h : spec_DictNew.f  = some (r1, r2)) :
    Calls Try.prog 27 #[] w fun e w' => ∃ v1_ : Value, e = .returned (.agg #[.int .i64 r1, v1_]) ∧ Kd.R k51 51 w' w.heap.size (fun _ => True) v1_ r2 ∧ Below w.heap.size w w' := by
  have hu29 := Try.underlying29
  have HB := Aside0.mk (Below.refl w.heap.size w)
  have H : (some (1, ([] : List (S51)))) = some (r1, r2) := h
  clear h
  simp only [Option.some.injEq, Prod.mk.injEq] at H
  obtain ⟨rfl, rfl⟩ := H
  go_enter Try.func27, Try.ntmps27
  go_wp2_with (first | ((with_reducible refine gate_dst (N := 0) rfl ?_); refine box_event ?hg (N := 0) ?hd (cs := #[.int .i64 0, .slice none 0 0]) (t := 29) ?hr ?_; (case hd => rfl); (case hg => rfl); (case hr => first | (go_simp; done) | (go_simp; rfl)); intro gb466 hg w1 hbox hb; have n0_ := Aside0.mk (below_step (by repeat (first | (with_reducible first | exact HB.out | apply below_alloc | apply pw_below_drewN | apply below_drew1) | exact HB.out)) hb); have n1_ := Aside0.mk (hbox); have n2_ := Aside0.mk ((by rw [hg]; exact (below_size (by repeat (first | (with_reducible first | exact HB.out | apply below_alloc | apply pw_below_drewN | apply below_drew1) | exact HB.out))) : w.heap.size ≤ gb466)); have n3_ := Aside0.mk ((by rw [hg]; exact (below_size (by repeat (first | (with_reducible first | exact HB.out | apply below_alloc | apply pw_below_drewN | apply below_drew1) | exact HB.out))) : w.heap.size ≤ gb466)); clear HB; have HB := n0_; have BK466 := n1_; have GW466 := n2_; have GE466 := n3_; clear n0_ n1_ n2_ n3_; clear hb hbox hg; have hcz2_0 : w1.cell? ⟨gb466, 0, none⟩ = some (.int .i64 0) := (blk_cell BK466.out 0).trans rfl; have hcz2_1 : w1.cell? ⟨gb466, 1, none⟩ = some (.slice none 0 0) := (blk_cell BK466.out 1).trans rfl; have hfz2_0 := blk_frozen BK466.out 0; have hfz2_1 := blk_frozen BK466.out 1))
  refine bodyPost_ret (results_cell_row rfl _ _ gb466 29 #[.int .i64 1, .slice none 0 0] (0, 0) _ rfl (by (with_reducible repeat (first | refine blk_drewN ?_ _ | refine blk_drew ?_ | refine blk_alloc ?_ _)); refine blk_put (cs := #[.int .i64 1, .slice none 0 0]) ?_ 1 _ rfl; (with_reducible repeat (first | refine blk_drewN ?_ _ | refine blk_drew ?_ | refine blk_alloc ?_ _)); refine blk_put (cs := #[.int .i64 0, .slice none 0 0]) ?_ 0 _ rfl; (with_reducible repeat (first | refine blk_drewN ?_ _ | refine blk_drew ?_ | refine blk_alloc ?_ _)); exact BK466.out) Try.underlying29 rfl (by kernel_rfl)) rfl ?_
  exact ⟨_, by first | rfl | (simp [errW_none, errW_some] <;> rfl) | (simp [*, errW_none, errW_some] <;> rfl), by first | exact Kd.R_nil _ _ _ _ _ | exact Kd.N_nil _ _ _ _ _ | exact Kd.V_nil _ _ _ _ _ | exact Kd.Q_nil _ _ _ _ _ | exact Kd.S_nil _ _ _ _ _, by repeat (first | (with_reducible first | exact HB.out | apply below_alloc | apply pw_below_drewN | apply below_drew1 | refine below_set ?_ GE466.out) | exact HB.out)⟩
end

section
attribute [local go_sem high] eqA51

/-! ### laws_lwAt: function 28 -/
def laws_lwAt.f (l0 : List Int) (a1 : Int) : Option (Int) := if a1 < (l0.length : Int) then (if 0 ≤ a1 then (some (wrap64 (rd l0 a1))) else (none)) else (some (Int.tmod (wrap64 ((wrap64 (a1 * 59)) + 31)) 256))
set_option maxHeartbeats 8000000 in
set_option maxRecDepth 100000 in
theorem laws_lwAt.calls (A0 : Option Addr) (c0 : Nat) (l0 : List Int) (a1 : Int) (r : Int) (w : World) (hr0 : Kd.C (Kd.int .u8) w A0 l0.length l0) (hc0 : l0.length ≤ c0) (h : laws_lwAt.f l0 a1 = some r) :
    Calls Try.prog 28 #[.slice A0 l0.length c0, .int .i64 a1] w fun e w' => e = .returned (.int .i64 r) ∧ Drawn0 w w' := by
  have HR0 := Aside0.mk hr0
  have HC0 := Aside0.mk hc0
  clear hr0 hc0
  have H : (if a1 < (l0.length : Int) then (if 0 ≤ a1 then (some (wrap64 (rd l0 a1))) else (none)) else (some (Int.tmod (wrap64 ((wrap64 (a1 * 59)) + 31)) 256))) = some r := h
  clear h
  by_cases c3 : a1 < (l0.length : Int)
  · rw [if_pos c3] at H
    have c3b0 : decide (a1 < (l0.length : Int)) = true := decide_eq_true c3
    clear c3
    by_cases c4 : 0 ≤ a1
    · rw [if_pos c4] at H
      have c4b0 : decide (0 ≤ a1) = true := decide_eq_true c4
      clear c4
      obtain rfl := Option.some.inj H
      have p467 : 0 ≤ (a1 : Int) := of_decide_eq_true (by first | (with_reducible assumption) | assumption)
      have q467 : a1 < (l0.length : Int) := of_decide_eq_true (by first | (with_reducible assumption) | assumption)
      obtain ⟨ad467, e467, hx467_0⟩ := Kd.at_int HR0.out a1 p467 q467
      cases e467
      replace p467 := eq_true p467
      replace q467 := eq_true q467
      go_enter Try.func28, Try.ntmps28
      go_wp2
      go_ret
      exact ⟨by first | rfl | (simp; done) | (simp [*]; done), by repeat (first | exact Drawn0.refl _ | apply Drawn0.step)⟩
    · rw [if_neg c4] at H
      exact absurd H (by simp)
  · rw [if_neg c3] at H
    have c3b0 : decide (a1 < (l0.length : Int)) = false := decide_eq_false c3
    clear c3
    obtain rfl := Option.some.inj H
    go_enter Try.func28, Try.ntmps28
    go_wp2
    go_ret
    exact ⟨by first | rfl | (simp; done) | (simp [*]; done), by repeat (first | exact Drawn0.refl _ | apply Drawn0.step)⟩
end
end Go.Proofs.Ytneapgdfeegmgaa.PI
