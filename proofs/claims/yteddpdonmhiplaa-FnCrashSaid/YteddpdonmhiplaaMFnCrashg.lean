-- Made by this session's programs out of the translation and of its own texts.
import Derived.Test.YteddpdonmhiplaaMFnCrashf
namespace Go.Proofs.Yteddpdonmhiplaa.PR
open Go.RowKit Go.Proofs.YteddpdonmhiplaaW.PrintWords Go.Proofs.YteddpdonmhiplaaW.PrintLast Go.Proofs.YteddpdonmhiplaaW.PrintMore
attribute [local go_sem] max2_int min2_int max_two min_two max_three min_three max_four min_four   -- for this text's walks alone
set_option linter.unusedVariables false
set_option linter.unusedSimpArgs false

/-! ### spec_DiskCrash: function 14 -/
def spec_DiskCrash.l0 : Nat → List Bool → List Int → Int → List Int → List (S79) → Int → Bool → Option (List Int × (List (S79)) × Int × Bool)
 | 0, _, _, _, _, _, _, _ => none
 | k + 1, x1, x5, x6, x1148000, x1148001, x1148002, x1148003 => if x6 < (x1148001.length : Int) then (if x6 < (x1.length : Int) then (if 0 ≤ x6 then (if rdOf false x1 x6 = true then ((spec_l1Over.f x5 ((rd_T79 x1148001 x6).f0) ((rd_T79 x1148001 x6).f1)).bind fun t1159 => (spec_DiskCrash.l0 k x1 t1159 (wrap64 (x6 + 1)) x1148000 x1148001 x1148002 x1148003)) else (spec_DiskCrash.l0 k x1 x5 (wrap64 (x6 + 1)) x1148000 x1148001 x1148002 x1148003)) else (none)) else (spec_DiskCrash.l0 k x1 x5 (wrap64 (x6 + 1)) x1148000 x1148001 x1148002 x1148003)) else (some (x5, ([] : List (S79)), (-1), false))
def spec_DiskCrash.f (k : Nat) (l0_0 : List Int) (l0_1 : List (S79)) (a0_2 : Int) (a0_3 : Bool) (l1 : List Bool) : Option (List Int × (List (S79)) × Int × Bool) := (spec_ValidDisk.f k l0_0 l0_1 a0_2 a0_3).bind fun t1149 => (if t1149 = true then ((some (([] : List Int) : List Int)).bind fun y1150 => (if y1150.length + l0_0.length < 140737488355328 then (spec_DiskCrash.l0 k l1 (y1150 ++ l0_0) 0 l0_0 l0_1 a0_2 a0_3) else (none))) else (some (([] : List Int), ([] : List (S79)), 0, false)))
def spec_DiskCrash.T8 : Bool × List (List Nat × List Nat) := (true, [([], []), ([], []), ([1], [1]), ([], []), ([2, 3], [2, 3]), ([4], [4]), ([5], [5]), ([], []), ([7], [7]), ([], []), ([8, 9], [8, 9]), ([10], [10]), ([11], [11]), ([0, 6, 12], [0, 6, 12]), ([13, 13, 0, 1, 2, 3, 4, 5, 6, 7, 8, 9, 10, 11, 12, 13], [0, 13])])
def spec_DiskCrash.B8 : List Nat := [0, 0, 2, 0, 14, 30, 62, 0, 128, 0, 896, 1920, 3968, 8191, 16383]
theorem spec_DiskCrash.tab8 : rtab .any (opsOf Try.f14 8) = spec_DiskCrash.T8 := by kernel_rfl
theorem spec_DiskCrash.bits8 : waitsOk spec_DiskCrash.T8.2 spec_DiskCrash.B8 = true := by kernel_rfl
set_option maxHeartbeats 8000000 in
set_option maxRecDepth 100000 in
theorem spec_DiskCrash.calls (k : Nat) (A0_0 : Option Addr) (c0_0 : Nat) (l0_0 : List Int) (A0_1 : Option Addr) (c0_1 : Nat) (l0_1 : List (S79)) (a0_2 : Int) (a0_3 : Bool) (A1 : Option Addr) (c1 : Nat) (l1 : List Bool) (r1 : List Int) (r2 : List (S79)) (r3 : Int) (r4 : Bool) (w : World) (hr0_0 : Kd.C (Kd.int .u8) w A0_0 l0_0.length l0_0) (hc0_0 : l0_0.length ≤ c0_0) (hr0_1 : Kd.C k79 w A0_1 l0_1.length l0_1) (hc0_1 : l0_1.length ≤ c0_1) (hr1 : Kd.C Kd.bool w A1 l1.length l1) (hc1 : l1.length ≤ c1) (h : spec_DiskCrash.f k l0_0 l0_1 a0_2 a0_3 l1 = some (r1, r2, r3, r4)) :
  Calls Try.prog 14 #[.agg #[.slice A0_0 l0_0.length c0_0, .slice A0_1 l0_1.length c0_1, .int .i64 a0_2, .bool a0_3], .slice A1 l1.length c1] w fun e w' => ∃ v0_ v1_ : Value, e = .returned (.agg #[v0_, v1_, .int .i64 r3, .bool r4]) ∧ Kd.R (Kd.int .u8) 5 w' w.heap.size (fun _ => True) v0_ r1 ∧ Kd.S k79 79 w' w.heap.size (fun k_ => some k_ ≠ (v0_ : Value).ownBlock) v1_ r2 ∧ Below w.heap.size w w' := by
 have hu25 := Try.underlying25
 have HR0_0 := Aside0.mk hr0_0
 have HC0_0 := Aside0.mk hc0_0
 clear hr0_0 hc0_0
 have HR0_1 := Aside0.mk hr0_1
 have HC0_1 := Aside0.mk hc0_1
 clear hr0_1 hc0_1
 have HR1 := Aside0.mk hr1
 have HC1 := Aside0.mk hc1
 clear hr1 hc1
 have HB := Aside0.mk (Below.refl w.heap.size w)
 have H : ((spec_ValidDisk.f k l0_0 l0_1 a0_2 a0_3).bind fun t1149 => (if t1149 = true then ((some (([] : List Int) : List Int)).bind fun y1150 => (if y1150.length + l0_0.length < 140737488355328 then (spec_DiskCrash.l0 k l1 (y1150 ++ l0_0) 0 l0_0 l0_1 a0_2 a0_3) else (none))) else (some (([] : List Int), ([] : List (S79)), 0, false)))) = some (r1, r2, r3, r4) := h
 clear h
 replace H := Option.bind_eq_some_iff.mp H
 obtain ⟨t1149, A30, H⟩ := H
 replace H : (if t1149 = true then ((some (([] : List Int) : List Int)).bind fun y1150 => (if y1150.length + l0_0.length < 140737488355328 then (spec_DiskCrash.l0 k l1 (y1150 ++ l0_0) 0 l0_0 l0_1 a0_2 a0_3) else (none))) else (some (([] : List Int), ([] : List (S79)), 0, false))) = some (r1, r2, r3, r4) := H
 have A3 := Aside0.mk A30
 clear A30
 by_cases c4 : t1149 = true
 ·subst c4
  have H1 : ((some (([] : List Int) : List Int)).bind fun y1150 => (if y1150.length + l0_0.length < 140737488355328 then (spec_DiskCrash.l0 k l1 (y1150 ++ l0_0) 0 l0_0 l0_1 a0_2 a0_3) else (none))) = some (r1, r2, r3, r4) := by rw [if_pos rfl] at H; exact H
  clear H
  have H := H1
  clear H1
  obtain ⟨y1150, hy1150⟩ : ∃ y_ : List Int, y_ = (([] : List Int)) := ⟨_, rfl⟩
  replace H : (if y1150.length + l0_0.length < 140737488355328 then (spec_DiskCrash.l0 k l1 (y1150 ++ l0_0) 0 l0_0 l0_1 a0_2 a0_3) else (none)) = some (r1, r2, r3, r4) := by first | (rw [hy1150]; with_reducible exact H) | (have H2_ := (Option.bind_some _ _).symm.trans H; rw [hy1150]; with_reducible exact H2_) | (have H2_ := (Option.bind_some _ _).symm.trans H; with_reducible exact H2_) | with_reducible exact H | (rw [hy1150]; exact H) | exact H
  have Ny1150 := Aside0.mk hy1150
  clear hy1150
  by_cases c5 : y1150.length + l0_0.length < 140737488355328
  ·rw [if_pos c5] at H
   have LMc5 := Aside0.mk c5
   clear c5
   obtain ⟨y1153, hy1153⟩ : ∃ y_ : List Int, y_ = (y1150 ++ l0_0) := ⟨_, rfl⟩
   replace H : (spec_DiskCrash.l0 k l1 y1153 0 l0_0 l0_1 a0_2 a0_3) = some (r1, r2, r3, r4) := by first | (rw [hy1153]; with_reducible exact H) | (have H2_ := (Option.bind_some _ _).symm.trans H; rw [hy1153]; with_reducible exact H2_) | (have H2_ := (Option.bind_some _ _).symm.trans H; with_reducible exact H2_) | with_reducible exact H | (rw [hy1153]; exact H) | exact H
   have Ny1153 := Aside0.mk hy1153
   clear hy1153
   have H' := Aside0.mk H
   clear H
   go_enter Try.func14, Try.ntmps14
   go_wp2_with (first | ((with_reducible refine gate_dst (N := 2) rfl ?_); refine box_event ?hg (N := 2) ?hd (cs := #[.slice A0_0 l0_0.length c0_0, .slice A0_1 l0_1.length c0_1, .int .i64 a0_2, .bool a0_3]) (t := 25) ?hr ?_; (case hd => rfl); (case hg => rfl); (case hr => first | (go_simp; done) | (go_simp; rfl)); intro gb1147 hg w6 hbox hb; have n0_ := Aside0.mk (below_step (by repeat (first | (with_reducible first | exact HB.out | apply below_alloc | apply pw_below_drewN | apply below_drew1) | exact HB.out)) hb); have n1_ := Aside0.mk (hbox); have n2_ := Aside0.mk ((by rw [hg]; exact (below_size (by repeat (first | (with_reducible first | exact HB.out | apply below_alloc | apply pw_below_drewN | apply below_drew1) | exact HB.out))) : w.heap.size ≤ gb1147)); have n3_ := Aside0.mk ((by rw [hg]; exact (below_size (by repeat (first | (with_reducible first | exact HB.out | apply below_alloc | apply pw_below_drewN | apply below_drew1) | exact HB.out))) : w.heap.size ≤ gb1147)); clear HB; have HB := n0_; have BK1147 := n1_; have GW1147 := n2_; have GE1147 := n3_; clear n0_ n1_ n2_ n3_; clear hb hbox hg) | ((with_reducible refine gate_dst (N := 4) rfl ?_); refine box_event ?hg (N := 4) ?hd (cs := #[.slice none 0 0, .slice none 0 0, .int .i64 0, .bool false]) (t := 25) ?hr ?_; (case hd => rfl); (case hg => rfl); (case hr => first | (go_simp; done) | (go_simp; rfl)); intro gb1148 hg w7 hbox hb; have n0_ := Aside0.mk (blk_below (g := gb1147) (o := .cells #[.slice A0_0 l0_0.length c0_0, .slice A0_1 l0_1.length c0_1, .int .i64 a0_2, .bool a0_3] 25 (0, 0)) (by (with_reducible repeat (first | refine blk_drewN ?_ _ | refine blk_drew ?_ | refine blk_alloc ?_ _)); exact BK1147.out) hb); have n1_ := Aside0.mk (below_step (by repeat (first | (with_reducible first | exact HB.out | apply below_alloc | apply pw_below_drewN | apply below_drew1 | refine below_set ?_ GE1147.out) | exact HB.out)) hb); have n2_ := Aside0.mk (hbox); have n3_ := Aside0.mk ((by rw [hg]; exact (below_size (by repeat (first | (with_reducible first | exact HB.out | apply below_alloc | apply pw_below_drewN | apply below_drew1 | refine below_set ?_ GE1147.out) | exact HB.out))) : w.heap.size ≤ gb1148)); have n4_ := Aside0.mk ((by rw [hg]; exact (below_size (by repeat (first | (with_reducible first | exact HB.out | apply below_alloc | apply pw_below_drewN | apply below_drew1 | refine below_set ?_ GE1147.out) | exact HB.out))) : w.heap.size ≤ gb1148)); have n5_ := Aside0.mk ((by rw [hg]; exact Nat.ne_of_lt (blk_lt (g := gb1147) (o := .cells #[.slice A0_0 l0_0.length c0_0, .slice A0_1 l0_1.length c0_1, .int .i64 a0_2, .bool a0_3] 25 (0, 0)) (by (with_reducible repeat (first | refine blk_drewN ?_ _ | refine blk_drew ?_ | refine blk_alloc ?_ _)); exact BK1147.out)) : gb1147 ≠ gb1148)); have n6_ := Aside0.mk ((by rw [hg]; exact Nat.ne_of_gt (blk_lt (g := gb1147) (o := .cells #[.slice A0_0 l0_0.length c0_0, .slice A0_1 l0_1.length c0_1, .int .i64 a0_2, .bool a0_3] 25 (0, 0)) (by (with_reducible repeat (first | refine blk_drewN ?_ _ | refine blk_drew ?_ | refine blk_alloc ?_ _)); exact BK1147.out)) : gb1148 ≠ gb1147)); clear BK1147; clear HB; have BK1147 := n0_; have HB := n1_; have BK1148 := n2_; have GW1148 := n3_; have GE1148 := n4_; have NB1147_1148 := n5_; have NB1148_1147 := n6_; clear n0_ n1_ n2_ n3_ n4_ n5_ n6_; clear hb hbox hg; have hnb8 := NB1147_1148.out; have hnc8 := NB1148_1147.out; have hcz9_0 : w7.cell? ⟨gb1147, 0, none⟩ = some (.slice A0_0 l0_0.length c0_0) := (blk_cell BK1147.out 0).trans rfl; have hcz9_1 : w7.cell? ⟨gb1147, 1, none⟩ = some (.slice A0_1 l0_1.length c0_1) := (blk_cell BK1147.out 1).trans rfl; have hcz9_2 : w7.cell? ⟨gb1147, 2, none⟩ = some (.int .i64 a0_2) := (blk_cell BK1147.out 2).trans rfl; have hcz9_3 : w7.cell? ⟨gb1147, 3, none⟩ = some (.bool a0_3) := (blk_cell BK1147.out 3).trans rfl; have hfz9_0 := blk_frozen BK1147.out 0; have hfz9_1 := blk_frozen BK1147.out 1; have hfz9_2 := blk_frozen BK1147.out 2; have hfz9_3 := blk_frozen BK1147.out 3) | ((with_reducible refine gate_callee (f := 11) rfl ?_); refine goesL_ (some 8) rfl rfl Try.func11 (by kernel_rfl) rfl #[.agg #[.slice A0_0 l0_0.length c0_0, .slice A0_1 l0_1.length c0_1, .int .i64 a0_2, .bool a0_3]] rfl (by (try simp only [List.map_toArray, List.map_cons, List.map_nil]); first | done | rfl | (simp only [List.length_drop, List.length_take]; rfl)) ?_; (with_reducible refine (spec_ValidDisk.calls k _ _ l0_0 _ _ l0_1 a0_2 a0_3 true _ ?side1 ?side2 ?side3 ?side4 A3.out).mono ?_); (case side1 => repeat (first | exact (Kd.C_below HR0_0.out HB.out) | (with_reducible refine Kd.C_alloc ?_ _) | (with_reducible refine Kd.C_drewN ?_ _) | (with_reducible refine Kd.C_drew ?_))); (case side2 => exact HC0_0.out); (case side3 => repeat (first | exact (Kd.C_below HR0_1.out HB.out) | (with_reducible refine Kd.C_alloc ?_ _) | (with_reducible refine Kd.C_drewN ?_ _) | (with_reducible refine Kd.C_drew ?_))); (case side4 => exact HC0_1.out); rintro e w10 ⟨rfl, hb⟩; refine ⟨_, rfl, ?_⟩; have n0_ := Aside0.mk (blk_below (g := gb1147) (o := .cells #[.slice A0_0 l0_0.length c0_0, .slice A0_1 l0_1.length c0_1, .int .i64 a0_2, .bool a0_3] 25 (0, 0)) (by (with_reducible repeat (first | refine blk_drewN ?_ _ | refine blk_drew ?_ | refine blk_alloc ?_ _)); exact BK1147.out) hb); have n1_ := Aside0.mk (blk_below (g := gb1148) (o := .cells #[.slice none 0 0, .slice none 0 0, .int .i64 0, .bool false] 25 (0, 0)) (by (with_reducible repeat (first | refine blk_drewN ?_ _ | refine blk_drew ?_ | refine blk_alloc ?_ _)); exact BK1148.out) hb); have n2_ := Aside0.mk (below_step (by repeat (first | (with_reducible first | exact HB.out | apply below_alloc | apply pw_below_drewN | apply below_drew1 | refine below_set ?_ GE1147.out | refine below_set ?_ GE1148.out) | exact HB.out)) hb); clear BK1147; clear BK1148; clear HB; have BK1147 := n0_; have BK1148 := n1_; have HB := n2_; clear n0_ n1_ n2_; (try clear hb); (try clear hb2); (try clear hk); (try clear hi)) | ((with_reducible refine gate_dst (N := 11) rfl ?_); refine Kd.R_lit (Kd.int .u8) _ 5 ?hg (N := 11) ?hd (xs := ([] : List Int)) (inner := []) (ok := fun _ => True) (okp := fun _ => True) ?hr ?hp (fun _ hk => hk) trivial (Below.refl _ _) (Nat.le_refl _) (by simp) ?_; (case hd => rfl); (case hg => rfl); (case hr => first | (go_simp; done) | (go_simp; rfl)); (case hp => exact (Reps.none _ _)); intro v1151 w11 ho12 hb hg_ hnew_; clear hg_ hnew_; (first | rw [← Ny1150.out] at ho12 | (simp only [Int.reduceToNat] at ho12; rw [← Ny1150.out] at ho12)); have n0_ := Aside0.mk (Kd.R_lower ho12 (below_size (by repeat (first | (with_reducible first | exact HB.out | apply below_alloc | apply pw_below_drewN | apply below_drew1 | refine below_set ?_ GE1147.out | refine below_set ?_ GE1148.out) | exact HB.out)))); have n1_ := Aside0.mk (blk_below (g := gb1147) (o := .cells #[.slice A0_0 l0_0.length c0_0, .slice A0_1 l0_1.length c0_1, .int .i64 a0_2, .bool a0_3] 25 (0, 0)) (by (with_reducible repeat (first | refine blk_drewN ?_ _ | refine blk_drew ?_ | refine blk_alloc ?_ _)); exact BK1147.out) hb); have n2_ := Aside0.mk (blk_below (g := gb1148) (o := .cells #[.slice none 0 0, .slice none 0 0, .int .i64 0, .bool false] 25 (0, 0)) (by (with_reducible repeat (first | refine blk_drewN ?_ _ | refine blk_drew ?_ | refine blk_alloc ?_ _)); exact BK1148.out) hb); have n3_ := Aside0.mk (below_step (by repeat (first | (with_reducible first | exact HB.out | apply below_alloc | apply pw_below_drewN | apply below_drew1 | refine below_set ?_ GE1147.out | refine below_set ?_ GE1148.out) | exact HB.out)) hb); clear BK1147; clear BK1148; clear HB; have HO1152 := n0_; have BK1147 := n1_; have BK1148 := n2_; have HB := n3_; clear n0_ n1_ n2_ n3_; clear hb ho12; have hcz13_0 : w11.cell? ⟨gb1147, 0, none⟩ = some (.slice A0_0 l0_0.length c0_0) := (blk_cell BK1147.out 0).trans rfl; have hcz13_1 : w11.cell? ⟨gb1147, 1, none⟩ = some (.slice A0_1 l0_1.length c0_1) := (blk_cell BK1147.out 1).trans rfl; have hcz13_2 : w11.cell? ⟨gb1147, 2, none⟩ = some (.int .i64 a0_2) := (blk_cell BK1147.out 2).trans rfl; have hcz13_3 : w11.cell? ⟨gb1147, 3, none⟩ = some (.bool a0_3) := (blk_cell BK1147.out 3).trans rfl; have hfz13_0 := blk_frozen BK1147.out 0; have hfz13_1 := blk_frozen BK1147.out 1; have hfz13_2 := blk_frozen BK1147.out 2; have hfz13_3 := blk_frozen BK1147.out 3) | ((with_reducible refine gate_builtin (b := .append) (xs := #[.tmp 11, .tmp 13]) rfl ?_); at_builtin; refine Kd.R_append_rows (Kd.int .u8) (w0 := w) w.heap.size rfl (.tmp 11) (.tmp 13) 22 5 (.int .u8 0) 1 rfl Try.underlying22 info5 rfl (by decide) (by omega) v1151 y1150 l0_0 _ _ _ (fun _ => True) (fun _ => False) rfl rfl ?aO ?aR (fun _ _ h => h) (fun _ h => h.elim) ?aF ?aB ?aS ?aL ?_; (case aR => repeat (first | exact (Kd.C_below HR0_0.out HB.out) | (with_reducible refine Kd.C_alloc ?_ _) | (with_reducible refine Kd.C_drewN ?_ _) | (with_reducible refine Kd.C_drew ?_))); (case aB => exact (by repeat (first | (with_reducible first | exact HB.out | apply below_alloc | apply pw_below_drewN | apply below_drew1 | refine below_set ?_ GE1147.out | refine below_set ?_ GE1148.out) | exact HB.out))); (case aF => exact (fun _ _ => trivial)); (case aO => exact (by (with_reducible repeat (first | apply Kd.R_alloc | apply Kd.R_drewN | apply Kd.R_drew)); exact HO1152.out)); (case aS => exact (below_size (by repeat (first | (with_reducible first | exact HB.out | apply below_alloc | apply pw_below_drewN | apply below_drew1 | refine below_set ?_ GE1147.out | refine below_set ?_ GE1148.out) | exact HB.out)))); (case aL => have := LMc5.out; omega); intro v1154 w14 ho hb hg hat; rw [← Ny1153.out] at ho; have n0_ := Aside0.mk (blk_grown (g := gb1147) (o := .cells #[.slice A0_0 l0_0.length c0_0, .slice A0_1 l0_1.length c0_1, .int .i64 a0_2, .bool a0_3] 25 (0, 0)) (by (with_reducible repeat (first | refine blk_drewN ?_ _ | refine blk_drew ?_ | refine blk_alloc ?_ _)); exact BK1147.out) hg (Kd.R_ne HO1152.out BK1147.out (by decide))); have n1_ := Aside0.mk (blk_grown (g := gb1148) (o := .cells #[.slice none 0 0, .slice none 0 0, .int .i64 0, .bool false] 25 (0, 0)) (by (with_reducible repeat (first | refine blk_drewN ?_ _ | refine blk_drew ?_ | refine blk_alloc ?_ _)); exact BK1148.out) hg (Kd.R_ne HO1152.out BK1148.out (by decide))); have n2_ := Aside0.mk (hb); have n3_ := Aside0.mk (ho); clear BK1147; clear BK1148; clear HB; clear HO1152; have BK1147 := n0_; have BK1148 := n1_; have HB := n2_; have HO1155 := n3_; clear n0_ n1_ n2_ n3_; clear ho hb hg hat))
   go_loopg [5, 6] k (fun kq v5 v6 w' => ∃ (x5_1 : List Int) (x6_1 : Int), v6 = .int .i64 x6_1 ∧ Aside0 (spec_DiskCrash.l0 kq l1 x5_1 x6_1 l0_0 l0_1 a0_2 a0_3 = some (r1, r2, r3, r4)) ∧ Aside0 (kq ≤ k) ∧ Aside0 (Kd.R (Kd.int .u8) 5 w' w.heap.size (fun _ => True) v5 x5_1) ∧ Aside0 (w'.heap[gb1147]? = some (.cells #[(.slice A0_0 l0_0.length c0_0), (.slice A0_1 l0_1.length c0_1), .int .i64 a0_2, .bool a0_3] 25 (0, 0))) ∧ Aside0 (w'.heap[gb1148]? = some (.cells #[(.slice none 0 0), (.slice none 0 0), .int .i64 0, .bool false] 25 (0, 0))) ∧ Aside0 (Below w.heap.size w w'))
   case atStart => exact ⟨(y1153), (0), (by first | rfl | (simp; done) | (simp [*]; done)), H', ⟨Nat.le_refl _⟩, ⟨by (with_reducible repeat (first | apply Kd.R_alloc | apply Kd.R_drewN | apply Kd.R_drew)); exact HO1155.out⟩, ⟨by (with_reducible repeat (first | refine blk_drewN ?_ _ | refine blk_drew ?_ | refine blk_alloc ?_ _)); exact BK1147.out⟩, ⟨by (with_reducible repeat (first | refine blk_drewN ?_ _ | refine blk_drew ?_ | refine blk_alloc ?_ _)); exact BK1148.out⟩, ⟨by repeat (first | (with_reducible first | exact HB.out | apply below_alloc | apply pw_below_drewN | apply below_drew1 | refine below_set ?_ GE1147.out | refine below_set ?_ GE1148.out) | exact HB.out)⟩⟩
   case round =>
    clear H'
    try clear c1
    try clear p2
    try clear c4
    try clear c5
    try clear c8
    try clear c11
    try clear c14
    try clear hcz13_0
    try clear hcz13_1
    try clear hcz13_2
    try clear hcz13_3
    try clear hcz9_0
    try clear hcz9_1
    try clear hcz9_2
    try clear hcz9_3
    try clear hfz13_0
    try clear hfz13_1
    try clear hfz13_2
    try clear hfz13_3
    try clear hfz9_0
    try clear hfz9_1
    try clear hfz9_2
    try clear hfz9_3
    obtain ⟨x5_1, x6_1, rfl, HA, HK1, HO_5, BK1147, BK1148, HB⟩ := hrel
    cases gk with
    | zero => exact absurd HA.out (by simp [spec_DiskCrash.l0])
    | succ k1 =>
      have H := HA.out
      clear HA
      simp only [spec_DiskCrash.l0] at H
      by_cases c15 : x6_1 < (l0_1.length : Int)
      ·rw [if_pos c15] at H
       have c15b0 : decide (x6_1 < (l0_1.length : Int)) = true := decide_eq_true c15
       clear c15
       by_cases c16 : x6_1 < (l1.length : Int)
       ·rw [if_pos c16] at H
        have c16b0 : decide (x6_1 < (l1.length : Int)) = true := decide_eq_true c16
        clear c16
        by_cases c17 : 0 ≤ x6_1
        ·rw [if_pos c17] at H
         have c17b0 : decide (0 ≤ x6_1) = true := decide_eq_true c17
         clear c17
         obtain ⟨bq18, hbq18⟩ : ∃ b_ : Bool, b_ = (rdOf false l1 x6_1) := ⟨_, rfl⟩
         replace H : (if bq18 = true then ((spec_l1Over.f x5_1 ((rd_T79 l0_1 x6_1).f0) ((rd_T79 l0_1 x6_1).f1)).bind fun t1159 => (spec_DiskCrash.l0 k1 l1 t1159 (wrap64 (x6_1 + 1)) l0_0 l0_1 a0_2 a0_3)) else (spec_DiskCrash.l0 k1 l1 x5_1 (wrap64 (x6_1 + 1)) l0_0 l0_1 a0_2 a0_3)) = some (r1, r2, r3, r4) := by rw [← hbq18] at H; exact H
         have Nbq18 := Aside0.mk hbq18
         clear hbq18
         by_cases c19 : bq18 = true
         ·subst c19
          have H1 : ((spec_l1Over.f x5_1 ((rd_T79 l0_1 x6_1).f0) ((rd_T79 l0_1 x6_1).f1)).bind fun t1159 => (spec_DiskCrash.l0 k1 l1 t1159 (wrap64 (x6_1 + 1)) l0_0 l0_1 a0_2 a0_3)) = some (r1, r2, r3, r4) := by rw [if_pos rfl] at H; exact H
          clear H
          have H := H1
          clear H1
          replace H := Option.bind_eq_some_iff.mp H
          obtain ⟨t1159, A200, H⟩ := H
          replace H : (spec_DiskCrash.l0 k1 l1 t1159 (wrap64 (x6_1 + 1)) l0_0 l0_1 a0_2 a0_3) = some (r1, r2, r3, r4) := H
          have A20 := Aside0.mk A200
          clear A200
          have H' := Aside0.mk H
          clear H
          have hnb21 := NB1147_1148.out
          have hnc21 := NB1148_1147.out
          have hcz22_0 : wr.cell? ⟨gb1147, 0, none⟩ = some (.slice A0_0 l0_0.length c0_0) := (blk_cell BK1147.out 0).trans rfl
          have hcz22_1 : wr.cell? ⟨gb1147, 1, none⟩ = some (.slice A0_1 l0_1.length c0_1) := (blk_cell BK1147.out 1).trans rfl
          have hcz22_2 : wr.cell? ⟨gb1147, 2, none⟩ = some (.int .i64 a0_2) := (blk_cell BK1147.out 2).trans rfl
          have hcz22_3 : wr.cell? ⟨gb1147, 3, none⟩ = some (.bool a0_3) := (blk_cell BK1147.out 3).trans rfl
          have hfz22_0 := blk_frozen BK1147.out 0
          have hfz22_1 := blk_frozen BK1147.out 1
          have hfz22_2 := blk_frozen BK1147.out 2
          have hfz22_3 := blk_frozen BK1147.out 3
          have p1156 : 0 ≤ (x6_1 : Int) := of_decide_eq_true (by first | (with_reducible assumption) | assumption)
          have q1156 : x6_1 < (l1.length : Int) := of_decide_eq_true (by first | (with_reducible assumption) | assumption)
          obtain ⟨ad1156, e1156, hx1156_0⟩ := Kd.at_bool HR1.out x6_1 p1156 q1156
          (try rw [← Nbq18.out] at hx1156_0)
          cases e1156
          replace hx1156_0 := (HB.out.cell (World.block_lt_of_cell? w _ hx1156_0)).trans hx1156_0
          replace p1156 := eq_true p1156
          replace q1156 := eq_true q1156
          try go_wp2
          have n0_ := Aside0.mk (Kd.R_drew HO_5.out)
          have n1_ := Aside0.mk (blk_drew BK1147.out)
          have n2_ := Aside0.mk (blk_drew BK1148.out)
          have n3_ := Aside0.mk (below_drew1 HB.out)
          clear HO_5
          clear BK1147
          clear BK1148
          clear HB
          have HO_5 := n0_
          have BK1147 := n1_
          have BK1148 := n2_
          have HB := n3_
          clear n0_ n1_ n2_ n3_
          have p1157 : 0 ≤ (x6_1 : Int) := of_decide_eq_true (by first | (with_reducible assumption) | assumption)
          have q1157 : x6_1 < (l0_1.length : Int) := of_decide_eq_true (by first | (with_reducible assumption) | assumption)
          obtain ⟨ad1157, A1157_1, c1157_1, e1157, hx1157_0, hx1157_1, hl1157_1, hi1157_1⟩ := at_T79 HR0_1.out x6_1 p1157 q1157
          have hw1157_1 := hx1157_1
          have hw1157_0 := hx1157_0
          cases e1157
          replace hx1157_0 := (HB.out.cell (World.block_lt_of_cell? w _ hx1157_0)).trans hx1157_0
          replace hx1157_1 := (HB.out.cell (World.block_lt_of_cell? w _ hx1157_1)).trans hx1157_1
          have HR1157_1 := Aside0.mk hi1157_1
          have HC1157_1 := Aside0.mk hl1157_1
          clear hi1157_1 hl1157_1
          replace p1157 := eq_true p1157
          replace q1157 := eq_true q1157
          have p1158 : 0 ≤ (x6_1 : Int) := of_decide_eq_true (by first | (with_reducible assumption) | assumption)
          have q1158 : x6_1 < (l0_1.length : Int) := of_decide_eq_true (by first | (with_reducible assumption) | assumption)
          obtain ⟨ad1158, A1158_1, c1158_1, e1158, hx1158_0, hx1158_1, hl1158_1, hi1158_1⟩ := at_T79 HR0_1.out x6_1 p1158 q1158
          have hw1158_1 := hx1158_1
          have hw1158_0 := hx1158_0
          obtain rfl : ad1157 = ad1158 := (by injection e1158)
          replace hx1158_0 := (HB.out.cell (World.block_lt_of_cell? w _ hx1158_0)).trans hx1158_0
          replace hx1158_1 := (HB.out.cell (World.block_lt_of_cell? w _ hx1158_1)).trans hx1158_1
          have HR1158_1 := Aside0.mk hi1158_1
          have HC1158_1 := Aside0.mk hl1158_1
          clear hi1158_1 hl1158_1
          replace p1158 := eq_true p1158
          replace q1158 := eq_true q1158
          have ea_ := Option.some.inj (hx1157_1.symm.trans hx1158_1)
          injection ea_ with ea_ en_ ec_
          subst ea_
          subst ec_
          clear en_
          obtain ⟨Ao24, co24, eo24⟩ := Kd.R_slice HO_5.out
          (first | subst eo24 | (injection eo24 with f1_ f2_ f3_; have f4_ := f1_.symm; have f5_ := f3_.symm; clear f1_ f2_ f3_; subst f4_; subst f5_))
          refine start_ (n := 15) (S := fun w' => w'.cell? ⟨gb1147, 0, none⟩ = some (.slice A0_0 l0_0.length c0_0) ∧ w'.cell? ⟨gb1147, 1, none⟩ = some (.slice (some ad1157) l0_1.length c0_1) ∧ w'.cell? ⟨gb1147, 2, none⟩ = some (.int .i64 a0_2) ∧ w'.cell? ⟨gb1147, 3, none⟩ = some (.bool a0_3) ∧ w'.cell? (ad1157.add ((x6_1).toNat * 2)) = some (.int .i64 ((rd_T79 l0_1 x6_1).f0)) ∧ w'.cell? ⟨(ad1157.add ((x6_1).toNat * 2)).block, (ad1157.add ((x6_1).toNat * 2)).off + 1, none⟩ = some (.slice A1157_1 ((rd_T79 l0_1 x6_1).f1).length c1157_1) ∧ w'.cell? (ad1157.add ((x6_1).toNat * 2)) = some (.int .i64 ((rd_T79 l0_1 x6_1).f0)) ∧ w'.cell? ⟨(ad1157.add ((x6_1).toNat * 2)).block, (ad1157.add ((x6_1).toNat * 2)).off + 1, none⟩ = some (.slice A1157_1 ((rd_T79 l0_1 x6_1).f1).length c1157_1)) (ds := []) #[false, false, false, false, false, false, false, false, false, false, false, false, false, false, false] (by kernel_rfl) rfl rfl ⟨(blk_cell BK1147.out 0).trans rfl, (blk_cell BK1147.out 1).trans rfl, (blk_cell BK1147.out 2).trans rfl, (blk_cell BK1147.out 3).trans rfl, ((HB.out.cell (World.block_lt_of_cell? w _ hw1157_0)).trans hw1157_0), ((HB.out.cell (World.block_lt_of_cell? w _ hw1157_1)).trans hw1157_1), ((HB.out.cell (World.block_lt_of_cell? w _ hw1158_0)).trans hw1158_0), ((HB.out.cell (World.block_lt_of_cell? w _ hw1158_1)).trans hw1158_1)⟩ (fun hHeld => ?_); refine with_tabW spec_DiskCrash.tab8 spec_DiskCrash.bits8 (fun HT_ HW_ => ?_)
          generalize wr.drew = w23 at HO_5 BK1147 BK1148 HB HR1157_1 HR1158_1 hx1157_0 hx1157_1 hx1158_0 hx1158_1 hHeld ⊢
          refine pure_ (i := 0) (N := some 32) (v := ?_) (a' := ?_) #[true, false, false, false, false, false, false, false, false, false, false, false, false, false, false] rfl rfl (any_of HT_.out (by kernel_rfl)) (fun _ _ _ h => h) (Or.inl ⟨by rfl, ?_⟩) ?_ ?_
          rotate_left
          · intro w'
            go_simp
            with_reducible rfl
          rotate_left
          · simp only [Act.put, List.setIfInBounds_toArray, List.set_cons_zero, List.set_cons_succ, i64_w, i32_w]
            rfl
          refine pure_ (i := 1) (N := some 33) (v := ?_) (a' := ?_) #[true, true, false, false, false, false, false, false, false, false, false, false, false, false, false] rfl rfl (any_of HT_.out (by kernel_rfl)) (fun _ _ _ h => h) (Or.inl ⟨by rfl, ?_⟩) ?_ ?_
          rotate_left
          · intro w'
            go_simp
            with_reducible rfl
          rotate_left
          · simp only [Act.put, List.setIfInBounds_toArray, List.set_cons_zero, List.set_cons_succ, i64_w, i32_w]
            rfl
          refine pure_ (i := 3) (N := some 35) (v := ?_) (a' := ?_) #[true, true, false, true, false, false, false, false, false, false, false, false, false, false, false] rfl rfl (any_of HT_.out (by kernel_rfl)) (fun _ _ _ h => h) (Or.inl ⟨by rfl, ?_⟩) ?_ ?_
          rotate_left
          · intro w'
            go_simp
            with_reducible rfl
          rotate_left
          · simp only [Act.put, List.setIfInBounds_toArray, List.set_cons_zero, List.set_cons_succ, i64_w, i32_w]
            rfl
          refine pure_ (i := 7) (N := some 39) (v := ?_) (a' := ?_) #[true, true, false, true, false, false, false, true, false, false, false, false, false, false, false] rfl rfl (any_of HT_.out (by kernel_rfl)) (fun _ _ _ h => h) (Or.inl ⟨by rfl, ?_⟩) ?_ ?_
          rotate_left
          · intro w'
            go_simp
            with_reducible rfl
          rotate_left
          · simp only [Act.put, List.setIfInBounds_toArray, List.set_cons_zero, List.set_cons_succ, i64_w, i32_w]
            rfl
          refine pure_ (i := 9) (N := some 41) (v := ?_) (a' := ?_) #[true, true, false, true, false, false, false, true, false, true, false, false, false, false, false] rfl rfl (any_of HT_.out (by kernel_rfl)) (fun _ _ _ h => h) (Or.inl ⟨by rfl, ?_⟩) ?_ ?_
          rotate_left
          · intro w'
            go_simp
            with_reducible rfl
          rotate_left
          · simp only [Act.put, List.setIfInBounds_toArray, List.set_cons_zero, List.set_cons_succ, i64_w, i32_w]
            rfl
          refine take_ (i := 2) (N := some 34) (v := ?_) (a' := ?_) #[true, true, true, true, false, false, false, true, false, true, false, false, false, false, false] rfl rfl (take_ofW HT_.out HW_.out (by kernel_rfl)) (fun _ _ _ h => h) (Or.inl ⟨by rfl, ?_⟩) hHeld ?_ ?_
          rotate_left
          · rintro w' ⟨s0, s1, s2, s3, s4, s5, s6, s7⟩
            go_simp
            with_reducible rfl
          rotate_left
          · simp only [Act.put, List.setIfInBounds_toArray, List.set_cons_zero, List.set_cons_succ, i64_w, i32_w]
            rfl
          refine pure_ (i := 4) (N := some 36) (v := ?_) (a' := ?_) #[true, true, true, true, true, false, false, true, false, true, false, false, false, false, false] rfl rfl (any_of HT_.out (by kernel_rfl)) (fun _ _ _ h => h) (Or.inl ⟨by rfl, ?_⟩) ?_ ?_
          rotate_left
          · intro w'
            go_simp
            with_reducible rfl
          rotate_left
          · simp only [Act.put, List.setIfInBounds_toArray, List.set_cons_zero, List.set_cons_succ, i64_w, i32_w]
            rfl
          refine pure_ (i := 5) (N := some 37) (v := ?_) (a' := ?_) #[true, true, true, true, true, true, false, true, false, true, false, false, false, false, false] rfl rfl (any_of HT_.out (by kernel_rfl)) (fun _ _ _ h => h) (Or.inl ⟨by rfl, ?_⟩) ?_ ?_
          rotate_left
          · intro w'
            go_simp
            with_reducible rfl
          rotate_left
          · simp only [Act.put, List.setIfInBounds_toArray, List.set_cons_zero, List.set_cons_succ, i64_w, i32_w]
            rfl
          refine take_ (i := 6) (N := some 38) (v := ?_) (a' := ?_) #[true, true, true, true, true, true, true, true, false, true, false, false, false, false, false] rfl rfl (take_ofW HT_.out HW_.out (by kernel_rfl)) (fun _ _ _ h => h) (Or.inl ⟨by rfl, ?_⟩) hHeld ?_ ?_
          rotate_left
          · rintro w' ⟨s0, s1, s2, s3, s4, s5, s6, s7⟩
            go_simp
            with_reducible rfl
          rotate_left
          · simp only [Act.put, List.setIfInBounds_toArray, List.set_cons_zero, List.set_cons_succ, i64_w, i32_w]
            rfl
          refine take_ (i := 8) (N := some 40) (v := ?_) (a' := ?_) #[true, true, true, true, true, true, true, true, true, true, false, false, false, false, false] rfl rfl (take_ofW HT_.out HW_.out (by kernel_rfl)) (fun _ _ _ h => h) (Or.inl ⟨by rfl, ?_⟩) hHeld ?_ ?_
          rotate_left
          · rintro w' ⟨s0, s1, s2, s3, s4, s5, s6, s7⟩
            go_simp
            with_reducible rfl
          rotate_left
          · simp only [Act.put, List.setIfInBounds_toArray, List.set_cons_zero, List.set_cons_succ, i64_w, i32_w]
            rfl
          refine pure_ (i := 10) (N := some 42) (v := ?_) (a' := ?_) #[true, true, true, true, true, true, true, true, true, true, true, false, false, false, false] rfl rfl (any_of HT_.out (by kernel_rfl)) (fun _ _ _ h => h) (Or.inl ⟨by rfl, ?_⟩) ?_ ?_
          rotate_left
          · intro w'
            go_simp
            with_reducible rfl
          rotate_left
          · simp only [Act.put, List.setIfInBounds_toArray, List.set_cons_zero, List.set_cons_succ, i64_w, i32_w]
            rfl
          refine pure_ (i := 11) (N := some 43) (v := ?_) (a' := ?_) #[true, true, true, true, true, true, true, true, true, true, true, true, false, false, false] rfl rfl (any_of HT_.out (by kernel_rfl)) (fun _ _ _ h => h) (Or.inl ⟨by rfl, ?_⟩) ?_ ?_
          rotate_left
          · intro w'
            go_simp
            with_reducible rfl
          rotate_left
          · simp only [Act.put, List.setIfInBounds_toArray, List.set_cons_zero, List.set_cons_succ, i64_w, i32_w]
            rfl
          refine take_ (i := 12) (N := some 44) (v := ?_) (a' := ?_) #[true, true, true, true, true, true, true, true, true, true, true, true, true, false, false] rfl rfl (take_ofW HT_.out HW_.out (by kernel_rfl)) (fun _ _ _ h => h) (Or.inl ⟨by rfl, ?_⟩) hHeld ?_ ?_
          rotate_left
          · rintro w' ⟨s0, s1, s2, s3, s4, s5, s6, s7⟩
            go_simp
            with_reducible rfl
          rotate_left
          · simp only [Act.put, List.setIfInBounds_toArray, List.set_cons_zero, List.set_cons_succ, i64_w, i32_w]
            rfl
          refine one_ (i := 13) (N := some 45) #[true, true, true, true, true, true, true, true, true, true, true, true, true, true, false] rfl rfl (one_of HT_.out (by kernel_rfl)) (by decide) (fun K hK => ?_)
          refine goes_ Try.func54 (by kernel_rfl) rfl #[.slice Ao24 x5_1.length co24, .int .i64 ((rd_T79 l0_1 x6_1).f0), .slice A1157_1 ((rd_T79 l0_1 x6_1).f1).length c1157_1] (by rfl) rfl rfl (by (try simp only [List.map_toArray, List.map_cons, List.map_nil]); first | done | rfl | (simp only [List.length_drop, List.length_take]; rfl)) ?_
          with_reducible refine (spec_l1Over.calls _ _ x5_1 ((rd_T79 l0_1 x6_1).f0) _ _ ((rd_T79 l0_1 x6_1).f1) t1159 _ ?side1 ?side2 ?side3 ?side4 A20.out).mono ?_
          (case side1 => repeat (first | exact (Kd.R_reads' HO_5.out).2.2 | (with_reducible refine Kd.C_alloc ?_ _) | (with_reducible refine Kd.C_drewN ?_ _) | (with_reducible refine Kd.C_drew ?_)))
          (case side2 => exact (Kd.R_reads' HO_5.out).2.1)
          (case side3 => repeat (first | exact (Kd.C_below HR1158_1.out HB.out) | (with_reducible refine Kd.C_alloc ?_ _) | (with_reducible refine Kd.C_drewN ?_ _) | (with_reducible refine Kd.C_drew ?_)))
          (case side4 => exact HC1158_1.out)
          rintro e w25 ⟨v1160, rfl, ho0, hb⟩
          refine ⟨_, rfl, ?_⟩
          have n0_ := Aside0.mk (Kd.R_elder' (by (with_reducible repeat (first | apply Kd.R_alloc | apply Kd.R_drewN | apply Kd.R_drew)); exact HO_5.out) (Kd.R_base ho0) hb)
          have n1_ := Aside0.mk (Kd.R_lower (Kd.R_new' ho0 (Kd.R_lt (by (with_reducible repeat (first | apply Kd.R_alloc | apply Kd.R_drewN | apply Kd.R_drew)); exact HO_5.out))) (below_size (by repeat (first | (with_reducible first | exact HB.out | apply below_alloc | apply pw_below_drewN | apply below_drew1 | refine below_set ?_ GE1147.out | refine below_set ?_ GE1148.out) | exact HB.out))))
          have n2_ := Aside0.mk (blk_below (g := gb1147) (o := .cells #[.slice A0_0 l0_0.length c0_0, .slice (some ad1157) l0_1.length c0_1, .int .i64 a0_2, .bool a0_3] 25 (0, 0)) (by (with_reducible repeat (first | refine blk_drewN ?_ _ | refine blk_drew ?_ | refine blk_alloc ?_ _)); exact BK1147.out) hb)
          have n3_ := Aside0.mk (blk_below (g := gb1148) (o := .cells #[.slice none 0 0, .slice none 0 0, .int .i64 0, .bool false] 25 (0, 0)) (by (with_reducible repeat (first | refine blk_drewN ?_ _ | refine blk_drew ?_ | refine blk_alloc ?_ _)); exact BK1148.out) hb)
          have n4_ := Aside0.mk (below_step (by repeat (first | (with_reducible first | exact HB.out | apply below_alloc | apply pw_below_drewN | apply below_drew1 | refine below_set ?_ GE1147.out | refine below_set ?_ GE1148.out) | exact HB.out)) hb)
          clear HO_5
          clear BK1147
          clear BK1148
          clear HB
          have HO_5 := n0_
          have HO1161 := n1_
          have BK1147 := n2_
          have BK1148 := n3_
          have HB := n4_
          clear n0_ n1_ n2_ n3_ n4_
          (try clear hb)
          (try clear hb2)
          (try clear hk)
          (try clear hi)
          (try clear ho0)
          refine hK.out _ _ ⟨(blk_cell BK1147.out 0).trans rfl, (blk_cell BK1147.out 1).trans rfl, (blk_cell BK1147.out 2).trans rfl, (blk_cell BK1147.out 3).trans rfl, ((HB.out.cell (World.block_lt_of_cell? w _ hw1157_0)).trans hw1157_0), ((HB.out.cell (World.block_lt_of_cell? w _ hw1157_1)).trans hw1157_1), ((HB.out.cell (World.block_lt_of_cell? w _ hw1158_0)).trans hw1158_0), ((HB.out.cell (World.block_lt_of_cell? w _ hw1158_1)).trans hw1158_1)⟩ (fun hHeld => ?_)
          clear hK K
          refine norm_ (a' := ?_) ?_ ?_
          rotate_left
          · show Act.put _ (some 45) _ = _
            simp only [Act.put, List.setIfInBounds_toArray, List.set_cons_zero, List.set_cons_succ, i64_w, i32_w]
            rfl
          refine pure_ (i := 14) (N := some 5) (v := ?_) (a' := ?_) #[true, true, true, true, true, true, true, true, true, true, true, true, true, true, true] rfl rfl (any_of HT_.out (by kernel_rfl)) (fun _ _ _ h => h) (Or.inl ⟨by rfl, ?_⟩) ?_ ?_
          rotate_left
          · intro w'
            go_simp
            with_reducible rfl
          rotate_left
          · simp only [Act.put, List.setIfInBounds_toArray, List.set_cons_zero, List.set_cons_succ, i64_w, i32_w]
            rfl
          refine done_ (done_of HT_.out (by kernel_rfl)) ?_
          try go_wp2
          go_roundg k1
          case measure => have := HK1.out; omega
          case rel => exact ⟨(t1159), (wrap64 (x6_1 + 1)), (by first | rfl | (simp; done) | (simp [*]; done)), H', ⟨by have := HK1.out; omega⟩, ⟨by (with_reducible repeat (first | apply Kd.R_alloc | apply Kd.R_drewN | apply Kd.R_drew)); exact Kd.R_mono HO1161.out (fun _ hk => trivial)⟩, ⟨by (with_reducible repeat (first | refine blk_drewN ?_ _ | refine blk_drew ?_ | refine blk_alloc ?_ _)); exact BK1147.out⟩, ⟨by (with_reducible repeat (first | refine blk_drewN ?_ _ | refine blk_drew ?_ | refine blk_alloc ?_ _)); exact BK1148.out⟩, ⟨by repeat (first | (with_reducible first | exact HB.out | apply below_alloc | apply pw_below_drewN | apply below_drew1 | refine below_set ?_ GE1147.out | refine below_set ?_ GE1148.out) | exact HB.out)⟩⟩
         ·replace c19 := Bool.eq_false_iff.mpr c19
          subst c19
          have H1 : (spec_DiskCrash.l0 k1 l1 x5_1 (wrap64 (x6_1 + 1)) l0_0 l0_1 a0_2 a0_3) = some (r1, r2, r3, r4) := by rw [if_neg (show ¬ (false = true) by decide)] at H; exact H
          clear H
          have H := H1
          clear H1
          have H' := Aside0.mk H
          clear H
          have hnb26 := NB1147_1148.out
          have hnc26 := NB1148_1147.out
          have hcz27_0 : wr.cell? ⟨gb1147, 0, none⟩ = some (.slice A0_0 l0_0.length c0_0) := (blk_cell BK1147.out 0).trans rfl
          have hcz27_1 : wr.cell? ⟨gb1147, 1, none⟩ = some (.slice A0_1 l0_1.length c0_1) := (blk_cell BK1147.out 1).trans rfl
          have hcz27_2 : wr.cell? ⟨gb1147, 2, none⟩ = some (.int .i64 a0_2) := (blk_cell BK1147.out 2).trans rfl
          have hcz27_3 : wr.cell? ⟨gb1147, 3, none⟩ = some (.bool a0_3) := (blk_cell BK1147.out 3).trans rfl
          have hfz27_0 := blk_frozen BK1147.out 0
          have hfz27_1 := blk_frozen BK1147.out 1
          have hfz27_2 := blk_frozen BK1147.out 2
          have hfz27_3 := blk_frozen BK1147.out 3
          have p1156 : 0 ≤ (x6_1 : Int) := of_decide_eq_true (by first | (with_reducible assumption) | assumption)
          have q1156 : x6_1 < (l1.length : Int) := of_decide_eq_true (by first | (with_reducible assumption) | assumption)
          obtain ⟨ad1156, e1156, hx1156_0⟩ := Kd.at_bool HR1.out x6_1 p1156 q1156
          (try rw [← Nbq18.out] at hx1156_0)
          cases e1156
          replace hx1156_0 := (HB.out.cell (World.block_lt_of_cell? w _ hx1156_0)).trans hx1156_0
          replace p1156 := eq_true p1156
          replace q1156 := eq_true q1156
          go_wp2
          go_roundg k1
          case measure => have := HK1.out; omega
          case rel => exact ⟨(x5_1), (wrap64 (x6_1 + 1)), (by first | rfl | (simp; done) | (simp [*]; done)), H', ⟨by have := HK1.out; omega⟩, ⟨by (with_reducible repeat (first | apply Kd.R_alloc | apply Kd.R_drewN | apply Kd.R_drew)); exact HO_5.out⟩, ⟨by (with_reducible repeat (first | refine blk_drewN ?_ _ | refine blk_drew ?_ | refine blk_alloc ?_ _)); exact BK1147.out⟩, ⟨by (with_reducible repeat (first | refine blk_drewN ?_ _ | refine blk_drew ?_ | refine blk_alloc ?_ _)); exact BK1148.out⟩, ⟨by repeat (first | (with_reducible first | exact HB.out | apply below_alloc | apply pw_below_drewN | apply below_drew1 | refine below_set ?_ GE1147.out | refine below_set ?_ GE1148.out) | exact HB.out)⟩⟩
        ·rw [if_neg c17] at H
         exact absurd H (by simp)
       ·rw [if_neg c16] at H
        have c16b0 : decide (x6_1 < (l1.length : Int)) = false := decide_eq_false c16
        clear c16
        have H' := Aside0.mk H
        clear H
        have hnb28 := NB1147_1148.out
        have hnc28 := NB1148_1147.out
        have hcz29_0 : wr.cell? ⟨gb1147, 0, none⟩ = some (.slice A0_0 l0_0.length c0_0) := (blk_cell BK1147.out 0).trans rfl
        have hcz29_1 : wr.cell? ⟨gb1147, 1, none⟩ = some (.slice A0_1 l0_1.length c0_1) := (blk_cell BK1147.out 1).trans rfl
        have hcz29_2 : wr.cell? ⟨gb1147, 2, none⟩ = some (.int .i64 a0_2) := (blk_cell BK1147.out 2).trans rfl
        have hcz29_3 : wr.cell? ⟨gb1147, 3, none⟩ = some (.bool a0_3) := (blk_cell BK1147.out 3).trans rfl
        have hfz29_0 := blk_frozen BK1147.out 0
        have hfz29_1 := blk_frozen BK1147.out 1
        have hfz29_2 := blk_frozen BK1147.out 2
        have hfz29_3 := blk_frozen BK1147.out 3
        go_wp2
        go_roundg k1
        case measure => have := HK1.out; omega
        case rel => exact ⟨(x5_1), (wrap64 (x6_1 + 1)), (by first | rfl | (simp; done) | (simp [*]; done)), H', ⟨by have := HK1.out; omega⟩, ⟨by (with_reducible repeat (first | apply Kd.R_alloc | apply Kd.R_drewN | apply Kd.R_drew)); exact HO_5.out⟩, ⟨by (with_reducible repeat (first | refine blk_drewN ?_ _ | refine blk_drew ?_ | refine blk_alloc ?_ _)); exact BK1147.out⟩, ⟨by (with_reducible repeat (first | refine blk_drewN ?_ _ | refine blk_drew ?_ | refine blk_alloc ?_ _)); exact BK1148.out⟩, ⟨by repeat (first | (with_reducible first | exact HB.out | apply below_alloc | apply pw_below_drewN | apply below_drew1 | refine below_set ?_ GE1147.out | refine below_set ?_ GE1148.out) | exact HB.out)⟩⟩
      ·rw [if_neg c15] at H
       have c15b0 : decide (x6_1 < (l0_1.length : Int)) = false := decide_eq_false c15
       clear c15
       simp only [Option.some.injEq, Prod.mk.injEq] at H
       obtain ⟨rfl, rfl, rfl, rfl⟩ := H
       have hnb30 := NB1147_1148.out
       have hnc30 := NB1148_1147.out
       have hcz31_0 : wr.cell? ⟨gb1147, 0, none⟩ = some (.slice A0_0 l0_0.length c0_0) := (blk_cell BK1147.out 0).trans rfl
       have hcz31_1 : wr.cell? ⟨gb1147, 1, none⟩ = some (.slice A0_1 l0_1.length c0_1) := (blk_cell BK1147.out 1).trans rfl
       have hcz31_2 : wr.cell? ⟨gb1147, 2, none⟩ = some (.int .i64 a0_2) := (blk_cell BK1147.out 2).trans rfl
       have hcz31_3 : wr.cell? ⟨gb1147, 3, none⟩ = some (.bool a0_3) := (blk_cell BK1147.out 3).trans rfl
       have hfz31_0 := blk_frozen BK1147.out 0
       have hfz31_1 := blk_frozen BK1147.out 1
       have hfz31_2 := blk_frozen BK1147.out 2
       have hfz31_3 := blk_frozen BK1147.out 3
       obtain ⟨Ao32, co32, eo32⟩ := Kd.R_slice HO_5.out
       subst eo32
       have hcz33_0 : wr.cell? ⟨gb1148, 0, none⟩ = some (.slice none 0 0) := (blk_cell BK1148.out 0).trans rfl
       have hcz33_1 : wr.cell? ⟨gb1148, 1, none⟩ = some (.slice none 0 0) := (blk_cell BK1148.out 1).trans rfl
       have hcz33_2 : wr.cell? ⟨gb1148, 2, none⟩ = some (.int .i64 0) := (blk_cell BK1148.out 2).trans rfl
       have hcz33_3 : wr.cell? ⟨gb1148, 3, none⟩ = some (.bool false) := (blk_cell BK1148.out 3).trans rfl
       have hfz33_0 := blk_frozen BK1148.out 0
       have hfz33_1 := blk_frozen BK1148.out 1
       have hfz33_2 := blk_frozen BK1148.out 2
       have hfz33_3 := blk_frozen BK1148.out 3
       go_wp2
       refine bodyPost_ret (results_cell_row rfl _ _ gb1148 25 #[.slice Ao32 x5_1.length co32, .slice none 0 0, .int .i64 (-1), .bool false] (0, 0) _ rfl (by (with_reducible repeat (first | refine blk_drewN ?_ _ | refine blk_drew ?_ | refine blk_alloc ?_ _)); refine blk_put (cs := #[.slice Ao32 x5_1.length co32, .slice none 0 0, .int .i64 (-1), .bool false]) ?_ 3 _ rfl; (with_reducible repeat (first | refine blk_drewN ?_ _ | refine blk_drew ?_ | refine blk_alloc ?_ _)); refine blk_put (cs := #[.slice Ao32 x5_1.length co32, .slice none 0 0, .int .i64 0, .bool false]) ?_ 2 _ rfl; (with_reducible repeat (first | refine blk_drewN ?_ _ | refine blk_drew ?_ | refine blk_alloc ?_ _)); refine blk_put (cs := #[.slice Ao32 x5_1.length co32, .slice none 0 0, .int .i64 0, .bool false]) ?_ 1 _ rfl; (with_reducible repeat (first | refine blk_drewN ?_ _ | refine blk_drew ?_ | refine blk_alloc ?_ _)); refine blk_put (cs := #[.slice none 0 0, .slice none 0 0, .int .i64 0, .bool false]) ?_ 0 _ rfl; (with_reducible repeat (first | refine blk_drewN ?_ _ | refine blk_drew ?_ | refine blk_alloc ?_ _)); exact BK1148.out) Try.underlying25 rfl (by kernel_rfl)) rfl ?_
       exact ⟨_, _, by first | rfl | (simp [errW_none, errW_some] <;> rfl) | (simp [*, errW_none, errW_some] <;> rfl), by (with_reducible repeat (first | apply Kd.R_alloc | apply Kd.R_drewN | apply Kd.R_drew)); exact Kd.R_mono (Kd.R_far (p := ⟨gb1148, 3, none⟩) (Kd.R_far (p := ⟨gb1148, 2, none⟩) (Kd.R_far (p := ⟨gb1148, 1, none⟩) (Kd.R_far (p := ⟨gb1148, 0, none⟩) (Kd.R_types HO_5.out BK1148.out (by decide)) (fun _ hk => hk.2) (.slice Ao32 x5_1.length co32)) (fun _ hk => hk.2) (.slice none 0 0)) (fun _ hk => hk.2) (.int .i64 (-1))) (fun _ hk => hk.2) (.bool false)) (fun _ hk => trivial), by first | exact Kd.S_nil _ _ _ _ _ | exact Kd.N_nil _ _ _ _ _ | exact Kd.V_nil _ _ _ _ _ | exact Kd.Q_nil _ _ _ _ _ | exact Kd.R_nil _ _ _ _ _, by repeat (first | (with_reducible first | exact HB.out | apply below_alloc | apply pw_below_drewN | apply below_drew1 | refine below_set ?_ GE1147.out | refine below_set ?_ GE1148.out) | exact HB.out)⟩
  ·rw [if_neg c5] at H
   exact absurd H (by simp)
 ·replace c4 := Bool.eq_false_iff.mpr c4
  subst c4
  have H1 : (some (([] : List Int), ([] : List (S79)), 0, false)) = some (r1, r2, r3, r4) := by rw [if_neg (show ¬ (false = true) by decide)] at H; exact H
  clear H
  have H := H1
  clear H1
  simp only [Option.some.injEq, Prod.mk.injEq] at H
  obtain ⟨rfl, rfl, rfl, rfl⟩ := H
  go_enter Try.func14, Try.ntmps14
  go_wp2_with (first | ((with_reducible refine gate_dst (N := 2) rfl ?_); refine box_event ?hg (N := 2) ?hd (cs := #[.slice A0_0 l0_0.length c0_0, .slice A0_1 l0_1.length c0_1, .int .i64 a0_2, .bool a0_3]) (t := 25) ?hr ?_; (case hd => rfl); (case hg => rfl); (case hr => first | (go_simp; done) | (go_simp; rfl)); intro gb1147 hg w34 hbox hb; have n0_ := Aside0.mk (below_step (by repeat (first | (with_reducible first | exact HB.out | apply below_alloc | apply pw_below_drewN | apply below_drew1) | exact HB.out)) hb); have n1_ := Aside0.mk (hbox); have n2_ := Aside0.mk ((by rw [hg]; exact (below_size (by repeat (first | (with_reducible first | exact HB.out | apply below_alloc | apply pw_below_drewN | apply below_drew1) | exact HB.out))) : w.heap.size ≤ gb1147)); have n3_ := Aside0.mk ((by rw [hg]; exact (below_size (by repeat (first | (with_reducible first | exact HB.out | apply below_alloc | apply pw_below_drewN | apply below_drew1) | exact HB.out))) : w.heap.size ≤ gb1147)); clear HB; have HB := n0_; have BK1147 := n1_; have GW1147 := n2_; have GE1147 := n3_; clear n0_ n1_ n2_ n3_; clear hb hbox hg) | ((with_reducible refine gate_dst (N := 4) rfl ?_); refine box_event ?hg (N := 4) ?hd (cs := #[.slice none 0 0, .slice none 0 0, .int .i64 0, .bool false]) (t := 25) ?hr ?_; (case hd => rfl); (case hg => rfl); (case hr => first | (go_simp; done) | (go_simp; rfl)); intro gb1148 hg w35 hbox hb; have n0_ := Aside0.mk (blk_below (g := gb1147) (o := .cells #[.slice A0_0 l0_0.length c0_0, .slice A0_1 l0_1.length c0_1, .int .i64 a0_2, .bool a0_3] 25 (0, 0)) (by (with_reducible repeat (first | refine blk_drewN ?_ _ | refine blk_drew ?_ | refine blk_alloc ?_ _)); exact BK1147.out) hb); have n1_ := Aside0.mk (below_step (by repeat (first | (with_reducible first | exact HB.out | apply below_alloc | apply pw_below_drewN | apply below_drew1 | refine below_set ?_ GE1147.out) | exact HB.out)) hb); have n2_ := Aside0.mk (hbox); have n3_ := Aside0.mk ((by rw [hg]; exact (below_size (by repeat (first | (with_reducible first | exact HB.out | apply below_alloc | apply pw_below_drewN | apply below_drew1 | refine below_set ?_ GE1147.out) | exact HB.out))) : w.heap.size ≤ gb1148)); have n4_ := Aside0.mk ((by rw [hg]; exact (below_size (by repeat (first | (with_reducible first | exact HB.out | apply below_alloc | apply pw_below_drewN | apply below_drew1 | refine below_set ?_ GE1147.out) | exact HB.out))) : w.heap.size ≤ gb1148)); have n5_ := Aside0.mk ((by rw [hg]; exact Nat.ne_of_lt (blk_lt (g := gb1147) (o := .cells #[.slice A0_0 l0_0.length c0_0, .slice A0_1 l0_1.length c0_1, .int .i64 a0_2, .bool a0_3] 25 (0, 0)) (by (with_reducible repeat (first | refine blk_drewN ?_ _ | refine blk_drew ?_ | refine blk_alloc ?_ _)); exact BK1147.out)) : gb1147 ≠ gb1148)); have n6_ := Aside0.mk ((by rw [hg]; exact Nat.ne_of_gt (blk_lt (g := gb1147) (o := .cells #[.slice A0_0 l0_0.length c0_0, .slice A0_1 l0_1.length c0_1, .int .i64 a0_2, .bool a0_3] 25 (0, 0)) (by (with_reducible repeat (first | refine blk_drewN ?_ _ | refine blk_drew ?_ | refine blk_alloc ?_ _)); exact BK1147.out)) : gb1148 ≠ gb1147)); clear BK1147; clear HB; have BK1147 := n0_; have HB := n1_; have BK1148 := n2_; have GW1148 := n3_; have GE1148 := n4_; have NB1147_1148 := n5_; have NB1148_1147 := n6_; clear n0_ n1_ n2_ n3_ n4_ n5_ n6_; clear hb hbox hg; have hnb36 := NB1147_1148.out; have hnc36 := NB1148_1147.out; have hcz37_0 : w35.cell? ⟨gb1147, 0, none⟩ = some (.slice A0_0 l0_0.length c0_0) := (blk_cell BK1147.out 0).trans rfl; have hcz37_1 : w35.cell? ⟨gb1147, 1, none⟩ = some (.slice A0_1 l0_1.length c0_1) := (blk_cell BK1147.out 1).trans rfl; have hcz37_2 : w35.cell? ⟨gb1147, 2, none⟩ = some (.int .i64 a0_2) := (blk_cell BK1147.out 2).trans rfl; have hcz37_3 : w35.cell? ⟨gb1147, 3, none⟩ = some (.bool a0_3) := (blk_cell BK1147.out 3).trans rfl; have hfz37_0 := blk_frozen BK1147.out 0; have hfz37_1 := blk_frozen BK1147.out 1; have hfz37_2 := blk_frozen BK1147.out 2; have hfz37_3 := blk_frozen BK1147.out 3) | ((with_reducible refine gate_callee (f := 11) rfl ?_); refine goesL_ (some 8) rfl rfl Try.func11 (by kernel_rfl) rfl #[.agg #[.slice A0_0 l0_0.length c0_0, .slice A0_1 l0_1.length c0_1, .int .i64 a0_2, .bool a0_3]] rfl (by (try simp only [List.map_toArray, List.map_cons, List.map_nil]); first | done | rfl | (simp only [List.length_drop, List.length_take]; rfl)) ?_; (with_reducible refine (spec_ValidDisk.calls k _ _ l0_0 _ _ l0_1 a0_2 a0_3 false _ ?side1 ?side2 ?side3 ?side4 A3.out).mono ?_); (case side1 => repeat (first | exact (Kd.C_below HR0_0.out HB.out) | (with_reducible refine Kd.C_alloc ?_ _) | (with_reducible refine Kd.C_drewN ?_ _) | (with_reducible refine Kd.C_drew ?_))); (case side2 => exact HC0_0.out); (case side3 => repeat (first | exact (Kd.C_below HR0_1.out HB.out) | (with_reducible refine Kd.C_alloc ?_ _) | (with_reducible refine Kd.C_drewN ?_ _) | (with_reducible refine Kd.C_drew ?_))); (case side4 => exact HC0_1.out); rintro e w38 ⟨rfl, hb⟩; refine ⟨_, rfl, ?_⟩; have n0_ := Aside0.mk (blk_below (g := gb1147) (o := .cells #[.slice A0_0 l0_0.length c0_0, .slice A0_1 l0_1.length c0_1, .int .i64 a0_2, .bool a0_3] 25 (0, 0)) (by (with_reducible repeat (first | refine blk_drewN ?_ _ | refine blk_drew ?_ | refine blk_alloc ?_ _)); exact BK1147.out) hb); have n1_ := Aside0.mk (blk_below (g := gb1148) (o := .cells #[.slice none 0 0, .slice none 0 0, .int .i64 0, .bool false] 25 (0, 0)) (by (with_reducible repeat (first | refine blk_drewN ?_ _ | refine blk_drew ?_ | refine blk_alloc ?_ _)); exact BK1148.out) hb); have n2_ := Aside0.mk (below_step (by repeat (first | (with_reducible first | exact HB.out | apply below_alloc | apply pw_below_drewN | apply below_drew1 | refine below_set ?_ GE1147.out | refine below_set ?_ GE1148.out) | exact HB.out)) hb); clear BK1147; clear BK1148; clear HB; have BK1147 := n0_; have BK1148 := n1_; have HB := n2_; clear n0_ n1_ n2_; (try clear hb); (try clear hb2); (try clear hk); (try clear hi); have hcz39_0 : w38.cell? ⟨gb1148, 0, none⟩ = some (.slice none 0 0) := (blk_cell BK1148.out 0).trans rfl; have hcz39_1 : w38.cell? ⟨gb1148, 1, none⟩ = some (.slice none 0 0) := (blk_cell BK1148.out 1).trans rfl; have hcz39_2 : w38.cell? ⟨gb1148, 2, none⟩ = some (.int .i64 0) := (blk_cell BK1148.out 2).trans rfl; have hcz39_3 : w38.cell? ⟨gb1148, 3, none⟩ = some (.bool false) := (blk_cell BK1148.out 3).trans rfl; have hfz39_0 := blk_frozen BK1148.out 0; have hfz39_1 := blk_frozen BK1148.out 1; have hfz39_2 := blk_frozen BK1148.out 2; have hfz39_3 := blk_frozen BK1148.out 3))
  refine bodyPost_ret (results_cell_row rfl _ _ gb1148 25 #[.slice none 0 0, .slice none 0 0, .int .i64 0, .bool false] (0, 0) _ rfl (by (with_reducible repeat (first | refine blk_drewN ?_ _ | refine blk_drew ?_ | refine blk_alloc ?_ _)); refine blk_put (cs := #[.slice none 0 0, .slice none 0 0, .int .i64 0, .bool false]) ?_ 3 _ rfl; (with_reducible repeat (first | refine blk_drewN ?_ _ | refine blk_drew ?_ | refine blk_alloc ?_ _)); refine blk_put (cs := #[.slice none 0 0, .slice none 0 0, .int .i64 0, .bool false]) ?_ 2 _ rfl; (with_reducible repeat (first | refine blk_drewN ?_ _ | refine blk_drew ?_ | refine blk_alloc ?_ _)); refine blk_put (cs := #[.slice none 0 0, .slice none 0 0, .int .i64 0, .bool false]) ?_ 1 _ rfl; (with_reducible repeat (first | refine blk_drewN ?_ _ | refine blk_drew ?_ | refine blk_alloc ?_ _)); refine blk_put (cs := #[.slice none 0 0, .slice none 0 0, .int .i64 0, .bool false]) ?_ 0 _ rfl; (with_reducible repeat (first | refine blk_drewN ?_ _ | refine blk_drew ?_ | refine blk_alloc ?_ _)); exact BK1148.out) Try.underlying25 rfl (by kernel_rfl)) rfl ?_
  exact ⟨_, _, by first | rfl | (simp [errW_none, errW_some] <;> rfl) | (simp [*, errW_none, errW_some] <;> rfl), by first | exact Kd.R_nil _ _ _ _ _ | exact Kd.N_nil _ _ _ _ _ | exact Kd.V_nil _ _ _ _ _ | exact Kd.Q_nil _ _ _ _ _ | exact Kd.S_nil _ _ _ _ _, by first | exact Kd.S_nil _ _ _ _ _ | exact Kd.N_nil _ _ _ _ _ | exact Kd.V_nil _ _ _ _ _ | exact Kd.Q_nil _ _ _ _ _ | exact Kd.R_nil _ _ _ _ _, by repeat (first | (with_reducible first | exact HB.out | apply below_alloc | apply pw_below_drewN | apply below_drew1 | refine below_set ?_ GE1147.out | refine below_set ?_ GE1148.out) | exact HB.out)⟩

/-! ### L_crash: a text by hand -/
def crF (l0 : List Int) (l1 : List S79) (keep : List Bool) : Nat → List Int
 | 0 => l0
 | i + 1 => if ((i : Int) < (keep.length : Int)) ∧ rdOf false keep (i : Int) = true then ovr (crF l0 l1 keep i) (rd_T79 l1 (i : Int)).f0 (rd_T79 l1 (i : Int)).f1 else crF l0 l1 keep i
theorem crF_len (l0 : List Int) (l1 : List S79) (keep : List Bool) (h : ∀ x ∈ l1, 0 ≤ x.f0 ∧ x.f0 < ((l0.length / 64 : Nat) : Int) ∧ x.f1.length = 64) : ∀ i, i ≤ l1.length → (crF l0 l1 keep i).length = l0.length := by
 intro i
 induction i with
 | zero => intro _; rfl
 | succ i ih =>
   intro hi
   have h1 := ih (by omega)
   have hx := h _ (rdP_mem l1 i (by omega))
   unfold crF
   split
   ·rw [ovr_len _ _ _ (by rw [h1, hx.2.2]; omega), h1]
   ·exact h1
def dCrash (l0 : List Int) (l1 : List S79) (a2 : Int) (keep : List Bool) : List Int × List S79 × Int × Bool :=
 if vD l0 l1 a2 = true then (crF l0 l1 keep l1.length, [], -1, false) else ([], [], 0, false)
theorem specCrash_loop (l0 : List Int) (l1 : List S79) (a2 : Int) (a3 : Bool) (keep : List Bool) (h2 : l0.length ≤ 65599) (h3 : l1.length ≤ 2000) (h : ∀ x ∈ l1, 0 ≤ x.f0 ∧ x.f0 < ((l0.length / 64 : Nat) : Int) ∧ x.f1.length = 64) :
   ∀ (d i : Nat), i + d = l1.length → Ev (fun k => spec_DiskCrash.l0 k keep (crF l0 l1 keep i) (i : Int) l0 l1 a2 a3) (crF l0 l1 keep l1.length, ([] : List S79), -1, false) := by
 intro d
 induction d with
 | zero => intro i hi; obtain rfl : i = l1.length := by omega
           exact Ev.step (fun K => by simp only [spec_DiskCrash.l0]; rw [if_neg (by omega)]) (Ev.now _)
 | succ d ih =>
   intro i hi
   have ih' := ih (i + 1) (by omega)
   have hx := h _ (rdP_mem l1 i (by omega))
   have hl := crF_len l0 l1 keep h i (by omega)
   have ew : wrap64 ((i : Int) + 1) = ((i + 1 : Nat) : Int) := by unfold wrap64; omega
   have hn : crF l0 l1 keep (i + 1) = if ((i : Int) < (keep.length : Int)) ∧ rdOf false keep (i : Int) = true then ovr (crF l0 l1 keep i) (rd_T79 l1 (i : Int)).f0 (rd_T79 l1 (i : Int)).f1 else crF l0 l1 keep i := rfl
   rw [hn] at ih'
   by_cases c1 : (i : Int) < (keep.length : Int)
   ·by_cases c2 : rdOf false keep (i : Int) = true
    ·rw [if_pos ⟨c1, c2⟩] at ih'
     have ho := over_eq (crF l0 l1 keep i) (rd_T79 l1 (i : Int)).f0 (rd_T79 l1 (i : Int)).f1 hx.1 (by rw [hl, hx.2.2]; omega) (by omega)
     exact Ev.step (fun K => by simp only [spec_DiskCrash.l0]; rw [if_pos (by omega), if_pos c1, if_pos (by omega), if_pos c2, ho, Option.bind_some, ew]) ih'
    ·rw [if_neg (fun hh => c2 hh.2)] at ih'
     exact Ev.step (fun K => by simp only [spec_DiskCrash.l0]; rw [if_pos (by omega), if_pos c1, if_pos (by omega), if_neg c2, ew]) ih'
   ·rw [if_neg (fun hh => c1 hh.1)] at ih'
    exact Ev.step (fun K => by simp only [spec_DiskCrash.l0]; rw [if_pos (by omega), if_neg c1, ew]) ih'
theorem specCrash_ev (l0 : List Int) (l1 : List S79) (a2 : Int) (a3 : Bool) (keep : List Bool) (h0 : l0.length ≤ 1048576) (hL : l1.length ≤ 1048576) : Ev (fun k => spec_DiskCrash.f k l0 l1 a2 a3 keep) (dCrash l0 l1 a2 keep) := by
 unfold spec_DiskCrash.f dCrash
 refine Ev.bind (specValid_ev l0 l1 a2 a3 h0 hL) ?_
 by_cases cv : vD l0 l1 a2 = true
 case neg => rw [if_neg cv]; exact Ev.congr (fun K => by rw [if_neg cv]) (Ev.now _)
 rw [if_pos cv]
 obtain ⟨f1, f2, f3, f4, f5, f6, f7⟩ := vD_facts cv
 exact Ev.congr (fun K => by rw [if_pos cv, Option.bind_some, if_pos (by rw [List.length_nil]; omega), List.nil_append]; rfl) (specCrash_loop l0 l1 a2 a3 keep f3 f4 f7 l1.length 0 (by omega))

/-! ### impl_DiskCrash: function 12, proved by hand -/
-- import Derived.Laws.CopyOwn
-- import Derived.Deep.RegionLaw
def m_DiskCrash.f (l0 : List Int) (l1 : List S79) (a2 : Int) (a3 : Bool) (keep : List Bool) : Option (List Int × List S79 × Int × Bool) :=
 if l0.length ≤ 1048576 ∧ l1.length ≤ 1048576 ∧ keep.length ≤ 1048576 then some (dCrash l0 l1 a2 keep) else none
set_option maxHeartbeats 4000000 in
set_option maxRecDepth 100000 in
theorem impl_DiskCrash.calls (A0 : Option Addr) (c0 : Nat) (l0 : List Int) (A1 : Option Addr) (c1 : Nat) (l1 : List S79) (a2 : Int) (a3 : Bool) (A2 : Option Addr) (c2 : Nat) (l2 : List Bool) (r1 : List Int) (r2 : List S79) (r3 : Int) (r4 : Bool) (w : World) (hr0 : Kd.C (Kd.int .u8) w A0 l0.length l0) (hc0 : l0.length ≤ c0) (hr1 : Kd.C k79 w A1 l1.length l1) (hc1 : l1.length ≤ c1) (hr2 : Kd.C Kd.bool w A2 l2.length l2) (hc2 : l2.length ≤ c2) (h : m_DiskCrash.f l0 l1 a2 a3 l2 = some (r1, r2, r3, r4)) :
  Calls Try.prog 12 #[.agg #[.slice A0 l0.length c0, .slice A1 l1.length c1, .int .i64 a2, .bool a3], .slice A2 l2.length c2] w fun e w' => ∃ v0_ v1_ : Value, e = .returned (.agg #[v0_, v1_, .int .i64 r3, .bool r4]) ∧ Kd.R (Kd.int .u8) 5 w' w.heap.size (fun _ => True) v0_ r1 ∧ Kd.S k79 79 w' w.heap.size (fun k_ => some k_ ≠ (v0_ : Value).ownBlock) v1_ r2 ∧ Below w.heap.size w w' := by
 unfold m_DiskCrash.f at h
 by_cases hL : l0.length ≤ 1048576 ∧ l1.length ≤ 1048576 ∧ l2.length ≤ 1048576
 case neg => rw [if_neg hL] at h; cases h
 rw [if_pos hL] at h
 obtain ⟨kv, hv⟩ := (implValid_ev l0 l1 a2 a3 hL.1 hL.2.1).rounds
 have HL := Aside0.mk hL
 have HV := Aside0.mk hv
 have HR0 := Aside0.mk hr0
 have HC0 := Aside0.mk hc0
 have HR1 := Aside0.mk hr1
 have HC1 := Aside0.mk hc1
 have HR2 := Aside0.mk hr2
 have HC2 := Aside0.mk hc2
 clear hr0 hc0 hr1 hc1 hr2 hc2 hv hL
 have HRr := Aside0.mk (Option.some.inj h)
 clear h
 have hu25 := Try.underlying25
 have hu79 := Try.underlying79
 have HB := Aside0.mk (Below.refl w.heap.size w)
 go_enter Try.func12, Try.ntmps12
 go_wp2_with fail
 refine (impl_ValidDisk.calls kv _ _ l0 _ _ l1 a2 a3 _ _ (Kd.C_alloc (Kd.C_alloc HR0.out _) _) HC0.out (Kd.C_alloc (Kd.C_alloc HR1.out _) _) HC1.out HV.out).mono ?_
 rintro e w1 ⟨rfl, gb⟩
 have K2 := Aside0.mk (show w1.heap[w.heap.size]? = some (.cells #[.slice A0 l0.length c0, .slice A1 l1.length c1, .int .i64 a2, .bool a3] 25 (0, 0)) from blk_below (blk_alloc (blk_new _ _) _) gb)
 have K4 := Aside0.mk (show w1.heap[w.heap.size + 1]? = some (.cells #[.slice none 0 0, .slice none 0 0, .int .i64 0, .bool false] 25 (0, 0)) from blk_two gb)
 have N_HB := Aside0.mk (below_step (below_alloc (below_alloc HB.out _) _) gb)
 clear HB gb
 have HB := N_HB
 clear N_HB
 obtain ⟨z0, z1, z2, z3, y0, y1, y2, y3⟩ := blk_cells4 K2.out
 obtain ⟨x0, x1, x2, x3, u0, u1, u2, u3⟩ := blk_cells4 K4.out
 have yl := blk_lt K2.out
 have ul := blk_lt K4.out
 by_cases cv : vD l0 l1 a2 = true
 case neg =>
  have cv' : vD l0 l1 a2 = false := by simpa using cv
  rw [cv']
  have er := HRr.out
  unfold dCrash at er
  rw [if_neg cv] at er
  simp only [Prod.mk.injEq] at er
  obtain ⟨rfl, rfl, rfl, rfl⟩ := er
  go_wp2_with fail
  refine bodyPost_ret (results_cell_row rfl _ _ (w.heap.size + 1) 25 #[.slice none 0 0, .slice none 0 0, .int .i64 0, .bool false] (0, 0) _ rfl (blk_set4 K4.out) Try.underlying25 rfl (by kernel_rfl)) rfl ⟨_, _, rfl, Kd.R_nil _ _ _ _ _, Kd.S_nil _ _ _ _ _, ?_⟩
  exact below_setB (below_setB (below_setB (below_setB HB.out (by omega) _ _) (by omega) _ _) (by omega) _ _) (by omega) _ _
 rw [cv]
 have HP := Aside0.mk (vD_facts cv)
 have er := HRr.out
 unfold dCrash at er
 rw [if_pos cv] at er
 simp only [Prod.mk.injEq] at er
 obtain ⟨er1, rfl, rfl, rfl⟩ := er
 have ER := Aside0.mk er1
 clear er1 HRr cv
 have HL4 := Aside0.mk (show w.heap.size + 1 < w1.heap.size from ul)
 go_wp2_with (first | ((with_reducible refine gate_builtin (b := .append) (xs := #[.const (.slice none 0 0), .tmp 13]) rfl ?_); at_builtin; refine Kd.R_append_rows (Kd.int .u8) (w0 := w1) w1.heap.size rfl (.const (.slice none 0 0)) (.tmp 13) 22 5 (.int .u8 0) 1 rfl Try.underlying22 info5 rfl (by decide) (by omega) (.slice none 0 0) [] l0 _ _ _ (fun _ => True) (fun _ => False) rfl rfl (Kd.R_nil _ _ _ _ _) (Kd.C_below HR0.out HB.out) (fun _ _ h => h) (fun _ h => h.elim) (fun _ _ => trivial) (Below.refl _ _) (Nat.le_refl _) (by have := HL.out; simp; omega) ?_; intro v w2 ho hb hg hat; rw [List.nil_append] at ho; obtain ⟨g, dc, tail, ev_, hbg, _, hcm, hgc, hdc⟩ := R_row ho (by have := HP.out.2.1; omega); subst ev_; have HG := Aside0.mk hgc; have HBG := Aside0.mk hbg; have HCM := Aside0.mk hcm; have HDC := Aside0.mk hdc; have HB2 := Aside0.mk hb; have N_K2 := Aside0.mk (blk_below K2.out hb); have N_K4 := Aside0.mk (blk_below K4.out hb); clear K2 K4 z0 z1 z2 z3 y0 y1 y2 y3 yl x0 x1 x2 x3 u0 u1 u2 u3 ul ho hb hg hat hbg hcm hgc hdc; have K2 := N_K2; have K4 := N_K4; clear N_K2 N_K4; obtain ⟨z0, z1, z2, z3, y0, y1, y2, y3⟩ := blk_cells4 K2.out; have yl := blk_lt K2.out))
 go_loopg [6, 19] l1.length (fun kq v6 v19 w' => ∃ (i : Nat), v19 = .int .i64 i ∧ Aside0 (i ≤ l1.length ∧ kq = l1.length - i) ∧ Aside0 (w'.heap[g]? = some (.cells ((crF l0 l1 l2 i).map (Value.int .u8) ++ tail).toArray 5 (0, 0))) ∧ Aside0 (w'.heap[w2.heap.size]? = some (.cells #[.slice (some ⟨g, 0, none⟩) l0.length dc, .slice none 0 0, .int .i64 (-1), .bool false] 25 (0, 0))) ∧ Aside0 (w'.heap[w.heap.size + 1]? = some (.cells #[.slice none 0 0, .slice none 0 0, .int .i64 0, .bool false] 25 (0, 0))) ∧ Aside0 (Below w1.heap.size w1 w'))
 case atStart => exact ⟨0, rfl, ⟨by omega, rfl⟩, ⟨blk_alloc HG.out _⟩, ⟨blk_new _ _⟩, ⟨blk_alloc K4.out _⟩, ⟨below_alloc HB2.out _⟩⟩
 case round =>
  have HX2 := Aside0.mk (show g < w2.heap.size from blk_lt HG.out)
  clear z0 z1 z2 z3 y0 y1 y2 y3 yl K2 K4 HG
  obtain ⟨i, rfl, HI, HG, K5, K4, HBr⟩ := hrel
  have HB3 := Aside0.mk (below_step HB.out HBr.out)
  by_cases ci : (i : Int) < (l1.length : Int)
  ·obtain ⟨ad, A1', c1', e_, hx0, hx1, hl, hC⟩ := at_T79 (Kd.C_below HR1.out HB3.out) (i : Int) (by omega) (by omega)
   cases e_
   rw [Int.toNat_natCast] at hx0 hx1
   have hm := HP.out.2.2.2.2.2.2 _ (rdP_mem l1 i (by omega))
   have hcl := crF_len l0 l1 l2 HP.out.2.2.2.2.2.2 i (by omega)
   have hcr : crF l0 l1 l2 (i + 1) = if ((i : Int) < (l2.length : Int)) ∧ rdOf false l2 (i : Int) = true then ovr (crF l0 l1 l2 i) (rd_T79 l1 (i : Int)).f0 (rd_T79 l1 (i : Int)).f1 else crF l0 l1 l2 i := rfl
   have HC := Aside0.mk hC
   have HL1 := Aside0.mk hl
   have HM := Aside0.mk hm
   have HCL := Aside0.mk hcl
   have HCR := Aside0.mk hcr
   clear hC hl hm hcl hcr
   rw [HM.out.2.2] at hx1
   generalize rd_T79 l1 (i : Int) = p at *
   have hil : l1.length ≤ 2000 := HP.out.2.2.2.1
   by_cases ck : (i : Int) < (l2.length : Int)
   ·obtain ⟨ak, ea, hk⟩ := C_cellB (Kd.C_below HR2.out HB3.out) i (by omega)
    subst ea
    have hkb := World.block_lt_of_cell? wr _ hk
    by_cases cb : rdOf false l2 (i : Int) = true
    ·rw [cb] at hk
     have HCR2 := Aside0.mk (HCR.out.trans (if_pos ⟨ck, cb⟩))
     clear HCR cb
     obtain ⟨z0, z1, z2, z3, y0, y1, y2, y3⟩ := blk_cells4 K5.out
     have yl := blk_lt K5.out
     go_wp2_with fail
     have N_K5 := Aside0.mk (blk_alloc K5.out (.cells #[.int .i64 p.f0, .slice A1' 64 c1'] 79))
     have N_K4 := Aside0.mk (blk_alloc K4.out (.cells #[.int .i64 p.f0, .slice A1' 64 c1'] 79))
     have N_HG := Aside0.mk (blk_alloc HG.out (.cells #[.int .i64 p.f0, .slice A1' 64 c1'] 79))
     have N_HB := Aside0.mk (below_alloc HBr.out (.cells #[.int .i64 p.f0, .slice A1' 64 c1'] 79))
     have N_HC := Aside0.mk (Kd.C_alloc HC.out (.cells #[.int .i64 p.f0, .slice A1' 64 c1'] 79))
     have KP := Aside0.mk (blk_new wr (.cells #[.int .i64 p.f0, .slice A1' 64 c1'] 79))
     clear K5 K4 HG HBr HC z0 z1 z2 z3 y0 y1 y2 y3 yl hk hkb hx0 hx1
     generalize hww : wr.alloc (.cells #[.int .i64 p.f0, .slice A1' 64 c1'] 79) = ww at *
     have HWW := Aside0.mk hww
     clear hww
     obtain ⟨z0, z1, z2, z3, y0, y1, y2, y3⟩ := blk_cells4 N_K5.out
     have yl := blk_lt N_K5.out
     have pz0 : ww.cell? ⟨wr.heap.size, 0, none⟩ = some (.int .i64 p.f0) := (blk_cell KP.out 0).trans rfl
     have pz1 : ww.cell? ⟨wr.heap.size, 1, none⟩ = some (.slice A1' 64 c1') := (blk_cell KP.out 1).trans rfl
     have b0 : 0 ≤ p.f0 := HM.out.1
     have b1 : p.f0 * 64 + 64 ≤ (l0.length : Int) := by have := HM.out.2.1; omega
     have b2 : l0.length ≤ dc := by have := HDC.out; omega
     have b3 : l0.length ≤ 65599 := HP.out.2.2.1
     have b4 : ¬ dc = (p.f0 * 64).toNat := by omega
     have b5 : IntKind.i64.wrap (p.f0 * 64) = p.f0 * 64 := by rw [i64_w]; unfold wrap64; omega
     have b6 : p.f0 * 64 ≤ (l0.length : Int) := by omega
     have b7 : 0 ≤ p.f0 * 64 := by omega
     obtain ⟨aq, ea, hcs⟩ := C_cells N_HC.out (by rw [HM.out.2.2]; decide)
     have HCS := Aside0.mk hcs
     clear hcs
     subst ea
     have HCL2 := HCL.out
     go_region_law (refine step_copy_at rfl (.tmp 39) (.tmp 41) 22 22 rfl 5 Try.underlying22 (by kernel_rfl) g (p.f0 * 64).toNat _ _ aq _ _ (by first | rfl | (simp [Act.eval, Act.put]; done)) (by first | rfl | (simp [Act.eval, Act.put]; done)) ((crF l0 l1 l2 i).map (Value.int .u8) ++ tail) 5 N_HG.out (p.f1.map (Value.int .u8)) ?hn ?hsrc ?hfit ?h1 ?_; (case hn => (rw [List.length_map, HM.out.2.2]; show 64 = min 64 _; omega)); (case hsrc => exact HCS.out); (case hfit => (have := HM.out.2.2; simp; omega)); (case h1 => (simp [Value.oneCell'])); intro w4 hw4; have HW4 := Aside0.mk hw4; clear hw4)
     all_goals go_wp2_with fail
     all_goals
      go_roundg (l1.length - (i + 1))
      case measure => have := HI.out; omega
      case rel =>
       rw [HW4.out, ovr_cells _ _ _ _ (by have := HM.out.2.2; omega), ← HCR2.out]
       have hgn : g ≠ w2.heap.size := Nat.ne_of_lt HX2.out
       have hg4 : g ≠ w.heap.size + 1 := by have := HBG.out; have := HL4.out; omega
       exact ⟨i + 1, by first | rfl | simp, ⟨by omega, rfl⟩, ⟨setRow_heap _ _ _ _ _ _ N_HG.out⟩, ⟨(setRow_other _ _ _ _ (Ne.symm hgn)).trans N_K5.out⟩, ⟨(setRow_other _ _ _ _ (Ne.symm hg4)).trans N_K4.out⟩, ⟨below_row (below_drew N_HB.out) HBG.out _⟩⟩
    ·rw [show rdOf false l2 (i : Int) = false by simpa using cb] at hk
     have HCR2 := Aside0.mk (HCR.out.trans (if_neg (fun hh => cb hh.2)))
     clear HCR cb
     go_wp2_with fail
     go_roundg (l1.length - (i + 1))
     case measure => have := HI.out; omega
     case rel => exact ⟨i + 1, by first | rfl | simp, ⟨by omega, rfl⟩, ⟨by rw [HCR2.out]; exact blk_alloc HG.out _⟩, ⟨blk_alloc K5.out _⟩, ⟨blk_alloc K4.out _⟩, ⟨below_alloc HBr.out _⟩⟩
   ·have HCR2 := Aside0.mk (HCR.out.trans (if_neg (fun hh => ck hh.1)))
    clear HCR
    go_wp2_with fail
    go_roundg (l1.length - (i + 1))
    case measure => have := HI.out; omega
    case rel => exact ⟨i + 1, by first | rfl | simp, ⟨by omega, rfl⟩, ⟨by rw [HCR2.out]; exact blk_alloc HG.out _⟩, ⟨blk_alloc K5.out _⟩, ⟨blk_alloc K4.out _⟩, ⟨below_alloc HBr.out _⟩⟩
  ·have hi : i = l1.length := by have := HI.out; omega
   subst hi
   obtain ⟨z0, z1, z2, z3, y0, y1, y2, y3⟩ := blk_cells4 K5.out
   obtain ⟨x0, x1, x2, x3, u0, u1, u2, u3⟩ := blk_cells4 K4.out
   have yl := blk_lt K5.out
   have ul := blk_lt K4.out
   go_wp2_with fail
   refine bodyPost_ret (results_cell_row rfl _ _ (w.heap.size + 1) 25 #[.slice (some ⟨g, 0, none⟩) l0.length dc, .slice none 0 0, .int .i64 (-1), .bool false] (0, 0) _ rfl (blk_set4 K4.out) Try.underlying25 rfl (by kernel_rfl)) rfl ⟨_, _, rfl, ?_, Kd.S_nil _ _ _ _ _, ?_⟩
   ·have hcl := crF_len l0 l1 l2 HP.out.2.2.2.2.2.2 l1.length (Nat.le_refl _)
    have hgn : g ≠ w.heap.size + 1 := by have := HBG.out; have := HL4.out; omega
    have hR := R_of_row (base := w.heap.size) (ok := fun k => k ≠ w.heap.size + 1) (cap := dc) HG.out (by have := HBG.out; have := HL4.out; omega) hgn HCM.out (by rw [hcl]; exact HDC.out)
    rw [hcl, ER.out] at hR
    exact Kd.R_mono (Kd.R_far (p := ⟨w.heap.size + 1, 3, none⟩) (Kd.R_far (p := ⟨w.heap.size + 1, 2, none⟩) (Kd.R_far (p := ⟨w.heap.size + 1, 1, none⟩) (Kd.R_far (p := ⟨w.heap.size + 1, 0, none⟩) hR (fun k hk => hk) _) (fun k hk => hk) _) (fun k hk => hk) _) (fun k hk => hk) _) (fun _ _ => trivial)
   ·exact below_setB (below_setB (below_setB (below_setB HB3.out (by omega) _ _) (by omega) _ _) (by omega) _ _) (by omega) _ _

/-! ### zl_draw: a text by hand -/
-- import Derived.BigQuiet
theorem and_small (X : Int) (m : Nat) (hm : m < 2147483648) : 0 ≤ Go.bits .and .i64 X m ∧ Go.bits .and .i64 X m ≤ m := by
 have e : Go.bits .and .i64 X m = (((BitVec.ofInt 64 X &&& BitVec.ofInt 64 (m : Int)).toNat : Nat) : Int) := by
  show IntKind.i64.wrap _ = _
  have h : (BitVec.ofInt 64 X &&& BitVec.ofInt 64 (m : Int)).toNat ≤ m := by
   rw [BitVec.toNat_and, BitVec.ofInt_natCast, BitVec.toNat_ofNat]
   exact Nat.le_trans Nat.and_le_right (Nat.mod_le _ _)
  rw [IntKind.wrap_i64]
  show (((BitVec.ofInt 64 X &&& BitVec.ofInt 64 (m : Int)).toNat : Int) + _) % _ - _ = _
  omega
 rw [e]
 refine ⟨by omega, ?_⟩
 have h : (BitVec.ofInt 64 X &&& BitVec.ofInt 64 (m : Int)).toNat ≤ m := by
  rw [BitVec.toNat_and, BitVec.ofInt_natCast, BitVec.toNat_ofNat]
  exact Nat.le_trans Nat.and_le_right (Nat.mod_le _ _)
 omega
/-- The cursor of a draw: its bytes came in, its two numbers stand in a block of its own. -/
structure Cur (lo p : Nat) (A : Option Addr) (c : Nat) (xs : List Int) (W : World) : Prop where
 r : Kd.V (Kd.int .u8) 5 W 0 (fun k => k < lo) (.slice A xs.length c) xs
 x : ∃ i h : Int, W.heap[p]? = some (.cells #[.slice A xs.length c, .int .i64 i, .int .i64 h] 123 (0, 0)) ∧ 0 ≤ i ∧ i ≤ xs.length
 l : lo ≤ p
 s : ∀ y ∈ xs, 0 ≤ y ∧ y < 256
/-- What a step of the cursor leaves as it was. -/
structure Stp (lo p : Nat) (W W' : World) : Prop where
 b : Below lo W W'
 k : Kept W W' (fun k => k = p)
section
variable {lo p c : Nat} {A : Option Addr} {xs : List Int} {W W1 W2 : World}
theorem Stp.refl (lo p : Nat) (W : World) : Stp lo p W W := ⟨⟨rfl, rfl, rfl, Nat.le_refl _, fun _ _ => rfl⟩, ⟨Nat.le_refl _, fun _ _ _ => rfl⟩⟩
theorem Stp.trans (h1 : Stp lo p W W1) (h2 : Stp lo p W1 W2) : Stp lo p W W2 :=
 ⟨⟨h2.b.os.trans h1.b.os, h2.b.tape.trans h1.b.tape, h2.b.output.trans h1.b.output, Nat.le_trans h1.b.size h2.b.size, fun k hk => (h2.b.block k hk).trans (h1.b.block k hk)⟩,
  ⟨Nat.le_trans h1.k.1 h2.k.1, fun i hi hn => (h2.k.2 i (Nat.lt_of_lt_of_le hi h1.k.1) hn).trans (h1.k.2 i hi hn)⟩⟩
theorem Cur.lt (h : Cur lo p A c xs W) : p < W.heap.size := by obtain ⟨i, h', hb, _⟩ := h.x; exact blk_lt hb
theorem Stp.of_below (h : Cur lo p A c xs W) (hb : Below W.heap.size W W1) : Stp lo p W W1 :=
 ⟨⟨hb.os, hb.tape, hb.output, hb.size, fun k hk => hb.block k (Nat.lt_trans (Nat.lt_of_lt_of_le hk h.l) h.lt)⟩, ⟨hb.size, fun i hi _ => hb.block i hi⟩⟩
theorem Cur.below (h : Cur lo p A c xs W) (hb : Below W.heap.size W W1) : Cur lo p A c xs W1 := by
 obtain ⟨i, h', hx, h0, h1⟩ := h.x
 exact ⟨Kd.V_below h.r hb, ⟨i, h', blk_below hx hb, h0, h1⟩, h.l, h.s⟩
theorem Cur.put (h : Cur lo p A c xs W) (j : Nat) (v : Value) (hx : ∃ i h : Int, (W.setCell ⟨p, j, none⟩ v).heap[p]? = some (.cells #[.slice A xs.length c, .int .i64 i, .int .i64 h] 123 (0, 0)) ∧ 0 ≤ i ∧ i ≤ xs.length) : Cur lo p A c xs (W.setCell ⟨p, j, none⟩ v) :=
 ⟨Kd.V_far h.r (fun k hk => by have := h.l; show k ≠ p; omega) v, hx, h.l, h.s⟩
theorem Stp.put (h : Cur lo p A c xs W) (j : Nat) (v : Value) : Stp lo p W (W.setCell ⟨p, j, none⟩ v) :=
 have hb : Below lo W (W.setCell ⟨p, j, none⟩ v) := below_setB ⟨rfl, rfl, rfl, Nat.le_refl _, fun _ _ => rfl⟩ h.l _ _
 ⟨hb, ⟨hb.size, fun i _ hn => Below.heap_setCell W _ v i hn⟩⟩
end
set_option maxHeartbeats 4000000 in
set_option maxRecDepth 100000 in
theorem l1Byte_any {lo p c : Nat} {A : Option Addr} {xs : List Int} {W : World} (h : Cur lo p A c xs W) :
  Calls Try.prog 121 #[.pointer (some ⟨p, 0, none⟩)] W fun e W' => ∃ x : Int, e = .returned (.int .i64 x) ∧ 0 ≤ x ∧ x ≤ 255 ∧ Cur lo p A c xs W' ∧ Stp lo p W W' := by
 have HC := Aside0.mk h
 have HL := Aside0.mk (show xs.length ≤ 9223372036854775807 from (Kd.V_reads' h.r).2.2.2.1)
 obtain ⟨i, hh, hx, h0, h1⟩ := h.x
 have K0 := Aside0.mk hx
 clear h
 have q0 : W.cell? ⟨p, 0, none⟩ = some (.slice A xs.length c) := (blk_cell hx 0).trans rfl
 have q1 : W.cell? ⟨p, 1, none⟩ = some (.int .i64 i) := (blk_cell hx 1).trans rfl
 have q2 : W.cell? ⟨p, 2, none⟩ = some (.int .i64 hh) := (blk_cell hx 2).trans rfl
 have f0 := blk_frozen hx 0
 have f1 := blk_frozen hx 1
 have f2 := blk_frozen hx 2
 have pl := blk_lt hx
 clear hx
 go_enter Try.func121, Try.ntmps121
 go_wp2_with fail
 have hb1 := blk_put K0.out 2 (.int .i64 (wrap64 (wrap64 (hh * 6364136223846793005) + 1442695040888963407))) rfl
 have C1 := Aside0.mk (HC.out.put 2 _ ⟨i, _, hb1, h0, h1⟩)
 have S1 := Aside0.mk (Stp.put HC.out 2 (.int .i64 (wrap64 (wrap64 (hh * 6364136223846793005) + 1442695040888963407))))
 clear q0 q1 q2 f0 f1 f2 pl K0
 generalize wrap64 (wrap64 (hh * 6364136223846793005) + 1442695040888963407) = h2 at *
 generalize (W.setCell ⟨p, 2, none⟩ (.int .i64 h2)) = W1 at *
 have K1 := Aside0.mk hb1
 have q0 : W1.cell? ⟨p, 0, none⟩ = some (.slice A xs.length c) := (blk_cell hb1 0).trans rfl
 have q1 : W1.cell? ⟨p, 1, none⟩ = some (.int .i64 i) := (blk_cell hb1 1).trans rfl
 have q2 : W1.cell? ⟨p, 2, none⟩ = some (.int .i64 h2) := (blk_cell hb1 2).trans rfl
 have f1 := blk_frozen hb1 1
 have pl := blk_lt hb1
 clear hb1
 go_quiet (fail)
 go_wp2_with fail
 have HX := Aside0.mk (and_small (Go.bits .xor .i64 (h2 / 8589934592) (h2 / 35184372088832)) 255 (by decide))
 generalize hx : Go.bits .and .i64 (Go.bits .xor .i64 (h2 / 8589934592) (h2 / 35184372088832)) 255 = x
 rw [show ((255 : Nat) : Int) = 255 from rfl, hx] at HX
 clear hx
 by_cases ci : i < (xs.length : Int)
 ·have cib : decide (i < (xs.length : Int)) = true := decide_eq_true ci
  obtain ⟨ad, e_, hx5⟩ := Kd.at_int (Kd.V_reads' C1.out.r).2.2 i h0 ci
  subst e_
  have HI := Aside0.mk (And.intro h0 ci)
  have p5 := eq_true h0
  have q5 := eq_true ci
  clear h0 h1 ci
  go_quiet (fail)
  go_wp2_with fail
  go_quiet (fail)
  go_wp2_with fail
  go_ret
  have hb2 := pw_below_drewN (Below.refl W1.heap.size W1)
  have K2 := fun m => blk_put (blk_below K1.out (hb2 m)) 1 (.int .i64 (wrap64 (i + 1))) rfl
  have C2 := fun m => C1.out.below (hb2 m)
  have ha := and_small (wrap64 (x + wrap64 (rd xs i))) 255 (by decide)
  exact ⟨_, rfl, ha.1, ha.2, (C2 _).put 1 _ ⟨_, _, K2 _, by have := HI.out; have := HL.out; unfold wrap64; omega, by have := HI.out; have := HL.out; unfold wrap64; omega⟩, S1.out.trans ((Stp.of_below C1.out (hb2 _)).trans (Stp.put (C2 _) 1 _))⟩
 ·have cib : decide (i < (xs.length : Int)) = false := decide_eq_false ci
  go_quiet (fail)
  go_wp2_with fail
  go_ret
  have hb2 := pw_below_drewN (Below.refl W1.heap.size W1)
  exact ⟨_, rfl, HX.out.1, HX.out.2, C1.out.below (hb2 _), S1.out.trans (Stp.of_below C1.out (hb2 _))⟩
set_option maxHeartbeats 4000000 in
set_option maxRecDepth 100000 in
theorem l1Below_any {lo p c : Nat} {A : Option Addr} {xs : List Int} {W : World} (n : Int) (hn : 1 ≤ n) (h : Cur lo p A c xs W) :
  Calls Try.prog 96 #[.pointer (some ⟨p, 0, none⟩), .int .i64 n] W fun e W' => ∃ x : Int, e = .returned (.int .i64 x) ∧ 0 ≤ x ∧ x < n ∧ Cur lo p A c xs W' ∧ Stp lo p W W' := by
 have HC := Aside0.mk h
 have HN := Aside0.mk hn
 clear h
 have n0 : n ≠ 0 := by omega
 have nb : (n == 0) = false := beq_eq_false_iff_ne.2 n0
 go_enter Try.func96, Try.ntmps96
 by_cases c1 : n ≤ 256
 ·have c1b : decide (n ≤ 256) = true := decide_eq_true c1
  clear hn
  go_wp2_with fail
  refine (l1Byte_any HC.out).mono ?_
  rintro e W1 ⟨x, rfl, hx0, hx1, hC, hS⟩
  have H1 := Aside0.mk (And.intro hx0 (And.intro hx1 (And.intro hC hS)))
  clear hx1 hC hS
  go_wp2_with fail
  go_ret
  exact ⟨_, rfl, Int.emod_nonneg _ n0, Int.emod_lt_of_pos _ (by have := HN.out; omega), H1.out.2.2.1, H1.out.2.2.2⟩
 ·have c1b : decide (n ≤ 256) = false := decide_eq_false c1
  clear hn
  go_wp2_with fail
  refine (l1Byte_any HC.out).mono ?_
  rintro e W1 ⟨x, rfl, hx0, hx1, hC, hS⟩
  have H1 := Aside0.mk (And.intro hx0 (And.intro hx1 (And.intro hC hS)))
  clear hx1 hx0 hC hS
  go_wp2_with fail
  refine (l1Byte_any H1.out.2.2.1).mono ?_
  rintro e W2 ⟨y, rfl, hx0, hx1, hC, hS⟩
  have H2 := Aside0.mk (And.intro hx0 (And.intro hx1 (And.intro hC hS)))
  clear hx1 hx0 hC hS
  go_wp2_with fail
  refine (l1Byte_any H2.out.2.2.1).mono ?_
  rintro e W3 ⟨z, rfl, hx0, hx1, hC, hS⟩
  have H3 := Aside0.mk (And.intro hx0 (And.intro hx1 (And.intro hC hS)))
  clear hx1 hx0 hC hS
  go_wp2_with fail
  go_ret
  have hv : 0 ≤ wrap64 (wrap64 (wrap64 (x * 65536) + wrap64 (y * 256)) + z) := by
   have h1 := H1.out
   have h2 := H2.out
   have h3 := H3.out
   unfold wrap64
   omega
  exact ⟨_, rfl, Int.tmod_nonneg _ hv, Int.tmod_lt_of_pos _ (by have := HN.out; omega), H3.out.2.2.1, H1.out.2.2.2.trans (H2.out.2.2.2.trans H3.out.2.2.2)⟩
set_option maxHeartbeats 4000000 in
set_option maxRecDepth 100000 in
theorem l1Once_any {lo p c : Nat} {A : Option Addr} {xs : List Int} {W : World} (n : Int) (hn : 1 ≤ n) (h : Cur lo p A c xs W) :
  Calls Try.prog 100 #[.pointer (some ⟨p, 0, none⟩), .int .i64 n] W fun e W' => ∃ x : Bool, e = .returned (.bool x) ∧ Cur lo p A c xs W' ∧ Stp lo p W W' := by
 have HC := Aside0.mk h
 clear h
 go_enter Try.func100, Try.ntmps100
 go_wp2_with fail
 refine (l1Below_any n hn HC.out).mono ?_
 rintro e W1 ⟨x, rfl, hx0, hx1, hC, hS⟩
 have H1 := Aside0.mk (And.intro hC hS)
 clear hx0 hx1 hC hS
 go_wp2_with fail
 go_ret
 exact ⟨_, rfl, H1.out.1, H1.out.2⟩
set_option maxHeartbeats 4000000 in
set_option maxRecDepth 100000 in
theorem l1New_any {c : Nat} {A : Option Addr} {xs : List Int} {w : World} (hr : Kd.C (Kd.int .u8) w A xs.length xs) (hc : xs.length ≤ c) (hs : ∀ y ∈ xs, 0 ≤ y ∧ y < 256) (hl : xs.length ≤ 1048576) :
  Calls Try.prog 48 #[.slice A xs.length c] w fun e W' => ∃ p : Nat, e = .returned (.pointer (some ⟨p, 0, none⟩)) ∧ Cur w.heap.size p A c xs W' ∧ Below w.heap.size w W' := by
 have HR := Aside0.mk hr
 have HC := Aside0.mk hc
 have HS := Aside0.mk hs
 have HL := Aside0.mk hl
 clear hr hc hs hl
 go_enter Try.func48, Try.ntmps48
 go_wp2_with fail
 go_loopg [3, 4] xs.length (fun kq v3 v4 w' => ∃ (i : Nat) (h : Int), v3 = .int .i64 h ∧ v4 = .int .i64 i ∧ Aside0 (i ≤ xs.length ∧ xs.length ≤ kq + i) ∧ Drawn0 w w')
 case atStart => exact ⟨0, _, rfl, rfl, ⟨by omega, by omega⟩, Drawn0.refl _⟩
 case round =>
  obtain ⟨i, h, rfl, rfl, HI, ⟨m, rfl⟩⟩ := hrel
  by_cases ci : i < xs.length
  ·have cib : decide (i < xs.length) = true := decide_eq_true ci
   cases gk with
   | zero => exact absurd HI.out (by omega)
   | succ mm =>
     obtain ⟨ad, e_, hx5⟩ := Kd.at_int HR.out (i : Int) (by omega) (by omega)
     subst e_
     rw [Int.toNat_natCast] at hx5
     have HW1 := Aside0.mk (show wrap64 ((i : Int) + 1) = ((i + 1 : Nat) : Int) by have := HL.out; unfold wrap64; omega)
     have HI2 := Aside0.mk ci
     have p5 := eq_true (show (0 : Int) ≤ (i : Int) by omega)
     have q5 := eq_true (show (i : Int) < (xs.length : Int) by omega)
     clear ci
     go_wp2_with fail
     go_roundg mm
     case measure => omega
     case rel => exact ⟨i + 1, _, rfl, by rw [HW1.out], ⟨by have := HI.out; have := HI2.out; omega⟩, by repeat (first | exact Drawn0.refl _ | apply Drawn0.step)⟩
  ·have cib : decide (i < xs.length) = false := decide_eq_false ci
   go_wp2_with fail
   go_ret
   have hbw := pw_below_drewN (Below.refl w.heap.size w)
   refine ⟨w.heap.size, by simp, ⟨Kd.V_alloc (Kd.V_below (Kd.V_mk HC.out (Kd.C_F (Kd.heap_int .u8) HR.out)) (hbw _)) _, ⟨0, _, by have := blk_new (w.drewN m) (.cells #[.slice A xs.length c, .int .i64 0, .int .i64 h] 123); simpa using this, by omega, by omega⟩, Nat.le_refl _, HS.out⟩, below_alloc (hbw _) _⟩

/-! ### zl_draw2: a text by hand -/
def dNew (a : Int) : List Int × List S79 × Int × Bool := if a < 16 then ([], [], 0, false) else if a > 1024 then ([], [], 0, false) else (List.replicate (wrap64 (a * 64)).toNat 0, [], -1, false)
theorem zeros_loop (n : Int) (hn : n ≤ 65536) : ∀ (d i : Nat), (i : Int) + d = n → Ev (fun k => spec_l1Zeros.l0 k n (List.replicate i 0) (i : Int)) (List.replicate n.toNat 0) := by
 intro d
 induction d with
 | zero => intro i hi; exact Ev.step (fun K => by simp only [spec_l1Zeros.l0]; rw [if_neg (by omega)]) (by rw [show n.toNat = i by omega]; exact Ev.now _)
 | succ d ih =>
   intro i hi
   have ih' := ih (i + 1) (by omega)
   exact Ev.step (fun K => by simp only [spec_l1Zeros.l0]; rw [if_pos (by omega), if_pos (by rw [List.length_replicate]; omega), show List.replicate i (0 : Int) ++ [0] = List.replicate (i + 1) 0 from List.replicate_succ'.symm, show wrap64 ((i : Int) + 1) = ((i + 1 : Nat) : Int) by unfold wrap64; omega]) ih'
theorem l1Zeros_ev (n : Nat) (hn : n ≤ 65536) : Ev (fun k => spec_l1Zeros.f k (n : Int)) (List.replicate n 0) := by
 have := zeros_loop (n : Int) (by omega) n 0 (by omega)
 rw [Int.toNat_natCast] at this
 exact this
theorem specNew_ev (a : Int) : Ev (fun k => spec_DiskNew.f k a) (dNew a) := by
 unfold spec_DiskNew.f dNew
 by_cases c1 : a < 16
 ·exact Ev.congr (fun K => by rw [if_pos c1]) (by rw [if_pos c1]; exact Ev.now _)
 refine Ev.congr (fun K => by rw [if_neg c1]) ?_
 rw [if_neg c1]
 by_cases c2 : a > 1024
 ·exact Ev.congr (fun K => by rw [if_pos c2]) (by rw [if_pos c2]; exact Ev.now _)
 refine Ev.congr (fun K => by rw [if_neg c2]) ?_
 rw [if_neg c2]
 have hw : wrap64 (a * 64) = a * 64 := by unfold wrap64; omega
 have h := zeros_loop (wrap64 (a * 64)) (by omega) (wrap64 (a * 64)).toNat 0 (by omega)
 exact Ev.bind h (Ev.now _)
/-- A disk as the draws make it: valid, its numbers bytes. -/
structure Gd (l0 : List Int) (l1 : List S79) (a2 : Int) : Prop where
 v : vD l0 l1 a2 = true
 b0 : ∀ x ∈ l0, 0 ≤ x ∧ x < 256
 b1 : ∀ q ∈ l1, ∀ y ∈ q.f1, 0 ≤ y ∧ y < 256
theorem Gd.ok {l0 : List Int} {l1 : List S79} {a2 : Int} (h : Gd l0 l1 a2) : l0.length ≤ 1048576 ∧ okPendS l1 := by
 obtain ⟨f1, f2, f3, f4, f5, f6, f7⟩ := vD_facts h.v
 exact ⟨by omega, by omega, fun x hx => by have := (f7 x hx).2.2; omega⟩
theorem Gd.new (x : Int) (h0 : 0 ≤ x) (h1 : x < 1000) : Gd (dNew (16 + x)).1 (dNew (16 + x)).2.1 (dNew (16 + x)).2.2.1 := by
 have e : dNew (16 + x) = (List.replicate (64 * (16 + x).toNat) 0, [], -1, false) := by
  unfold dNew
  rw [if_neg (by omega), if_neg (by omega), show (wrap64 ((16 + x) * 64)).toNat = 64 * (16 + x).toNat by unfold wrap64; omega]
 rw [e]
 refine ⟨?_, fun y hy => ?_, fun q hq => by cases hq⟩
 ·unfold vD
  simp only [List.length_replicate, Bool.and_eq_true, decide_eq_true_eq]
  simp
  omega
 ·rw [List.eq_of_mem_replicate hy]; decide
theorem ovr_bytes {l d : List Int} {s : Int} (hl : ∀ x ∈ l, 0 ≤ x ∧ x < 256) (hd : ∀ x ∈ d, 0 ≤ x ∧ x < 256) : ∀ x ∈ ovr l s d, 0 ≤ x ∧ x < 256 := by
 intro x hx
 unfold ovr at hx
 simp only [List.mem_append] at hx
 rcases hx with hx | hx | hx
 ·exact hl x (List.mem_of_mem_take hx)
 ·exact hd x hx
 ·exact hl x (List.mem_of_mem_drop hx)
theorem syF_bytes {l0 : List Int} {l1 : List S79} (h0 : ∀ x ∈ l0, 0 ≤ x ∧ x < 256) (h1 : ∀ q ∈ l1, ∀ y ∈ q.f1, 0 ≤ y ∧ y < 256) : ∀ i, i ≤ l1.length → ∀ x ∈ syF l0 l1 i, 0 ≤ x ∧ x < 256
 | 0, _ => h0
 | i + 1, hi => ovr_bytes (syF_bytes h0 h1 i (by omega)) (h1 _ (rdP_mem l1 i (by omega)))
theorem Gd.w {l0 : List Int} {l1 : List S79} {a2 : Int} (h : Gd l0 l1 a2) (a3 : Bool) (s : Int) (xs : List Int) (hx : ∀ x ∈ xs, 0 ≤ x ∧ x < 256) : Gd (dWrite l0 l1 a2 a3 s xs).1 (dWrite l0 l1 a2 a3 s xs).2.1 (dWrite l0 l1 a2 a3 s xs).2.2.1 := by
 unfold dWrite
 split
 next c =>
  split
  next c0 => rw [← c0]; exact h
  next c0 =>
   have hf := vD_facts h.v
   refine ⟨vD_snoc h.v c.2.2.1 c.2.2.2.1 (by omega), h.b0, fun q hq => ?_⟩
   rcases List.mem_append.1 hq with hq | hq
   ·exact h.b1 q hq
   ·rw [List.mem_singleton.1 hq]; exact hx
 ·exact h
theorem Gd.s {l0 : List Int} {l1 : List S79} {a2 : Int} (h : Gd l0 l1 a2) (a3 : Bool) : Gd (dSync l0 l1 a2 a3).1 (dSync l0 l1 a2 a3).2.1 (dSync l0 l1 a2 a3).2.2.1 := by
 unfold dSync
 split
 ·split
  next c0 => rw [← c0]; exact h
  ·exact ⟨vD_sync h.v, syF_bytes h.b0 h.b1 _ (Nat.le_refl _), fun q hq => by cases hq⟩
 ·exact h
/-- A drawn disk in a box g: its rows are of this call's making, from block b0 on. -/
structure OD (b0 g : Nat) (W : World) (A : Option Addr) (c : Nat) (B : Option Addr) (d : Nat) (l0 : List Int) (l1 : List S79) (a2 : Int) (a3 : Bool) : Prop where
 box : W.heap[g]? = some (.cells #[.slice A l0.length c, .slice B l1.length d, .int .i64 a2, .bool a3] 25 (0, 0))
 r : Kd.R (Kd.int .u8) 5 W b0 (fun _ => True) (.slice A l0.length c) l0
 s : Kd.S k79 79 W b0 (fun k => some k ≠ (.slice A l0.length c : Value).ownBlock) (.slice B l1.length d) l1
 le : b0 ≤ g
section
variable {lo p b0 g c d c' d' : Nat} {W W' : World} {A B A' B' : Option Addr} {l0 r1 : List Int} {l1 r2 : List S79} {a2 r3 : Int} {a3 r4 : Bool}
theorem OD.c0 (h : OD b0 g W A c B d l0 l1 a2 a3) : Kd.C (Kd.int .u8) W A l0.length l0 := (Kd.R_reads' h.r).2.2
theorem OD.n0 (h : OD b0 g W A c B d l0 l1 a2 a3) : l0.length ≤ c := (Kd.R_reads' h.r).2.1
theorem OD.c1 (h : OD b0 g W A c B d l0 l1 a2 a3) : Kd.C k79 W B l1.length l1 := (Kd.R_reads' (Kd.S_R h.s)).2.2
theorem OD.n1 (h : OD b0 g W A c B d l0 l1 a2 a3) : l1.length ≤ d := (Kd.R_reads' (Kd.S_R h.s)).2.1
theorem OD.below (h : OD b0 g W A c B d l0 l1 a2 a3) (hb : Below W.heap.size W W') : OD b0 g W' A c B d l0 l1 a2 a3 :=
 ⟨blk_below h.box hb, Kd.R_below h.r hb, Kd.S_below h.s hb, h.le⟩
theorem OD.stp (h : OD b0 g W A c B d l0 l1 a2 a3) (hp : p < b0) (hs : Stp lo p W W') : OD b0 g W' A c B d l0 l1 a2 a3 := by
 have hl := h.le
 refine ⟨(hs.k.2 g (blk_lt h.box) (by omega)).trans h.box, Kd.R_mono (Kd.R_kept (Kd.R_bound h.r) hs.k (fun k hk => by have := hk.2.1; omega)) (fun _ _ => trivial), Kd.S_mono (Kd.S_kept (Kd.S_bound h.s) hs.k (fun k hk => by have := hk.2.1; omega)) (fun _ hk => hk.1), hl⟩
theorem OD.set2 (h : OD b0 g W A c B d l0 l1 a2 a3) (r3 : Int) : OD b0 g (W.setCell ⟨g, 2, none⟩ (.int .i64 r3)) A c B d l0 l1 r3 a3 :=
 ⟨blk_put h.box 2 _ rfl, Kd.R_mono (Kd.R_far (p := ⟨g, 2, none⟩) (Kd.R_types h.r h.box (by decide)) (fun _ hk => hk.2) _) (fun _ _ => trivial), Kd.S_mono (Kd.S_far (p := ⟨g, 2, none⟩) (Kd.S_types h.s h.box (by decide)) (fun _ hk => hk.2) _) (fun _ hk => hk.1), h.le⟩
theorem OD.set3 (h : OD b0 g W A c B d l0 l1 a2 a3) (r4 : Bool) : OD b0 g (W.setCell ⟨g, 3, none⟩ (.bool r4)) A c B d l0 l1 a2 r4 :=
 ⟨blk_put h.box 3 _ rfl, Kd.R_mono (Kd.R_far (p := ⟨g, 3, none⟩) (Kd.R_types h.r h.box (by decide)) (fun _ hk => hk.2) _) (fun _ _ => trivial), Kd.S_mono (Kd.S_far (p := ⟨g, 3, none⟩) (Kd.S_types h.s h.box (by decide)) (fun _ hk => hk.2) _) (fun _ hk => hk.1), h.le⟩
theorem OD.put {x0 x1 x2 x3 : Value} (hl : b0 ≤ g) (hg : g < W.heap.size) (K : W'.heap[g]? = some (.cells #[x0, x1, x2, x3] 25 (0, 0))) (hb : b0 ≤ W.heap.size)
  (hR : Kd.R (Kd.int .u8) 5 W' W.heap.size (fun _ => True) (.slice A' r1.length c') r1) (hS : Kd.S k79 79 W' W.heap.size (fun k_ => some k_ ≠ (.slice A' r1.length c' : Value).ownBlock) (.slice B' r2.length d') r2) :
  OD b0 g ((((W'.setCell ⟨g, 0, none⟩ (.slice A' r1.length c')).setCell ⟨g, 1, none⟩ (.slice B' r2.length d')).setCell ⟨g, 2, none⟩ (.int .i64 r3)).setCell ⟨g, 3, none⟩ (.bool r4)) A' c' B' d' r1 r2 r3 r4 :=
 ⟨blk_set4 K, Kd.R_lower (R_farB (R_farB (R_farB (R_farB hR hg _ _) hg _ _) hg _ _) hg _ _) hb, Kd.S_lower (S_farB (S_farB (S_farB (S_farB hS hg _ _) hg _ _) hg _ _) hg _ _) hb, hl⟩
end

/-! ### zl_draw3: a text by hand -/
section
variable {lo p c g : Nat} {A : Option Addr} {xs : List Int} {W0 W W1 : World}
theorem Cur.far (h : Cur lo p A c xs W) (hg : g ≠ p) (hl : lo ≤ g) (j : Nat) (v : Value) : Cur lo p A c xs (W.setCell ⟨g, j, none⟩ v) := by
 obtain ⟨i, h', hx, h0, h1⟩ := h.x
 exact ⟨Kd.V_far h.r (fun k hk => by show k ≠ g; omega) v, ⟨i, h', blk_far hx (fun e => hg e.symm) v, h0, h1⟩, h.l, h.s⟩
theorem Stp.setg (h : Stp lo p W0 W) (hg : W0.heap.size ≤ g) (hl : lo ≤ g) (j : Nat) (v : Value) : Stp lo p W0 (W.setCell ⟨g, j, none⟩ v) := by
 have hb := below_setB h.b hl j v
 exact ⟨hb, ⟨hb.size, fun i hi hn => (Below.heap_setCell W ⟨g, j, none⟩ v i (by show i ≠ g; omega)).trans (h.k.2 i hi hn)⟩⟩
theorem Stp.blk (h : Stp lo p W W1) {o : Obj} (K : W.heap[g]? = some o) (hg : g ≠ p) : W1.heap[g]? = some o := (h.k.2 g (Array.getElem?_eq_some_iff.1 K).1 hg).trans K
end
theorem row_put {W : World} {gd t : Nat} {l : List Int} {tail : List Value} (h : W.heap[gd]? = some (.cells (l.map (Value.int .u8) ++ tail).toArray t (0, 0))) (k : Nat) (hk : k < l.length) (y : Int) :
  (W.setCell ⟨gd, k, none⟩ (.int .u8 y)).heap[gd]? = some (.cells ((l.set k y).map (Value.int .u8) ++ tail).toArray t (0, 0)) :=
 blk_put h k (.int .u8 y) (by rw [List.setIfInBounds_toArray, List.set_append_left _ _ (by simpa using hk), List.map_set])
theorem row_cell {W : World} {gd t : Nat} {l : List Int} {tail : List Value} (h : W.heap[gd]? = some (.cells (l.map (Value.int .u8) ++ tail).toArray t (0, 0))) (k : Nat) (hk : k < l.length) :
   W.cell? ⟨gd, k, none⟩ = some (.int .u8 (l[k])) :=
 (blk_cell h k).trans (by rw [List.getElem?_toArray, List.getElem?_append_left (by simpa using hk), List.getElem?_map, List.getElem?_eq_getElem hk]; rfl)
theorem Gd.fuel {l0 : List Int} {l1 : List S79} {a2 : Int} (h : Gd l0 l1 a2) (k : Int) (h0 : -1 ≤ k) (h1 : k ≤ 1000000) : Gd l0 l1 k := by
 refine ⟨?_, h.b0, h.b1⟩
 have hv := h.v
 unfold vD at hv ⊢
 simp only [Bool.and_eq_true, decide_eq_true_eq] at hv ⊢
 exact ⟨⟨⟨hv.1.1.1, h0⟩, h1⟩, hv.2⟩
theorem R_set4 {α : Type} {d : Kd α} {e base g : Nat} {ok : Nat → Prop} {v : Value} {ys : List α} {W : World} {a b c x a' b' c' x' : Value} (h : d.R e W base ok v ys) (K : W.heap[g]? = some (.cells #[a, b, c, x] 25 (0, 0))) (ht : ∀ q, q ∈ e :: d.E → q ≠ 25) :
  d.R e ((((W.setCell ⟨g, 0, none⟩ a').setCell ⟨g, 1, none⟩ b').setCell ⟨g, 2, none⟩ c').setCell ⟨g, 3, none⟩ x') base ok v ys :=
 Kd.R_mono (Kd.R_far (p := ⟨g, 3, none⟩) (Kd.R_far (p := ⟨g, 2, none⟩) (Kd.R_far (p := ⟨g, 1, none⟩) (Kd.R_far (p := ⟨g, 0, none⟩) (Kd.R_types h K ht) (fun _ hk => hk.2) _) (fun _ hk => hk.2) _) (fun _ hk => hk.2) _) (fun _ hk => hk.2) _) (fun _ hk => hk.1)
theorem S_set4 {α : Type} {d : Kd α} {e base g : Nat} {ok : Nat → Prop} {v : Value} {ys : List α} {W : World} {a b c x a' b' c' x' : Value} (h : Kd.S d e W base ok v ys) (K : W.heap[g]? = some (.cells #[a, b, c, x] 25 (0, 0))) (ht : ∀ q, q ∈ e :: d.E → q ≠ 25) :
  Kd.S d e ((((W.setCell ⟨g, 0, none⟩ a').setCell ⟨g, 1, none⟩ b').setCell ⟨g, 2, none⟩ c').setCell ⟨g, 3, none⟩ x') base ok v ys :=
 Kd.S_mono (Kd.S_far (p := ⟨g, 3, none⟩) (Kd.S_far (p := ⟨g, 2, none⟩) (Kd.S_far (p := ⟨g, 1, none⟩) (Kd.S_far (p := ⟨g, 0, none⟩) (Kd.S_types h K ht) (fun _ hk => hk.2) _) (fun _ hk => hk.2) _) (fun _ hk => hk.2) _) (fun _ hk => hk.2) _) (fun _ hk => hk.1)
section
variable {lo p c g n0 : Nat} {A : Option Addr} {xs : List Int} {W0 W W1 : World} {a b x y : Value}
theorem Cur.far4 (h : Cur lo p A c xs W) (hg : g ≠ p) (hl : lo ≤ g) : Cur lo p A c xs ((((W.setCell ⟨g, 0, none⟩ a).setCell ⟨g, 1, none⟩ b).setCell ⟨g, 2, none⟩ x).setCell ⟨g, 3, none⟩ y) :=
 (((h.far hg hl 0 a).far hg hl 1 b).far hg hl 2 x).far hg hl 3 y
theorem Stp.set4 (h : Stp lo p W0 W) (hg : W0.heap.size ≤ g) (hl : lo ≤ g) : Stp lo p W0 ((((W.setCell ⟨g, 0, none⟩ a).setCell ⟨g, 1, none⟩ b).setCell ⟨g, 2, none⟩ x).setCell ⟨g, 3, none⟩ y) :=
 (((h.setg hg hl 0 a).setg hg hl 1 b).setg hg hl 2 x).setg hg hl 3 y
theorem blk_far4 {t : Nat} {cs : Array Value} (h : W.heap[n0]? = some (.cells cs t (0, 0))) (hg : n0 ≠ g) : ((((W.setCell ⟨g, 0, none⟩ a).setCell ⟨g, 1, none⟩ b).setCell ⟨g, 2, none⟩ x).setCell ⟨g, 3, none⟩ y).heap[n0]? = some (.cells cs t (0, 0)) :=
 blk_far (blk_far (blk_far (blk_far h (p := ⟨g, 0, none⟩) hg a) (p := ⟨g, 1, none⟩) hg b) (p := ⟨g, 2, none⟩) hg x) (p := ⟨g, 3, none⟩) hg y
end
set_option maxHeartbeats 4000000 in
set_option maxRecDepth 100000 in
theorem l1Disk_any {lo p c : Nat} {A : Option Addr} {xs : List Int} {W : World} (h : Cur lo p A c xs W) :
  Calls Try.prog 104 #[.pointer (some ⟨p, 0, none⟩)] W fun e W' => ∃ (v0 v1 : Value) (l0 : List Int) (l1 : List S79) (a2 : Int) (a3 : Bool), e = .returned (.agg #[v0, v1, .int .i64 a2, .bool a3]) ∧ Kd.R (Kd.int .u8) 5 W' W.heap.size (fun _ => True) v0 l0 ∧ Kd.S k79 79 W' W.heap.size (fun k_ => some k_ ≠ v0.ownBlock) v1 l1 ∧ Gd l0 l1 a2 ∧ Cur lo p A c xs W' ∧ Stp lo p W W' := by
 have hb0 : Below W.heap.size W (W.alloc (.cells #[.slice none 0 0, .slice none 0 0, .int .i64 0, .bool false] 25)) := below_alloc (Below.refl _ _) _
 have HC := Aside0.mk (h.below hb0)
 have HS := Aside0.mk (Stp.of_below h hb0)
 have K2 := Aside0.mk (blk_new W (.cells #[.slice none 0 0, .slice none 0 0, .int .i64 0, .bool false] 25))
 have HP := Aside0.mk h.lt
 have HLO := Aside0.mk h.l
 have hu25 := Try.underlying25
 clear hb0 h
 go_enter Try.func104, Try.ntmps104
 go_wp2_with fail
 generalize (W.alloc (.cells #[.slice none 0 0, .slice none 0 0, .int .i64 0, .bool false] 25)) = W0 at *
 obtain ⟨n0, hn0⟩ : ∃ n0, n0 = W.heap.size := ⟨_, rfl⟩
 rw [← hn0] at K2 HP ⊢
 have HN := Aside0.mk hn0
 clear hn0
 refine (l1Below_any 4 (by decide) HC.out).mono ?_
 rintro e W1 ⟨x, rfl, hx0, hx1, hC, hS⟩
 replace HC := Aside0.mk hC
 replace K2 := Aside0.mk (hS.blk K2.out (by have := HP.out; omega))
 replace HS := Aside0.mk (HS.out.trans hS)
 have HX := Aside0.mk (And.intro hx0 hx1)
 clear hC hS
 go_wp2_with fail
 try rw [show wrap64 (16 + x) = 16 + x by have := HX.out; unfold wrap64; omega]
 obtain ⟨kd, hkd⟩ := (specNew_ev (16 + x)).rounds
 have hG := Gd.new x hx0 (by omega)
 obtain ⟨q, hq⟩ : ∃ q, q = dNew (16 + x) := ⟨_, rfl⟩
 refine (spec_DiskNew.calls kd (16 + x) q.1 q.2.1 q.2.2.1 q.2.2.2 W1 (by rw [hkd, hq])).mono ?_
 rw [← hq] at hG
 have HG := Aside0.mk hG
 clear hkd hG hq hx0 hx1 HX
 rintro e W2 ⟨v0, v1, rfl, hR, hS, gb⟩
 obtain ⟨A', c', ea⟩ := Kd.R_slice hR
 obtain ⟨B', d', eb⟩ := Kd.S_slice hS
 subst ea
 subst eb
 have hn1 : n0 ≤ W1.heap.size := by have := HS.out.b.size; rw [HN.out]; exact this
 have hn2 := Nat.le_trans hn1 gb.size
 replace HS := Aside0.mk (HS.out.trans (Stp.of_below HC.out gb))
 replace K2 := Aside0.mk (blk_below K2.out gb)
 have hK2 := blk_lt K2.out
 replace HC := Aside0.mk (HC.out.below gb)
 have HO := Aside0.mk (show OD n0 W2.heap.size (W2.alloc (.cells #[.slice A' q.1.length c', .slice B' q.2.1.length d', .int .i64 q.2.2.1, .bool q.2.2.2] 25)) A' c' B' d' q.1 q.2.1 q.2.2.1 q.2.2.2 from ⟨blk_new _ _, Kd.R_alloc (Kd.R_lower hR hn1) _, Kd.S_alloc (Kd.S_lower hS hn1) _, hn2⟩)
 clear hR hS gb
 go_wp2_with fail
 have hb1 := below_alloc (Below.refl _ W2) (.cells #[.slice A' q.1.length c', .slice B' q.2.1.length d', .int .i64 q.2.2.1, .bool q.2.2.2] 25)
 replace HS := Aside0.mk (HS.out.trans (Stp.of_below HC.out hb1))
 replace K2 := Aside0.mk (blk_below K2.out hb1)
 replace HC := Aside0.mk (HC.out.below hb1)
 clear hb1
 generalize (W2.alloc (.cells #[.slice A' q.1.length c', .slice B' q.2.1.length d', .int .i64 q.2.2.1, .bool q.2.2.2] 25)) = W3 at *
 obtain ⟨g, hg⟩ : ∃ g, g = W2.heap.size := ⟨_, rfl⟩
 have HGN := Aside0.mk (show n0 < g by rw [hg]; exact hK2)
 rw [← hg] at HO ⊢
 clear hg hn1 hn2 hK2
 refine (l1Below_any 7 (by decide) HC.out).mono ?_
 rintro e W4 ⟨n, rfl, hx0, hx1, hC, hS⟩
 replace HC := Aside0.mk hC
 replace K2 := Aside0.mk (hS.blk K2.out (by have := HP.out; omega))
 replace HO := Aside0.mk (HO.out.stp HP.out hS)
 replace HS := Aside0.mk (HS.out.trans hS)
 obtain ⟨n, rfl⟩ := Int.eq_ofNat_of_zero_le hx0
 have HX := Aside0.mk hx1
 clear hC hS hx0 hx1
 go_wp2_with fail
 go_loopg [5] n (fun kq v5 w' => ∃ (i : Nat) (l0 : List Int) (l1 : List S79) (a2 : Int) (a3 : Bool) (A' B' : Option Addr) (c' d' : Nat), v5 = .int .i64 i ∧ Aside0 (i ≤ n ∧ n ≤ kq + i) ∧ Aside0 (OD n0 g w' A' c' B' d' l0 l1 a2 a3) ∧ Aside0 (Gd l0 l1 a2) ∧ Aside0 (Cur lo p A c xs w') ∧ Aside0 (Stp lo p W w') ∧ Aside0 (w'.heap[n0]? = some (.cells #[.slice none 0 0, .slice none 0 0, .int .i64 0, .bool false] 25 (0, 0))))
 case atStart => exact ⟨0, q.1, q.2.1, q.2.2.1, q.2.2.2, A', B', c', d', rfl, ⟨by omega, by omega⟩, HO, HG, HC, HS, K2⟩
 case round =>
  clear HO HG HC HS K2
  obtain ⟨i, l0, l1, a2, a3, A', B', c', d', rfl, HI, HO, HG, HC, HS, K2⟩ := hrel
  obtain ⟨z0, z1, z2, z3, y0, y1, y2, y3⟩ := blk_cells4 HO.out.box
  by_cases ci : i < n
  ·have cib : decide (i < n) = true := decide_eq_true ci
   have HIN := Aside0.mk ci
   clear ci
   cases gk with
   | zero => exact absurd HI.out (by have := HIN.out; omega)
   | succ m =>
     have hv := vD_facts HG.out.v
     have HV := Aside0.mk hv
     have hok := HG.out.ok
     go_wp2_with fail
     refine (spec_l1Sectors.calls A' c' l0 B' d' l1 a2 a3 ((l0.length / 64 : Nat) : Int) _ HO.out.c0 HO.out.n0 HO.out.c1 HO.out.n1 (by unfold spec_l1Sectors.f; rw [sectors_at l0 hok.1])).mono ?_
     rintro e W5 ⟨rfl, hb⟩
     have HOK := Aside0.mk hok
     replace HS := Aside0.mk (HS.out.trans (Stp.of_below HC.out hb))
     replace K2 := Aside0.mk (blk_below K2.out hb)
     replace HC := Aside0.mk (HC.out.below hb)
     replace HO := Aside0.mk (HO.out.below hb)
     clear hb hok hv z0 z1 z2 z3 y0 y1 y2 y3
     obtain ⟨S, hS_⟩ : ∃ S : Int, S = ((l0.length / 64 : Nat) : Int) := ⟨_, rfl⟩
     rw [← hS_]
     have HSD := Aside0.mk hS_
     clear hS_
     go_wp2_with fail
     refine (l1Below_any S (by rw [HSD.out]; have := HV.out; omega) HC.out).mono ?_
     rintro e W6 ⟨s, rfl, hx0, hx1, hC, hS⟩
     replace HC := Aside0.mk hC
     replace K2 := Aside0.mk (hS.blk K2.out (by have := HP.out; omega))
     replace HO := Aside0.mk (HO.out.stp HP.out hS)
     replace HS := Aside0.mk (HS.out.trans hS)
     clear hC hS hx0 hx1
     go_wp2_with fail
     obtain ⟨kz, hkz⟩ := (l1Zeros_ev 64 (by decide)).rounds
     refine (spec_l1Zeros.calls kz 64 _ _ hkz).mono ?_
     obtain ⟨D, hD⟩ : ∃ D : List Int, D = List.replicate 64 0 := ⟨_, rfl⟩
     have hDl : D.length = 64 := by rw [hD]; simp
     have hDb : ∀ y ∈ D, 0 ≤ y ∧ y < 256 := fun y hy => by rw [hD] at hy; rw [List.eq_of_mem_replicate hy]; decide
     rw [← hD]
     rintro e W7 ⟨vd, rfl, hR, hb⟩
     obtain ⟨gd, cp, tail, ev, hgb, _, hcm, hgd, hcc⟩ := R_row hR (by omega)
     subst ev
     rw [hDl] at hcc ⊢
     have HGD := Aside0.mk hgd
     have HDB := Aside0.mk (And.intro hDl hDb)
     have HCM := Aside0.mk (And.intro hcm hcc)
     have HPG := Aside0.mk (show gd ≠ p ∧ lo ≤ gd ∧ W6.heap.size ≤ gd by have := HC.out.lt; have := HC.out.l; omega)
     have HT := Aside0.mk (Stp.of_below HC.out hb)
     replace HC := Aside0.mk (HC.out.below hb)
     clear hR hb hgb hgd hcc hcm hD hDl hDb hkz
     go_wp2_with fail
     refine (l1Below_any 64 (by decide) HC.out).mono ?_
     rintro e W8 ⟨kk, rfl, hx0, hx1, hC, hS⟩
     replace HC := Aside0.mk hC
     replace HGD := Aside0.mk (hS.blk HGD.out HPG.out.1)
     replace HT := Aside0.mk (HT.out.trans hS)
     obtain ⟨kk, rfl⟩ := Int.eq_ofNat_of_zero_le hx0
     have HKK := Aside0.mk (show kk < 64 by omega)
     clear hC hS hx0 hx1
     go_wp2_with fail
     refine (l1Byte_any HC.out).mono ?_
     rintro e W9 ⟨y, rfl, hx0, hx1, hC, hS⟩
     replace HC := Aside0.mk hC
     replace HGD := Aside0.mk (hS.blk HGD.out HPG.out.1)
     replace HT := Aside0.mk (HT.out.trans hS)
     have HY := Aside0.mk (And.intro hx0 hx1)
     clear hC hS
     have q1 := row_cell HGD.out kk (by rw [HDB.out.1]; exact HKK.out)
     have f1 := blk_frozen HGD.out kk
     have pl := blk_lt HGD.out
     have p5 := eq_true (show (0 : Int) ≤ (kk : Int) by omega)
     have q5 := eq_true (show (kk : Int) < 64 by have := HKK.out; omega)
     go_upto_region 11 with (fail)
     have hy : y % 256 = y := by have := HY.out; omega
     try rw [hy]
     replace HGD := Aside0.mk (row_put HGD.out kk (by rw [HDB.out.1]; exact HKK.out) y)
     replace HT := Aside0.mk (HT.out.setg HPG.out.2.2 HPG.out.2.1 kk (.int .u8 y))
     replace HC := Aside0.mk (HC.out.far HPG.out.1 HPG.out.2.1 kk (.int .u8 y))
     replace HDB := Aside0.mk (show (D.set kk y).length = 64 ∧ ∀ z ∈ D.set kk y, 0 ≤ z ∧ z < 256 from ⟨by rw [List.length_set]; exact HDB.out.1, fun z hz => (List.mem_or_eq_of_mem_set hz).elim (HDB.out.2 z) (fun e => by rw [e]; have := HY.out; omega)⟩)
     generalize (W9.setCell ⟨gd, kk, none⟩ (.int .u8 y)) = W10 at *
     generalize D.set kk y = D1 at *
     clear q1 f1 pl p5 q5 hy
     have q1 := row_cell HGD.out 63 (by rw [HDB.out.1]; decide)
     have f1 := blk_frozen HGD.out 63
     have pl := blk_lt HGD.out
     go_upto_region 12 with (fail)
     replace HGD := Aside0.mk (row_put HGD.out 63 (by rw [HDB.out.1]; decide) ((i : Int) % 256))
     replace HT := Aside0.mk (HT.out.setg HPG.out.2.2 HPG.out.2.1 63 (.int .u8 ((i : Int) % 256)))
     replace HC := Aside0.mk (HC.out.far HPG.out.1 HPG.out.2.1 63 (.int .u8 ((i : Int) % 256)))
     replace HDB := Aside0.mk (show (D1.set 63 ((i : Int) % 256)).length = 64 ∧ ∀ z ∈ D1.set 63 ((i : Int) % 256), 0 ≤ z ∧ z < 256 from ⟨by rw [List.length_set]; exact HDB.out.1, fun z hz => (List.mem_or_eq_of_mem_set hz).elim (HDB.out.2 z) (fun e => by rw [e]; omega)⟩)
     generalize (W10.setCell ⟨gd, 63, none⟩ (.int .u8 ((i : Int) % 256))) = W11 at *
     generalize D1.set 63 ((i : Int) % 256) = D2 at *
     clear q1 f1 pl
     replace HO := Aside0.mk (HO.out.stp HP.out HT.out)
     replace K2 := Aside0.mk (HT.out.blk K2.out (by have := HP.out; omega))
     replace HS := Aside0.mk (HS.out.trans HT.out)
     have hCd := Aside0.mk (Kd.R_reads' (R_of_row (base := 0) (ok := fun _ => True) HGD.out (Nat.zero_le _) trivial HCM.out.1 (by rw [HDB.out.1]; exact HCM.out.2))).2
     clear HGD HT HKK HY
     obtain ⟨z0, z1, z2, z3, y0, y1, y2, y3⟩ := blk_cells4 HO.out.box
     go_wp2_with fail
     obtain ⟨kd, hkd⟩ := (specWrite_ev l0 l1 a2 a3 s D2 HOK.out.1 HOK.out.2 (by rw [HDB.out.1]; decide)).rounds
     obtain ⟨q1, hq1⟩ : ∃ q1, q1 = dWrite l0 l1 a2 a3 s D2 := ⟨_, rfl⟩
     have hdw := spec_DiskWrite.calls kd A' c' l0 B' d' l1 a2 a3 s (some ⟨gd, 0, none⟩) cp D2 q1.1 q1.2.1 q1.2.2.1 q1.2.2.2 W11 HO.out.c0 HO.out.n0 HO.out.c1 HO.out.n1 hCd.out.2 hCd.out.1 (by rw [hkd, hq1])
     rw [HDB.out.1] at hdw
     refine hdw.mono ?_
     replace HG := Aside0.mk (show Gd q1.1 q1.2.1 q1.2.2.1 by rw [hq1]; exact HG.out.w a3 s D2 HDB.out.2)
     clear hkd hq1 hdw hCd HPG HDB HCM HOK HSD HV
     rintro e W12 ⟨v0, v1, rfl, hR, hS, gb⟩
     obtain ⟨A2, c2, ea⟩ := Kd.R_slice hR
     obtain ⟨B2, d2, eb⟩ := Kd.S_slice hS
     subst ea
     subst eb
     have K9 := Aside0.mk (blk_below HO.out.box gb)
     have hgl := blk_lt HO.out.box
     have hnl := HGN.out
     have hpl := HP.out
     have hll := HLO.out
     replace HO := Aside0.mk (OD.put (r3 := q1.2.2.1) (r4 := q1.2.2.2) HO.out.le hgl K9.out (by omega) hR hS)
     replace HS := Aside0.mk ((HS.out.trans (Stp.of_below HC.out gb)).set4 (g := g) (a := .slice A2 q1.1.length c2) (b := .slice B2 q1.2.1.length d2) (x := .int .i64 q1.2.2.1) (y := .bool q1.2.2.2) (by rw [← HN.out]; omega) (by omega))
     replace K2 := Aside0.mk (blk_far4 (g := g) (a := .slice A2 q1.1.length c2) (b := .slice B2 q1.2.1.length d2) (x := .int .i64 q1.2.2.1) (y := .bool q1.2.2.2) (blk_below K2.out gb) (by omega))
     replace HC := Aside0.mk ((HC.out.below gb).far4 (g := g) (a := .slice A2 q1.1.length c2) (b := .slice B2 q1.2.1.length d2) (x := .int .i64 q1.2.2.1) (y := .bool q1.2.2.2) (by omega) (by omega))
     clear hR hS gb hgl hnl hpl hll z0 z1 z2 z3 y0 y1 y2 y3
     obtain ⟨z0, z1, z2, z3, y0, y1, y2, y3⟩ := blk_cells4 K9.out
     have yl := blk_lt K9.out
     go_wp2_with fail
     clear z0 z1 z2 z3 y0 y1 y2 y3 yl K9
     generalize ((((W12.setCell ⟨g, 0, none⟩ (.slice A2 q1.1.length c2)).setCell ⟨g, 1, none⟩ (.slice B2 q1.2.1.length d2)).setCell ⟨g, 2, none⟩ (.int .i64 q1.2.2.1)).setCell ⟨g, 3, none⟩ (.bool q1.2.2.2)) = W13 at *
     have HW1 := Aside0.mk (show wrap64 ((i : Int) + 1) = ((i + 1 : Nat) : Int) by have := HIN.out; have := HX.out; unfold wrap64; omega)
     refine (l1Once_any 4 (by decide) HC.out).mono ?_
     rintro e W14 ⟨b, rfl, hC, hS⟩
     replace HC := Aside0.mk hC
     replace K2 := Aside0.mk (hS.blk K2.out (by have := HP.out; omega))
     replace HO := Aside0.mk (HO.out.stp HP.out hS)
     replace HS := Aside0.mk (HS.out.trans hS)
     clear hC hS
     cases b with
     | false =>
       go_wp2_with fail
       go_roundg m
       case measure => omega
       case rel => exact ⟨i + 1, q1.1, q1.2.1, q1.2.2.1, q1.2.2.2, A2, B2, c2, d2, by rw [HW1.out], ⟨by have := HI.out; have := HIN.out; omega⟩, HO, HG, HC, HS, K2⟩
     | true =>
     obtain ⟨z0, z1, z2, z3, y0, y1, y2, y3⟩ := blk_cells4 HO.out.box
     go_wp2_with fail
     have hok := HG.out.ok
     obtain ⟨ke, hke⟩ := (specSync_ev q1.1 q1.2.1 q1.2.2.1 q1.2.2.2 hok.1 hok.2).rounds
     obtain ⟨q2, hq2⟩ : ∃ q2, q2 = dSync q1.1 q1.2.1 q1.2.2.1 q1.2.2.2 := ⟨_, rfl⟩
     refine (spec_DiskSync.calls ke A2 c2 q1.1 B2 d2 q1.2.1 q1.2.2.1 q1.2.2.2 q2.1 q2.2.1 q2.2.2.1 q2.2.2.2 _ HO.out.c0 HO.out.n0 HO.out.c1 HO.out.n1 (by rw [hke, hq2])).mono ?_
     replace HG := Aside0.mk (show Gd q2.1 q2.2.1 q2.2.2.1 by rw [hq2]; exact HG.out.s _)
     clear hke hq2 hok
     rintro e W15 ⟨v0, v1, rfl, hR, hS, gb⟩
     obtain ⟨A3, c3, ea⟩ := Kd.R_slice hR
     obtain ⟨B3, d3, eb⟩ := Kd.S_slice hS
     subst ea
     subst eb
     have K9 := Aside0.mk (blk_below HO.out.box gb)
     have hgl := blk_lt HO.out.box
     have hnl := HGN.out
     have hpl := HP.out
     have hll := HLO.out
     replace HO := Aside0.mk (OD.put (r3 := q2.2.2.1) (r4 := q2.2.2.2) HO.out.le hgl K9.out (by omega) hR hS)
     replace HS := Aside0.mk ((HS.out.trans (Stp.of_below HC.out gb)).set4 (g := g) (a := .slice A3 q2.1.length c3) (b := .slice B3 q2.2.1.length d3) (x := .int .i64 q2.2.2.1) (y := .bool q2.2.2.2) (by rw [← HN.out]; omega) (by omega))
     replace K2 := Aside0.mk (blk_far4 (g := g) (a := .slice A3 q2.1.length c3) (b := .slice B3 q2.2.1.length d3) (x := .int .i64 q2.2.2.1) (y := .bool q2.2.2.2) (blk_below K2.out gb) (by omega))
     replace HC := Aside0.mk ((HC.out.below gb).far4 (g := g) (a := .slice A3 q2.1.length c3) (b := .slice B3 q2.2.1.length d3) (x := .int .i64 q2.2.2.1) (y := .bool q2.2.2.2) (by omega) (by omega))
     clear hR hS gb hgl hnl hpl hll z0 z1 z2 z3 y0 y1 y2 y3
     obtain ⟨z0, z1, z2, z3, y0, y1, y2, y3⟩ := blk_cells4 K9.out
     have yl := blk_lt K9.out
     go_wp2_with fail
     go_roundg m
     case measure => omega
     case rel => exact ⟨i + 1, q2.1, q2.2.1, q2.2.2.1, q2.2.2.2, A3, B3, c3, d3, by rw [HW1.out], ⟨by have := HI.out; have := HIN.out; omega⟩, HO, HG, HC, HS, K2⟩
  ·have cib : decide (i < n) = false := decide_eq_false ci
   clear ci
   go_wp2_with fail
   refine (l1Below_any 8 (by decide) HC.out).mono ?_
   rintro e W5 ⟨k, rfl, hx0, hx1, hC, hS⟩
   replace HC := Aside0.mk hC
   replace K2 := Aside0.mk (hS.blk K2.out (by have := HP.out; omega))
   replace HO := Aside0.mk (HO.out.stp HP.out hS)
   replace HS := Aside0.mk (HS.out.trans hS)
   have HK := Aside0.mk (And.intro hx0 hx1)
   clear hC hS hx0 hx1 z0 z1 z2 z3 y0 y1 y2 y3
   by_cases k3 : k < 3
   · have c1b : decide (k < 3) = true := decide_eq_true k3
     have c2b : (k == 3) = false := beq_eq_false_iff_ne.2 (by omega)
     clear k3
     replace HG := Aside0.mk (HG.out.fuel k (by have := HK.out; omega) (by have := HK.out; omega))
     obtain ⟨z0, z1, z2, z3, y0, y1, y2, y3⟩ := blk_cells4 HO.out.box
     have yl := blk_lt HO.out.box
     go_upto_region 18 with (fail)
     have hpl := HP.out
     have hll := HLO.out
     have hgn := HGN.out
     replace K2 := Aside0.mk (blk_far K2.out (p := ⟨g, 2, none⟩) (show n0 ≠ g by omega) (.int .i64 k))
     replace HC := Aside0.mk (HC.out.far (g := g) (by omega) (by omega) 2 (.int .i64 k))
     replace HS := Aside0.mk (HS.out.setg (g := g) (by rw [← HN.out]; omega) (by omega) 2 (.int .i64 k))
     replace HO := Aside0.mk (HO.out.set2 k)
     generalize (W5.setCell ⟨g, 2, none⟩ (.int .i64 k)) = W6 at *
     clear z0 z1 z2 z3 y0 y1 y2 y3 yl hpl hll hgn
     obtain ⟨z0, z1, z2, z3, y0, y1, y2, y3⟩ := blk_cells4 HO.out.box
     obtain ⟨x0, x1, x2, x3, u0, u1, u2, u3⟩ := blk_cells4 K2.out
     have ul := blk_lt K2.out
     go_wp2_with fail
     refine bodyPost_ret (results_cell_row rfl _ _ n0 25 _ (0, 0) _ rfl (blk_set4 K2.out) hu25 rfl (by kernel_rfl)) rfl ?_
     have hpl := HP.out
     have hll := HLO.out
     have hgn := HGN.out
     rw [← HN.out]
     exact ⟨_, _, _, _, _, _, rfl, R_set4 HO.out.r K2.out (by decide), S_set4 HO.out.s K2.out (by decide), HG.out, HC.out.far4 (by omega) (by omega), HS.out.set4 (by rw [← HN.out]; exact Nat.le_refl _) (by omega)⟩
   have c1b : decide (k < 3) = false := decide_eq_false k3
   by_cases k4 : k = 3
   · have c2b : (k == 3) = true := beq_iff_eq.2 k4
     clear k3 k4
     obtain ⟨z0, z1, z2, z3, y0, y1, y2, y3⟩ := blk_cells4 HO.out.box
     have yl := blk_lt HO.out.box
     go_upto_region 20 with (fail)
     have hpl := HP.out
     have hll := HLO.out
     have hgn := HGN.out
     replace K2 := Aside0.mk (blk_far K2.out (p := ⟨g, 3, none⟩) (show n0 ≠ g by omega) (.bool true))
     replace HC := Aside0.mk (HC.out.far (g := g) (by omega) (by omega) 3 (.bool true))
     replace HS := Aside0.mk (HS.out.setg (g := g) (by rw [← HN.out]; omega) (by omega) 3 (.bool true))
     replace HO := Aside0.mk (HO.out.set3 true)
     generalize (W5.setCell ⟨g, 3, none⟩ (.bool true)) = W6 at *
     clear z0 z1 z2 z3 y0 y1 y2 y3 yl hpl hll hgn
     obtain ⟨z0, z1, z2, z3, y0, y1, y2, y3⟩ := blk_cells4 HO.out.box
     obtain ⟨x0, x1, x2, x3, u0, u1, u2, u3⟩ := blk_cells4 K2.out
     have ul := blk_lt K2.out
     go_wp2_with fail
     refine bodyPost_ret (results_cell_row rfl _ _ n0 25 _ (0, 0) _ rfl (blk_set4 K2.out) hu25 rfl (by kernel_rfl)) rfl ?_
     have hpl := HP.out
     have hll := HLO.out
     have hgn := HGN.out
     rw [← HN.out]
     exact ⟨_, _, _, _, _, _, rfl, R_set4 HO.out.r K2.out (by decide), S_set4 HO.out.s K2.out (by decide), HG.out, HC.out.far4 (by omega) (by omega), HS.out.set4 (by rw [← HN.out]; exact Nat.le_refl _) (by omega)⟩
   · have c2b : (k == 3) = false := beq_eq_false_iff_ne.2 k4
     clear k3 k4
     obtain ⟨z0, z1, z2, z3, y0, y1, y2, y3⟩ := blk_cells4 HO.out.box
     obtain ⟨x0, x1, x2, x3, u0, u1, u2, u3⟩ := blk_cells4 K2.out
     have ul := blk_lt K2.out
     go_wp2_with fail
     refine bodyPost_ret (results_cell_row rfl _ _ n0 25 _ (0, 0) _ rfl (blk_set4 K2.out) hu25 rfl (by kernel_rfl)) rfl ?_
     have hpl := HP.out
     have hll := HLO.out
     have hgn := HGN.out
     rw [← HN.out]
     exact ⟨_, _, _, _, _, _, rfl, R_set4 HO.out.r K2.out (by decide), S_set4 HO.out.s K2.out (by decide), HG.out, HC.out.far4 (by omega) (by omega), HS.out.set4 (by rw [← HN.out]; exact Nat.le_refl _) (by omega)⟩

/-! ### impl_DiskRead: a text by hand -/
def m_DiskRead.f (l0 : List Int) (l1 : List S79) (a2 : Int) (a3 : Bool) (s : Int) : Option (List Int) :=
 if l0.length ≤ 1048576 ∧ l1.length ≤ 1048576 then some (if (vD l0 l1 a2 && inD l0 s) = true then dRd l0 l1 s else []) else none
set_option maxHeartbeats 4000000 in
set_option maxRecDepth 100000 in
theorem impl_DiskRead.calls (A0 : Option Addr) (c0 : Nat) (l0 : List Int) (A1 : Option Addr) (c1 : Nat) (l1 : List S79) (a2 : Int) (a3 : Bool) (s : Int) (r : List Int) (w : World) (hr0 : Kd.C (Kd.int .u8) w A0 l0.length l0) (hc0 : l0.length ≤ c0) (hr1 : Kd.C k79 w A1 l1.length l1) (hc1 : l1.length ≤ c1) (h : m_DiskRead.f l0 l1 a2 a3 s = some r) :
  Calls Try.prog 16 #[.agg #[.slice A0 l0.length c0, .slice A1 l1.length c1, .int .i64 a2, .bool a3], .int .i64 s] w fun e w' => ∃ v0_ : Value, e = .returned (v0_) ∧ Kd.R (Kd.int .u8) 84 w' w.heap.size (fun _ => True) v0_ r ∧ Below w.heap.size w w' := by
 unfold m_DiskRead.f at h
 by_cases hL : l0.length ≤ 1048576 ∧ l1.length ≤ 1048576
 case neg => rw [if_neg hL] at h; cases h
 rw [if_pos hL] at h
 have hv := implValid_ev l0 l1 a2 a3 hL.1 hL.2
 obtain ⟨kv, hv⟩ := hv.rounds
 have hh := has_eq l0 l1 a2 a3 s hL.1
 have HL := Aside0.mk hL
 have HV := Aside0.mk hv
 have HH := Aside0.mk hh
 have HR0 := Aside0.mk hr0
 have HC0 := Aside0.mk hc0
 have HR1 := Aside0.mk hr1
 have HC1 := Aside0.mk hc1
 clear hr0 hc0 hr1 hc1 hv hh hL
 have hr : (if (vD l0 l1 a2 && inD l0 s) = true then dRd l0 l1 s else []) = r := Option.some.inj h
 have HRr := Aside0.mk hr
 clear h hr
 have hu25 := Try.underlying25
 have HB := Aside0.mk (Below.refl w.heap.size w)
 go_enter Try.func16, Try.ntmps16
 go_wp2_with fail
 refine (impl_ValidDisk.calls kv _ _ l0 _ _ l1 a2 a3 _ _ (Kd.C_alloc HR0.out _) HC0.out (Kd.C_alloc HR1.out _) HC1.out HV.out).mono ?_
 rintro e w1 ⟨rfl, gb⟩
 have K2 := Aside0.mk (show w1.heap[w.heap.size]? = some (.cells #[.slice A0 l0.length c0, .slice A1 l1.length c1, .int .i64 a2, .bool a3] 25 (0, 0)) from blk_newB gb)
 have N_HB := Aside0.mk (below_step (below_alloc HB.out _) gb)
 clear HB gb
 have HB := N_HB
 clear N_HB
 obtain ⟨z0, z1, z2, z3, y0, y1, y2, y3⟩ := blk_cells4 K2.out
 have yl := blk_lt K2.out
 by_cases cv : vD l0 l1 a2 = true
 case neg =>
  have cv' : vD l0 l1 a2 = false := by simpa using cv
  rw [cv']
  have er : r = [] := by have := HRr.out; rw [cv', Bool.false_and, if_neg (by decide)] at this; exact this.symm
  subst er
  clear HRr
  go_wp2_with fail
  go_ret
  exact ⟨_, rfl, Kd.R_nil _ _ _ _ _, HB.out⟩
 have HRr2 := Aside0.mk (show (if inD l0 s = true then dRd l0 l1 s else []) = r by have := HRr.out; rw [cv, Bool.true_and] at this; exact this)
 clear HRr
 have CV := Aside0.mk cv
 rw [cv]
 clear cv
 go_wp2_with fail
 refine (impl_Disk_has.calls _ _ l0 _ _ l1 a2 a3 s _ _ (Kd.C_below HR0.out HB.out) HC0.out (Kd.C_below HR1.out HB.out) HC1.out HH.out).mono ?_
 rintro e w2 ⟨rfl, gb⟩
 have N_K := Aside0.mk (blk_below K2.out gb)
 have N_HB := Aside0.mk (below_step HB.out gb)
 clear HB gb K2 z0 z1 z2 z3 y0 y1 y2 y3 yl
 have HB := N_HB
 have K2 := N_K
 clear N_HB N_K
 obtain ⟨z0, z1, z2, z3, y0, y1, y2, y3⟩ := blk_cells4 K2.out
 have yl := blk_lt K2.out
 by_cases ci : inD l0 s = true
 case neg =>
  have ci' : inD l0 s = false := by simpa using ci
  rw [ci']
  have er : r = [] := by have := HRr2.out; rw [if_neg ci] at this; exact this.symm
  subst er
  clear HRr2
  go_wp2_with fail
  go_ret
  exact ⟨_, rfl, Kd.R_nil _ _ _ _ _, HB.out⟩
 have er : dRd l0 l1 s = r := by have := HRr2.out; rw [if_pos ci] at this; exact this
 subst er
 clear HRr2
 have hi : 0 ≤ s ∧ s < ((l0.length / 64 : Nat) : Int) := by unfold inD at ci; simpa using ci
 have HI := Aside0.mk hi
 rw [ci]
 clear ci hi
 go_wp2_with fail
 obtain ⟨f1, f2, f3, f4, f5, f6, f7⟩ := vD_facts CV.out
 refine (impl_Disk_read.calls _ _ l0 _ _ l1 a2 a3 s _ (Kd.C_below HR0.out HB.out) HC0.out (Kd.C_below HR1.out HB.out) HC1.out HI.out.1 (by have := HI.out.2; omega) (by omega) f4 (fun x hx => (f7 x hx).2.2)).mono ?_
 rintro e w3 ⟨rfl, gb⟩
 have N_HB := Aside0.mk (below_step HB.out gb)
 clear HB gb K2 z0 z1 z2 z3 y0 y1 y2 y3 yl f1 f2 f3 f4 f5 f6 f7
 have HB := N_HB
 clear N_HB
 have hN : (dRd l0 l1 s).length = 64 := by
  obtain ⟨f1, f2, f3, f4, f5, f6, f7⟩ := vD_facts CV.out
  exact dRd_len l0 l1 s HI.out.1 (by have := HI.out.2; omega) (by omega) (fun x hx => (f7 x hx).2.2)
 have HN := Aside0.mk hN
 clear hN
 have yz : (w3.alloc (.cells (Array.replicate 64 (.int .u8 0)) 84)).heap[w3.heap.size]? = some (.cells (Array.replicate 64 (.int .u8 0)) 84 (0, 0)) := blk_new _ _
 have hst := Aside0.mk (store_arr (P := Try.prog) (w3.alloc (.cells (Array.replicate 64 (.int .u8 0)) 84)) w3.heap.size 84 84 _ ((dRd l0 l1 s).map (Value.int .u8)).toArray yz (by rw [List.size_toArray, List.length_map, HN.out]; kernel_rfl) (by simp [HN.out]) (by simp [Value.oneCell']))
 have YZ := Aside0.mk yz
 clear yz
 go_wp2_with (first | ((with_reducible refine gate_store (t := 84) (p := 5) rfl ?_); refine store_event rfl rfl rfl (exec_store _ _ _ rfl rfl rfl hst.out) ?_; intro w4 hw4; have HW4 := Aside0.mk hw4; clear hw4))
 go_ret
 have hb4 : w4.heap[w3.heap.size]? = some (.cells ((dRd l0 l1 s).map (Value.int .u8)).toArray 84 (0, 0)) := by rw [HW4.out]; exact setRow_heap _ _ _ _ _ _ YZ.out
 have hl := HB.out.size
 have hsl : ∀ n : Nat, (dRd l0 l1 s).length = n → w4.ownsRow w.heap.size 84 1 (.slice (some ⟨w3.heap.size, 0, none⟩) n n) n ((dRd l0 l1 s).map (Value.int .u8)) := by
  intro n hn
  refine ⟨by rw [List.length_map, hn, Nat.mul_one], .inr ⟨w3.heap.size, n, _, rfl, hl, hb4, Nat.le_refl _, ?_, ?_, ?_⟩⟩
  ·rw [← hn, HN.out]; decide
  ·simp [hn]
  ·rw [Nat.mul_one, List.take_of_length_le (by simp [hn])]
 refine ⟨_, rfl, Kd.R_of_own (enc := Value.int .u8) (by rw [HN.out]; exact hsl 64 HN.out) (fun k hk => trivial), ?_⟩
 rw [HW4.out]
 exact below_row (below_alloc HB.out _) hl _

/-! ### zl_draw4: a text by hand -/
def l1Spoil.gT9 : Bool × List (List Nat × List Nat) := (true, [([], []), ([0], [0]), ([], []), ([2], [2]), ([], []), ([4, 3], [4]), ([3, 5], [3, 5]), ([5], []), ([6, 7], [6, 7]), ([8], [8]), ([1, 9, 7], [1, 9]), ([0, 1, 2, 3, 4, 5, 6, 7, 8, 9, 10], []), ([11, 10, 10, 0, 1, 2, 3, 4, 5, 6, 7, 8, 9, 10], [10, 11])])
def l1Spoil.gB9 : List Nat := [0, 1, 0, 4, 0, 28, 60, 60, 252, 508, 1023, 2047, 4095]
theorem l1Spoil.gtab9 : rtab .any (opsOf Try.f102 9) = l1Spoil.gT9 := by kernel_rfl
theorem l1Spoil.gbits9 : waitsOk l1Spoil.gT9.2 l1Spoil.gB9 = true := by kernel_rfl
def l1Spoil.gT11 : Bool × List (List Nat × List Nat) := (true, [([], []), ([0], [0]), ([], []), ([2], [2]), ([3], [3]), ([1, 4, 2], [1, 4]), ([0, 1, 2, 3, 4, 5], []), ([6, 5, 5, 0, 1, 2, 3, 4, 5], [5, 6])])
def l1Spoil.gB11 : List Nat := [0, 1, 0, 4, 12, 31, 63, 127]
theorem l1Spoil.gtab11 : rtab .any (opsOf Try.f102 11) = l1Spoil.gT11 := by kernel_rfl
theorem l1Spoil.gbits11 : waitsOk l1Spoil.gT11.2 l1Spoil.gB11 = true := by kernel_rfl
def l1Spoil.gT13 : Bool × List (List Nat × List Nat) := (true, [([], []), ([0], [0]), ([], []), ([2], [2]), ([3], [3]), ([4], [4]), ([1, 5], [1, 5]), ([0, 1, 2, 3, 4, 5, 6], []), ([7, 6, 3, 0, 1, 2, 3, 4, 5, 6], [6, 7])])
def l1Spoil.gB13 : List Nat := [0, 1, 0, 4, 12, 28, 63, 127, 255]
theorem l1Spoil.gtab13 : rtab .any (opsOf Try.f102 13) = l1Spoil.gT13 := by kernel_rfl
theorem l1Spoil.gbits13 : waitsOk l1Spoil.gT13.2 l1Spoil.gB13 = true := by kernel_rfl
-- uses Stp.blk Cur.far4
/-- A disk that is only read from here on. -/
structure RD (b0 : Nat) (W : World) (v0 v1 : Value) (l0 : List Int) (l1 : List S79) : Prop where
 r : Kd.V (Kd.int .u8) 5 W 0 (fun k => b0 ≤ k) v0 l0
 s : Kd.V k79 79 W 0 (fun k => b0 ≤ k) v1 l1
 n : l0.length ≤ 1048576
 ok : okPendS l1
 y0 : ∀ x ∈ l0, 0 ≤ x ∧ x < 256
 y1 : ∀ q ∈ l1, ∀ y ∈ q.f1, 0 ≤ y ∧ y < 256
 n1 : l1.length ≤ 2001
theorem OD.rd {b0 g p c d : Nat} {W : World} {A B : Option Addr} {l0 : List Int} {l1 : List S79} {a2 : Int} {a3 : Bool} (h : OD b0 g W A c B d l0 l1 a2 a3) (hp : p < b0) (hG : Gd l0 l1 a2) : RD b0 W (.slice A l0.length c) (.slice B l1.length d) l0 l1 :=
 ⟨Kd.R_V (Kd.R_mono (Kd.R_bound h.r) (fun k hk => by have := hk.2.1; omega)), Kd.S_V (Kd.S_mono (Kd.S_bound h.s) (fun k hk => by have := hk.2.1; omega)), hG.ok.1, hG.ok.2, hG.b0, hG.b1, by have := (vD_facts hG.v).2.2.2.1; omega⟩
theorem Below.trans_lo {lo : Nat} {w W W1 : World} (h : Below lo w W) (hb : Below W.heap.size W W1) (hl : lo ≤ W.heap.size) : Below lo w W1 := below_then h hl hb
theorem Below.trans_same {lo : Nat} {w W W1 : World} (h : Below lo w W) (hb : Below lo W W1) : Below lo w W1 :=
 ⟨hb.os.trans h.os, hb.tape.trans h.tape, hb.output.trans h.output, Nat.le_trans h.size hb.size, fun k hk => (hb.block k hk).trans (h.block k hk)⟩
/-- What a draw leaves: what lay below lo, and below b0 but for the cursor, is as it was. -/
structure SB (lo b0 p : Nat) (W W' : World) : Prop where
 b : Below lo W W'
 k : ∀ k, k < b0 → k ≠ p → W'.heap[k]? = W.heap[k]?
section
variable {lo b0 p g : Nat} {W W1 W2 : World}
theorem SB.of (h : Stp lo p W W1) (hb : b0 ≤ W.heap.size) : SB lo b0 p W W1 := ⟨h.b, fun k hk hn => h.k.2 k (by omega) hn⟩
theorem SB.below (h : SB lo b0 p W W1) (hb : Below W1.heap.size W1 W2) (h1 : lo ≤ W1.heap.size) (h2 : b0 ≤ W1.heap.size) : SB lo b0 p W W2 := ⟨below_then h.b h1 hb, fun k hk hn => (hb.block k (by omega)).trans (h.k k hk hn)⟩
theorem SB.stp (h : SB lo b0 p W W1) (hs : Stp lo p W1 W2) (h2 : b0 ≤ W1.heap.size) : SB lo b0 p W W2 := ⟨Below.trans_same h.b hs.b, fun k hk hn => (hs.k.2 k (by omega) hn).trans (h.k k hk hn)⟩
theorem SB.gro (h : SB lo b0 p W W1) (hb : Below b0 W1 W2) (hl : lo ≤ b0) : SB lo b0 p W W2 := ⟨Below.trans_same h.b ⟨hb.os, hb.tape, hb.output, hb.size, fun k hk => hb.block k (by omega)⟩, fun k hk hn => (hb.block k hk).trans (h.k k hk hn)⟩
theorem SB.set (h : SB lo b0 p W W1) (hg : b0 ≤ g) (hl : lo ≤ g) (j : Nat) (v : Value) : SB lo b0 p W (W1.setCell ⟨g, j, none⟩ v) := ⟨below_setB h.b hl j v, fun k hk hn => (Below.heap_setCell W1 ⟨g, j, none⟩ v k (by show k ≠ g; omega)).trans (h.k k hk hn)⟩
end
theorem Cur.grown {lo p c b0 : Nat} {A : Option Addr} {xs : List Int} {W W1 : World} {row : Option Nat} (h : Cur lo p A c xs W) (hg : W.grownBy W1 row) (hr : ∀ k, row = some k → b0 ≤ k) (hp : p < b0) : Cur lo p A c xs W1 := by
 obtain ⟨i, h', hx, h0, h1⟩ := h.x
 have hl := h.l
 exact ⟨Kd.V_grown h.r hg (fun k hk he => by have := hr k he.symm; omega), ⟨i, h', blk_grown hx hg (fun he => by have := hr p he.symm; omega), h0, h1⟩, h.l, h.s⟩
theorem V_g {α : Type} {d : Kd α} {e base g b0 : Nat} {v : Value} {ys : List α} {W W' : World} (h : Kd.V d e W base (fun k => b0 ≤ k ∧ k ≠ g) v ys) (hk : ∀ k, k ≠ g → k < W.heap.size → W'.heap[k]? = W.heap[k]?) : Kd.V d e W' base (fun k => b0 ≤ k) v ys :=
 Kd.V_mono (Kd.V_step h (fun k ho hlt => hk k ho.2 hlt)) (fun _ h => h.1)
set_option maxHeartbeats 4000000 in
set_option maxRecDepth 100000 in
theorem l1Spoil_any {lo p c b0 : Nat} {A : Option Addr} {xs : List Int} {W : World} (h : Cur lo p A c xs W) {A' B' : Option Addr} {c' d' : Nat} {l0 : List Int} {l1 : List S79} {a2 : Int} {a3 : Bool} (hr : Kd.R (Kd.int .u8) 5 W b0 (fun _ => True) (.slice A' l0.length c') l0) (hs : Kd.S k79 79 W b0 (fun k => some k ≠ (.slice A' l0.length c' : Value).ownBlock) (.slice B' l1.length d') l1) (hb : p < b0) (hbs : b0 ≤ W.heap.size) (hG : Gd l0 l1 a2) :
  Calls Try.prog 102 #[.pointer (some ⟨p, 0, none⟩), .agg #[.slice A' l0.length c', .slice B' l1.length d', .int .i64 a2, .bool a3]] W fun e W' => ∃ (A2 B2 : Option Addr) (c2 d2 : Nat) (r0 : List Int) (r1 : List S79) (r2 : Int) (r3 : Bool), e = .returned (.agg #[.slice A2 r0.length c2, .slice B2 r1.length d2, .int .i64 r2, .bool r3]) ∧ RD b0 W' (.slice A2 r0.length c2) (.slice B2 r1.length d2) r0 r1 ∧ Cur lo p A c xs W' ∧ SB lo b0 p W W' := by
 have hbx : Below W.heap.size W ((W.alloc (.cells #[.slice A' l0.length c', .slice B' l1.length d', .int .i64 a2, .bool a3] 25)).alloc (.cells #[.slice none 0 0, .slice none 0 0, .int .i64 0, .bool false] 25)) := below_alloc (below_alloc (Below.refl _ _) _) _
 have HC := Aside0.mk (h.below hbx)
 have HS := Aside0.mk (Stp.of_below h hbx)
 have HO := Aside0.mk (show OD b0 W.heap.size ((W.alloc (.cells #[.slice A' l0.length c', .slice B' l1.length d', .int .i64 a2, .bool a3] 25)).alloc (.cells #[.slice none 0 0, .slice none 0 0, .int .i64 0, .bool false] 25)) A' c' B' d' l0 l1 a2 a3 from ⟨blk_alloc (blk_new _ _) _, Kd.R_alloc (Kd.R_alloc hr _) _, Kd.S_alloc (Kd.S_alloc hs _) _, hbs⟩)
 have K4 := Aside0.mk (blk_new (W.alloc (.cells #[.slice A' l0.length c', .slice B' l1.length d', .int .i64 a2, .bool a3] 25)) (.cells #[.slice none 0 0, .slice none 0 0, .int .i64 0, .bool false] 25))
 simp only [World.size_alloc] at K4
 have HP := Aside0.mk (And.intro hb (And.intro h.l hbs))
 have HG := Aside0.mk hG
 have hu25 := Try.underlying25
 clear hbx hr hs hb hbs h hG
 go_enter Try.func102, Try.ntmps102
 go_wp2_with fail
 generalize ((W.alloc (.cells #[.slice A' l0.length c', .slice B' l1.length d', .int .i64 a2, .bool a3] 25)).alloc (.cells #[.slice none 0 0, .slice none 0 0, .int .i64 0, .bool false] 25)) = W0 at *
 obtain ⟨g, hg⟩ : ∃ g, g = W.heap.size := ⟨_, rfl⟩
 rw [← hg] at HO K4 HP ⊢
 have HN := Aside0.mk hg
 clear hg
 refine (l1Below_any 6 (by decide) HC.out).mono ?_
 rintro e W1 ⟨k, rfl, hx0, hx1, hC, hS⟩
 replace HC := Aside0.mk hC
 replace K4 := Aside0.mk (hS.blk K4.out (by have := HP.out; omega))
 replace HO := Aside0.mk (HO.out.stp HP.out.1 hS)
 replace HS := Aside0.mk (show SB lo b0 p W W1 from (SB.of (HS.out.trans hS) (by have := HP.out; rw [← HN.out]; omega)))
 clear hC hS
 obtain ⟨z0, z1, z2, z3, y0, y1, y2, y3⟩ := blk_cells4 HO.out.box
 have yl := blk_lt HO.out.box
 obtain rfl | rfl | rfl | rfl | rfl | rfl : k = 0 ∨ k = 1 ∨ k = 2 ∨ k = 3 ∨ k = 4 ∨ k = 5 := by omega
 ·have hc1 : 1 ≤ c' := by have := HO.out.n0; have := (vD_facts HG.out.v).2.1; omega
  have hl1 : 1 ≤ l0.length := by have := (vD_facts HG.out.v).2.1; omega
  have hpl := HP.out
  have hg := HG.out
  have V0 : Kd.V (Kd.int .u8) 5 W1 0 (fun k => b0 ≤ k ∧ k ≠ g ∧ k ≠ g + 1) (.slice A' l0.length c') l0 := Kd.R_V (Kd.R_mono (Kd.R_bound (Kd.R_types (Kd.R_types HO.out.r HO.out.box (by decide)) K4.out (by decide))) (fun k hk => ⟨by have := hk.2.1; omega, hk.1.1.2, hk.1.2⟩))
  have V1 : Kd.V k79 79 W1 0 (fun k => b0 ≤ k ∧ k ≠ g ∧ k ≠ g + 1) (.slice B' l1.length d') l1 := Kd.S_V (Kd.S_mono (Kd.S_bound (Kd.S_types (Kd.S_types HO.out.s HO.out.box (by decide)) K4.out (by decide))) (fun k hk => ⟨by have := hk.2.1; omega, hk.1.1.2, hk.1.2⟩))
  have VV0 := Aside0.mk V0
  have VV1 := Aside0.mk V1
  clear V0 V1 hpl hg
  have HL1 := Aside0.mk hl1
  have hcm : ¬ c' = 1 := by have := HO.out.n0; have := (vD_facts HG.out.v).2.1; omega
  have i1 : (1 : Int) ≤ (l0.length : Int) := by omega
  have i2 : (l0.length : Int) ≤ (c' : Int) := by have := HO.out.n0; omega
  have i3 : (1 : Int) ≤ (c' : Int) := by omega
  go_upto_region 4 with (fail)
  have V2 : Kd.V (Kd.int .u8) 5 W1 0 (fun k => b0 ≤ k ∧ k ≠ g ∧ k ≠ g + 1) (.slice (Option.map (fun x => { block := x.block, off := x.off + 1 }) A') (l0.drop 1).length (c' - 1)) (l0.drop 1) := by
   obtain ⟨hn, hle, hF⟩ := Kd.V_at VV0.out
   have hq := Kd.F_cut hF (m := 1) hl1 hle
   rw [if_neg hcm] at hq
   exact Kd.V_mk (by rw [List.length_drop]; omega) hq
  have VV2 := Aside0.mk V2
  rw [show l0.length - 1 = (l0.drop 1).length by rw [List.length_drop]]
  have hpl := HP.out
  have KB := Aside0.mk (blk_put HO.out.box 0 (.slice (Option.map (fun x => { block := x.block, off := x.off + 1 }) A') (l0.drop 1).length (c' - 1)) rfl)
  have RR := Aside0.mk (show Kd.V (Kd.int .u8) 5 (W1.setCell ⟨g, 0, none⟩ (.slice (Option.map (fun x => { block := x.block, off := x.off + 1 }) A') (l0.drop 1).length (c' - 1))) 0 (fun k => b0 ≤ k ∧ k ≠ g + 1) (.slice (Option.map (fun x => { block := x.block, off := x.off + 1 }) A') (l0.drop 1).length (c' - 1)) (l0.drop 1) ∧ Kd.V k79 79 (W1.setCell ⟨g, 0, none⟩ (.slice (Option.map (fun x => { block := x.block, off := x.off + 1 }) A') (l0.drop 1).length (c' - 1))) 0 (fun k => b0 ≤ k ∧ k ≠ g + 1) (.slice B' l1.length d') l1 ∧ ((l0.drop 1)).length ≤ 1048576 ∧ okPendS l1 ∧ (∀ x ∈ (l0.drop 1), 0 ≤ x ∧ x < 256) ∧ (∀ q ∈ l1, ∀ y ∈ q.f1, 0 ≤ y ∧ y < 256) ∧ (l1).length ≤ 2001 from ⟨Kd.V_mono (Kd.V_far (p := ⟨g, 0, none⟩) VV2.out (fun _ hk => hk.2.1) _) (fun _ hk => ⟨hk.1, hk.2.2⟩), Kd.V_mono (Kd.V_far (p := ⟨g, 0, none⟩) VV1.out (fun _ hk => hk.2.1) _) (fun _ hk => ⟨hk.1, hk.2.2⟩), by rw [List.length_drop]; have := HG.out.ok.1; omega, HG.out.ok.2, fun x hx => HG.out.b0 x (List.mem_of_mem_drop hx), HG.out.b1, by have := (vD_facts HG.out.v).2.2.2.1; omega⟩)
  replace K4 := Aside0.mk (blk_far K4.out (p := ⟨g, 0, none⟩) (Nat.succ_ne_self g) (.slice (Option.map (fun x => { block := x.block, off := x.off + 1 }) A') (l0.drop 1).length (c' - 1)))
  replace HC := Aside0.mk (HC.out.far (g := g) (by omega) (by omega) 0 (.slice (Option.map (fun x => { block := x.block, off := x.off + 1 }) A') (l0.drop 1).length (c' - 1)))
  replace HS := Aside0.mk (SB.set (g := g) HS.out (by omega) (by omega) 0 (.slice (Option.map (fun x => { block := x.block, off := x.off + 1 }) A') (l0.drop 1).length (c' - 1)))
  generalize hL2 : l0.drop 1 = L2 at *
  generalize (Option.map (fun x => ({ block := x.block, off := x.off + 1 } : Addr)) A') = A2 at *
  generalize (W1.setCell ⟨g, 0, none⟩ (.slice A2 L2.length (c' - 1))) = Wn at *
  clear z0 z1 z2 z3 y0 y1 y2 y3 yl hpl HO V2 VV2 hL2 i1 i2 i3 hcm hl1 hc1
  obtain ⟨z0, z1, z2, z3, y0, y1, y2, y3⟩ := blk_cells4 KB.out
  have yl := blk_lt KB.out
  obtain ⟨x0, x1, x2, x3, u0, u1, u2, u3⟩ := blk_cells4 K4.out
  have ul := blk_lt K4.out
  have hpl := HP.out
  go_wp2_with fail
  refine bodyPost_ret (results_cell_row rfl _ _ (g + 1) 25 _ (0, 0) _ rfl (blk_set4 K4.out) hu25 rfl (by kernel_rfl)) rfl ?_
  have hf := fun (v0 v1 v2 v3 : Value) (WW : World) (k : Nat) (hk : k ≠ g + 1) => (show ((((WW.setCell ⟨g + 1, 0, none⟩ v0).setCell ⟨g + 1, 1, none⟩ v1).setCell ⟨g + 1, 2, none⟩ v2).setCell ⟨g + 1, 3, none⟩ v3).heap[k]? = WW.heap[k]? from
   (Below.heap_setCell _ ⟨g + 1, 3, none⟩ v3 k hk).trans ((Below.heap_setCell _ ⟨g + 1, 2, none⟩ v2 k hk).trans ((Below.heap_setCell _ ⟨g + 1, 1, none⟩ v1 k hk).trans (Below.heap_setCell _ ⟨g + 1, 0, none⟩ v0 k hk))))
  exact ⟨_, _, _, _, _, _, _, _, rfl, ⟨V_g RR.out.1 (fun k hk _ => hf _ _ _ _ _ k hk), V_g RR.out.2.1 (fun k hk _ => hf _ _ _ _ _ k hk), RR.out.2.2.1, RR.out.2.2.2.1, RR.out.2.2.2.2.1, RR.out.2.2.2.2.2.1, RR.out.2.2.2.2.2.2⟩, HC.out.far4 (by omega) (by omega), SB.set (SB.set (SB.set (SB.set HS.out (by omega) (by omega) _ _) (by omega) (by omega) _ _) (by omega) (by omega) _ _) (by omega) (by omega) _ _⟩
 ·skip
  have hpl := HP.out
  have hg := HG.out
  have V0 : Kd.V (Kd.int .u8) 5 W1 0 (fun k => b0 ≤ k ∧ k ≠ g ∧ k ≠ g + 1) (.slice A' l0.length c') l0 := Kd.R_V (Kd.R_mono (Kd.R_bound (Kd.R_types (Kd.R_types HO.out.r HO.out.box (by decide)) K4.out (by decide))) (fun k hk => ⟨by have := hk.2.1; omega, hk.1.1.2, hk.1.2⟩))
  have V1 : Kd.V k79 79 W1 0 (fun k => b0 ≤ k ∧ k ≠ g ∧ k ≠ g + 1) (.slice B' l1.length d') l1 := Kd.S_V (Kd.S_mono (Kd.S_bound (Kd.S_types (Kd.S_types HO.out.s HO.out.box (by decide)) K4.out (by decide))) (fun k hk => ⟨by have := hk.2.1; omega, hk.1.1.2, hk.1.2⟩))
  have VV0 := Aside0.mk V0
  have VV1 := Aside0.mk V1
  clear V0 V1 hpl hg
  go_upto_region 6 with (fail)
  have hpl := HP.out
  have KB := Aside0.mk (blk_put HO.out.box 2 (.int .i64 (-2)) rfl)
  have RR := Aside0.mk (show Kd.V (Kd.int .u8) 5 (W1.setCell ⟨g, 2, none⟩ (.int .i64 (-2))) 0 (fun k => b0 ≤ k ∧ k ≠ g + 1) (.slice A' l0.length c') l0 ∧ Kd.V k79 79 (W1.setCell ⟨g, 2, none⟩ (.int .i64 (-2))) 0 (fun k => b0 ≤ k ∧ k ≠ g + 1) (.slice B' l1.length d') l1 ∧ (l0).length ≤ 1048576 ∧ okPendS l1 ∧ (∀ x ∈ l0, 0 ≤ x ∧ x < 256) ∧ (∀ q ∈ l1, ∀ y ∈ q.f1, 0 ≤ y ∧ y < 256) ∧ (l1).length ≤ 2001 from ⟨Kd.V_mono (Kd.V_far (p := ⟨g, 2, none⟩) VV0.out (fun _ hk => hk.2.1) _) (fun _ hk => ⟨hk.1, hk.2.2⟩), Kd.V_mono (Kd.V_far (p := ⟨g, 2, none⟩) VV1.out (fun _ hk => hk.2.1) _) (fun _ hk => ⟨hk.1, hk.2.2⟩), HG.out.ok.1, HG.out.ok.2, HG.out.b0, HG.out.b1, by have := (vD_facts HG.out.v).2.2.2.1; omega⟩)
  replace K4 := Aside0.mk (blk_far K4.out (p := ⟨g, 2, none⟩) (Nat.succ_ne_self g) (.int .i64 (-2)))
  replace HC := Aside0.mk (HC.out.far (g := g) (by omega) (by omega) 2 (.int .i64 (-2)))
  replace HS := Aside0.mk (SB.set (g := g) HS.out (by omega) (by omega) 2 (.int .i64 (-2)))
  generalize (W1.setCell ⟨g, 2, none⟩ (.int .i64 (-2))) = Wn at *
  clear z0 z1 z2 z3 y0 y1 y2 y3 yl hpl HO
  obtain ⟨z0, z1, z2, z3, y0, y1, y2, y3⟩ := blk_cells4 KB.out
  have yl := blk_lt KB.out
  obtain ⟨x0, x1, x2, x3, u0, u1, u2, u3⟩ := blk_cells4 K4.out
  have ul := blk_lt K4.out
  have hpl := HP.out
  go_wp2_with fail
  refine bodyPost_ret (results_cell_row rfl _ _ (g + 1) 25 _ (0, 0) _ rfl (blk_set4 K4.out) hu25 rfl (by kernel_rfl)) rfl ?_
  have hf := fun (v0 v1 v2 v3 : Value) (WW : World) (k : Nat) (hk : k ≠ g + 1) => (show ((((WW.setCell ⟨g + 1, 0, none⟩ v0).setCell ⟨g + 1, 1, none⟩ v1).setCell ⟨g + 1, 2, none⟩ v2).setCell ⟨g + 1, 3, none⟩ v3).heap[k]? = WW.heap[k]? from
   (Below.heap_setCell _ ⟨g + 1, 3, none⟩ v3 k hk).trans ((Below.heap_setCell _ ⟨g + 1, 2, none⟩ v2 k hk).trans ((Below.heap_setCell _ ⟨g + 1, 1, none⟩ v1 k hk).trans (Below.heap_setCell _ ⟨g + 1, 0, none⟩ v0 k hk))))
  exact ⟨_, _, _, _, _, _, _, _, rfl, ⟨V_g RR.out.1 (fun k hk _ => hf _ _ _ _ _ k hk), V_g RR.out.2.1 (fun k hk _ => hf _ _ _ _ _ k hk), RR.out.2.2.1, RR.out.2.2.2.1, RR.out.2.2.2.2.1, RR.out.2.2.2.2.2.1, RR.out.2.2.2.2.2.2⟩, HC.out.far4 (by omega) (by omega), SB.set (SB.set (SB.set (SB.set HS.out (by omega) (by omega) _ _) (by omega) (by omega) _ _) (by omega) (by omega) _ _) (by omega) (by omega) _ _⟩
 ·skip
  have hpl := HP.out
  have hg := HG.out
  have V0 : Kd.V (Kd.int .u8) 5 W1 0 (fun k => b0 ≤ k ∧ k ≠ g ∧ k ≠ g + 1) (.slice A' l0.length c') l0 := Kd.R_V (Kd.R_mono (Kd.R_bound (Kd.R_types (Kd.R_types HO.out.r HO.out.box (by decide)) K4.out (by decide))) (fun k hk => ⟨by have := hk.2.1; omega, hk.1.1.2, hk.1.2⟩))
  have V1 : Kd.V k79 79 W1 0 (fun k => b0 ≤ k ∧ k ≠ g ∧ k ≠ g + 1) (.slice B' l1.length d') l1 := Kd.S_V (Kd.S_mono (Kd.S_bound (Kd.S_types (Kd.S_types HO.out.s HO.out.box (by decide)) K4.out (by decide))) (fun k hk => ⟨by have := hk.2.1; omega, hk.1.1.2, hk.1.2⟩))
  have VV0 := Aside0.mk V0
  have VV1 := Aside0.mk V1
  clear V0 V1 hpl hg
  go_wp2_with fail
  have HLT := Aside0.mk (blk_lt HO.out.box)
  refine (l1Below_any 2 (by decide) HC.out).mono ?_
  rintro e W2 ⟨x, rfl, hx2, hx3, hC, hS⟩
  replace HC := Aside0.mk hC
  replace K4 := Aside0.mk (hS.blk K4.out (by have := HP.out; omega))
  replace VV0 := Aside0.mk (Kd.V_kept VV0.out hS.k (fun k hk => by have := hk.1; have := HP.out.1; omega))
  replace VV1 := Aside0.mk (Kd.V_kept VV1.out hS.k (fun k hk => by have := hk.1; have := HP.out.1; omega))
  replace HO := Aside0.mk (HO.out.stp HP.out.1 hS)
  replace HS := Aside0.mk (SB.stp HS.out hS (by have h2 := HLT.out; have := HP.out; omega))
  clear hC hS z0 z1 z2 z3 y0 y1 y2 y3 yl
  obtain ⟨z0, z1, z2, z3, y0, y1, y2, y3⟩ := blk_cells4 HO.out.box
  have yl := blk_lt HO.out.box
  go_upto_region 8 with (fail)
  try rw [show wrap64 (1000000 + x) = 1000000 + x by unfold wrap64; omega]
  have hpl := HP.out
  have KB := Aside0.mk (blk_put HO.out.box 2 (.int .i64 (1000000 + x)) rfl)
  have RR := Aside0.mk (show Kd.V (Kd.int .u8) 5 (W2.setCell ⟨g, 2, none⟩ (.int .i64 (1000000 + x))) 0 (fun k => b0 ≤ k ∧ k ≠ g + 1) (.slice A' l0.length c') l0 ∧ Kd.V k79 79 (W2.setCell ⟨g, 2, none⟩ (.int .i64 (1000000 + x))) 0 (fun k => b0 ≤ k ∧ k ≠ g + 1) (.slice B' l1.length d') l1 ∧ (l0).length ≤ 1048576 ∧ okPendS l1 ∧ (∀ x ∈ l0, 0 ≤ x ∧ x < 256) ∧ (∀ q ∈ l1, ∀ y ∈ q.f1, 0 ≤ y ∧ y < 256) ∧ (l1).length ≤ 2001 from ⟨Kd.V_mono (Kd.V_far (p := ⟨g, 2, none⟩) VV0.out (fun _ hk => hk.2.1) _) (fun _ hk => ⟨hk.1, hk.2.2⟩), Kd.V_mono (Kd.V_far (p := ⟨g, 2, none⟩) VV1.out (fun _ hk => hk.2.1) _) (fun _ hk => ⟨hk.1, hk.2.2⟩), HG.out.ok.1, HG.out.ok.2, HG.out.b0, HG.out.b1, by have := (vD_facts HG.out.v).2.2.2.1; omega⟩)
  replace K4 := Aside0.mk (blk_far K4.out (p := ⟨g, 2, none⟩) (Nat.succ_ne_self g) (.int .i64 (1000000 + x)))
  replace HC := Aside0.mk (HC.out.far (g := g) (by omega) (by omega) 2 (.int .i64 (1000000 + x)))
  replace HS := Aside0.mk (SB.set (g := g) HS.out (by omega) (by omega) 2 (.int .i64 (1000000 + x)))
  generalize (W2.setCell ⟨g, 2, none⟩ (.int .i64 (1000000 + x))) = Wn at *
  clear z0 z1 z2 z3 y0 y1 y2 y3 yl hpl HO
  obtain ⟨z0, z1, z2, z3, y0, y1, y2, y3⟩ := blk_cells4 KB.out
  have yl := blk_lt KB.out
  obtain ⟨x0, x1, x2, x3, u0, u1, u2, u3⟩ := blk_cells4 K4.out
  have ul := blk_lt K4.out
  have hpl := HP.out
  go_wp2_with fail
  refine bodyPost_ret (results_cell_row rfl _ _ (g + 1) 25 _ (0, 0) _ rfl (blk_set4 K4.out) hu25 rfl (by kernel_rfl)) rfl ?_
  have hf := fun (v0 v1 v2 v3 : Value) (WW : World) (k : Nat) (hk : k ≠ g + 1) => (show ((((WW.setCell ⟨g + 1, 0, none⟩ v0).setCell ⟨g + 1, 1, none⟩ v1).setCell ⟨g + 1, 2, none⟩ v2).setCell ⟨g + 1, 3, none⟩ v3).heap[k]? = WW.heap[k]? from
   (Below.heap_setCell _ ⟨g + 1, 3, none⟩ v3 k hk).trans ((Below.heap_setCell _ ⟨g + 1, 2, none⟩ v2 k hk).trans ((Below.heap_setCell _ ⟨g + 1, 1, none⟩ v1 k hk).trans (Below.heap_setCell _ ⟨g + 1, 0, none⟩ v0 k hk))))
  exact ⟨_, _, _, _, _, _, _, _, rfl, ⟨V_g RR.out.1 (fun k hk _ => hf _ _ _ _ _ k hk), V_g RR.out.2.1 (fun k hk _ => hf _ _ _ _ _ k hk), RR.out.2.2.1, RR.out.2.2.2.1, RR.out.2.2.2.2.1, RR.out.2.2.2.2.2.1, RR.out.2.2.2.2.2.2⟩, HC.out.far4 (by omega) (by omega), SB.set (SB.set (SB.set (SB.set HS.out (by omega) (by omega) _ _) (by omega) (by omega) _ _) (by omega) (by omega) _ _) (by omega) (by omega) _ _⟩
 ·skip
  obtain ⟨S, hSd⟩ : ∃ S : Int, S = ((l0.length / 64 : Nat) : Int) := ⟨_, rfl⟩
  have HSC := Aside0.mk (show spec_l1Sectors.f l0 l1 a2 a3 = some S by unfold spec_l1Sectors.f; rw [sectors_at l0 HG.out.ok.1, hSd])
  clear hSd
  go_upto_region 9 with (fail)
  refine start_ (n := 13) (S := fun w' => w'.heap[g]? = some (.cells #[.slice A' l0.length c', .slice B' l1.length d', .int .i64 a2, .bool a3] 25 (0, 0))) (ds := [12]) #[false, false, false, false, false, false, false, false, false, false, false, false, false] (by kernel_rfl) rfl rfl HO.out.box (fun hHeld => ?_); refine with_tabW l1Spoil.gtab9 l1Spoil.gbits9 (fun HT_ HW_ => ?_)
  have hbd : Below W1.heap.size W1 W1.drew := below_drew (Below.refl _ _)
  replace HC := Aside0.mk (HC.out.below hbd)
  replace K4 := Aside0.mk (blk_below K4.out hbd)
  replace HS := Aside0.mk (SB.below HS.out hbd (by have := blk_lt HO.out.box; have := HP.out; omega) (by have := blk_lt HO.out.box; have := HP.out; omega))
  replace HO := Aside0.mk (HO.out.below hbd)
  clear hbd z0 z1 z2 z3 y0 y1 y2 y3 yl
  generalize W1.drew = Wd at *
  refine pure_ (i := 0) (N := some 25) (v := ?_) (a' := ?_) #[true, false, false, false, false, false, false, false, false, false, false, false, false] rfl rfl (any_of HT_.out (by kernel_rfl)) (fun _ _ _ h => h) (Or.inl ⟨by rfl, ?_⟩) ?_ ?_
  rotate_left
  ·intro w'
   go_simp
   with_reducible rfl
  rotate_left
  ·simp only [Act.put, List.setIfInBounds_toArray, List.set_cons_zero, List.set_cons_succ, i64_w, i32_w]
   rfl
  refine take_ (i := 1) (N := some 26) (v := ?_) (a' := ?_) #[true, true, false, false, false, false, false, false, false, false, false, false, false] rfl rfl (take_ofW HT_.out HW_.out (by kernel_rfl)) (fun _ _ _ h => h) (Or.inl ⟨by rfl, ?_⟩) hHeld ?_ ?_
  rotate_left
  ·rintro w' s0
   obtain ⟨z0, z1, z2, z3, y0, y1, y2, y3⟩ := blk_cells4 s0
   go_simp
   with_reducible rfl
  rotate_left
  ·simp only [Act.put, List.setIfInBounds_toArray, List.set_cons_zero, List.set_cons_succ, i64_w, i32_w]
   rfl
  refine take_ (i := 2) (N := some 27) (v := ?_) (a' := ?_) #[true, true, true, false, false, false, false, false, false, false, false, false, false] rfl rfl (take_ofW HT_.out HW_.out (by kernel_rfl)) (fun _ _ _ h => h) (Or.inl ⟨by rfl, ?_⟩) hHeld ?_ ?_
  rotate_left
  ·rintro w' s0
   obtain ⟨z0, z1, z2, z3, y0, y1, y2, y3⟩ := blk_cells4 s0
   go_simp
   with_reducible rfl
  rotate_left
  ·simp only [Act.put, List.setIfInBounds_toArray, List.set_cons_zero, List.set_cons_succ, i64_w, i32_w]
   rfl
  refine pure_ (i := 4) (N := some 29) (v := ?_) (a' := ?_) #[true, true, true, false, true, false, false, false, false, false, false, false, false] rfl rfl (any_of HT_.out (by kernel_rfl)) (fun _ _ _ h => h) (Or.inl ⟨by rfl, ?_⟩) ?_ ?_
  rotate_left
  ·intro w'
   go_simp
   with_reducible rfl
  rotate_left
  ·simp only [Act.put, List.setIfInBounds_toArray, List.set_cons_zero, List.set_cons_succ, i64_w, i32_w]
   rfl
  refine one_ (i := 3) (N := some 28) #[true, true, true, true, true, false, false, false, false, false, false, false, false] rfl rfl (one_of HT_.out (by kernel_rfl)) (by decide) (fun K hK => ?_)
  refine goes_ Try.func51 (by kernel_rfl) rfl #[.agg #[.slice A' l0.length c', .slice B' l1.length d', .int .i64 a2, .bool a3]] (by rfl) rfl rfl (by (try simp only [List.map_toArray, List.map_cons, List.map_nil]); first | done | rfl) ?_
  refine (spec_l1Sectors.calls A' c' l0 B' d' l1 a2 a3 S _ HO.out.c0 HO.out.n0 HO.out.c1 HO.out.n1 HSC.out).mono ?_
  rintro e We ⟨rfl, hb⟩
  refine ⟨_, rfl, ?_⟩
  have hb_ := hb
  replace HS := Aside0.mk (SB.below HS.out hb_ (by have := blk_lt HO.out.box; have := HP.out; omega) (by have := blk_lt HO.out.box; have := HP.out; omega))
  replace HC := Aside0.mk (HC.out.below hb_)
  replace K4 := Aside0.mk (blk_below K4.out hb_)
  replace HO := Aside0.mk (HO.out.below hb_)
  clear hb_
  clear hb
  refine hK.out _ _ HO.out.box (fun hHeld => ?_)
  clear hK K
  refine norm_ (a' := ?_) ?_ ?_
  rotate_left
  ·show Act.put _ (some 28) _ = _
   simp only [Act.put, List.setIfInBounds_toArray, List.set_cons_zero, List.set_cons_succ, i64_w, i32_w]
   rfl
  refine one_ (i := 5) (N := some 30) #[true, true, true, true, true, true, false, false, false, false, false, false, false] rfl rfl (one_of HT_.out (by kernel_rfl)) (by decide) (fun K hK => ?_)
  refine goes_ Try.func96 (by kernel_rfl) rfl #[.pointer (some ⟨p, 0, none⟩), .int .i64 2] (by rfl) rfl rfl (by (try simp only [List.map_toArray, List.map_cons, List.map_nil]); first | done | rfl) ?_
  have HLT := Aside0.mk (blk_lt HO.out.box)
  refine (l1Below_any 2 (by decide) HC.out).mono ?_
  rintro e Wf ⟨x, rfl, hx2, hx3, hC, hS⟩
  refine ⟨_, rfl, ?_⟩
  replace HC := Aside0.mk hC
  replace K4 := Aside0.mk (hS.blk K4.out (by have := HP.out; omega))
  replace HO := Aside0.mk (HO.out.stp HP.out.1 hS)
  replace HS := Aside0.mk (SB.stp HS.out hS (by have h1 := hS.b.size; have h2 := HLT.out; have := HP.out; omega))
  have HX := Aside0.mk (And.intro hx2 hx3)
  clear hC hS hx2 hx3
  refine hK.out _ _ HO.out.box (fun hHeld => ?_)
  clear hK K
  refine norm_ (a' := ?_) ?_ ?_
  rotate_left
  ·show Act.put _ (some 30) _ = _
   simp only [Act.put, List.setIfInBounds_toArray, List.set_cons_zero, List.set_cons_succ, i64_w, i32_w]
   rfl
  refine pure_ (i := 6) (N := some 31) (v := ?_) (a' := ?_) #[true, true, true, true, true, true, true, false, false, false, false, false, false] rfl rfl (any_of HT_.out (by kernel_rfl)) (fun _ _ _ h => h) (Or.inl ⟨by rfl, ?_⟩) ?_ ?_
  rotate_left
  ·intro w'
   go_simp
   with_reducible rfl
  rotate_left
  ·simp only [Act.put, List.setIfInBounds_toArray, List.set_cons_zero, List.set_cons_succ, i64_w, i32_w]
   rfl
  refine one_ (i := 7) (N := some 32) #[true, true, true, true, true, true, true, true, false, false, false, false, false] rfl rfl (one_of HT_.out (by kernel_rfl)) (by decide) (fun K hK => ?_)
  refine goes_ Try.func101 (by kernel_rfl) rfl #[.int .i64 64] (by rfl) rfl rfl (by (try simp only [List.map_toArray, List.map_cons, List.map_nil]); first | done | rfl) ?_
  obtain ⟨kz, hkz⟩ := (l1Zeros_ev 64 (by decide)).rounds
  refine (spec_l1Zeros.calls kz 64 _ _ hkz).mono ?_
  clear hkz
  rintro e Wz ⟨vd, rfl, hR, hb⟩
  refine ⟨_, rfl, ?_⟩
  obtain ⟨EA, ec, rfl⟩ := Kd.R_slice hR
  rw [List.length_replicate]
  have HE := Aside0.mk (show Kd.R (Kd.int .u8) 5 Wz Wf.heap.size (fun _ => True) (.slice EA 64 ec) (List.replicate 64 0) by rw [List.length_replicate] at hR; exact hR)
  have dA := Aside0.mk (Kd.R_lt HO.out.r)
  have dB := Aside0.mk (Kd.S_lt HO.out.s)
  have HSB := Aside0.mk (Kd.S_below (Kd.S_bound HO.out.s) hb)
  have HZ0 := Aside0.mk (show b0 ≤ Wf.heap.size by have := blk_lt HO.out.box; have := HP.out; omega)
  have hb_ := hb
  replace HS := Aside0.mk (SB.below HS.out hb_ (by have := blk_lt HO.out.box; have := HP.out; omega) (by have := blk_lt HO.out.box; have := HP.out; omega))
  replace HC := Aside0.mk (HC.out.below hb_)
  replace K4 := Aside0.mk (blk_below K4.out hb_)
  replace HO := Aside0.mk (HO.out.below hb_)
  clear hb_
  clear hR hb
  refine hK.out _ _ HO.out.box (fun hHeld => ?_)
  clear hK K
  refine norm_ (a' := ?_) ?_ ?_
  rotate_left
  ·show Act.put _ (some 32) _ = _
   simp only [Act.put, List.setIfInBounds_toArray, List.set_cons_zero, List.set_cons_succ, i64_w, i32_w]
   rfl
  refine pure_ (i := 8) (N := some 33) (v := ?_) (a' := ?_) #[true, true, true, true, true, true, true, true, true, false, false, false, false] rfl rfl (any_of HT_.out (by kernel_rfl)) (fun _ _ _ h => h) (Or.inl ⟨by rfl, ?_⟩) ?_ ?_
  rotate_left
  ·intro w'
   go_simp
   with_reducible rfl
  rotate_left
  ·simp only [Act.put, List.setIfInBounds_toArray, List.set_cons_zero, List.set_cons_succ, i64_w, i32_w]
   rfl
  refine one_ (i := 9) (N := some 34) #[true, true, true, true, true, true, true, true, true, true, false, false, false] rfl rfl (one_of HT_.out (by kernel_rfl)) (by decide) (fun K hK => ?_)
  refine value_ (w1 := ?_) (v := ?_) (by rfl) rfl ?_ ?_
  rotate_left 2
  ·go_simp
   constructor
   · rfl
   · rfl
  refine hK.out _ _ (blk_alloc HO.out.box _) (fun hHeld => ?_)
  clear hK K
  refine norm_ (a' := ?_) ?_ ?_
  rotate_left
  ·show Act.put _ (some 34) _ = _
   simp only [Act.put, List.setIfInBounds_toArray, List.set_cons_zero, List.set_cons_succ, i64_w, i32_w]
   rfl
  refine one_ (i := 10) (N := some 35) #[true, true, true, true, true, true, true, true, true, true, true, false, false] rfl rfl (one_of HT_.out (by kernel_rfl)) (by decide) (fun K hK => ?_)
  refine Kd.S_append_step k79 (w0 := Wz) (W := Wz) b0 (by rfl) (.tmp 26) (.tmp 34) 23 79 (.agg #[(.int .i64 0), (.slice none 0 0)]) 32 rfl Try.underlying23 info79 rfl (by decide) (by omega) (.slice B' l1.length d') l1 (⟨(wrap64 (S - x)), List.replicate 64 0⟩ : S79) [.int .i64 (wrap64 (S - x)), .slice EA 64 ec] (fun k_ => some k_ ≠ (.slice A' l0.length c' : Value).ownBlock) (fun k_ => some k_ = (.slice EA 64 ec : Value).ownBlock) rfl rfl ?aP ?aK ?aF ?aO ?aB ?aS ?aL ?_
  case aP => exact k79_mkM _ _ _ (⟨wrap64 (S - x), List.replicate 64 0⟩ : S79) (Kd.R_tight rfl (Kd.R_lower HE.out HZ0.out))
  case aK => exact fun k hk => ⟨fun he => by have h1 := Kd.R_base HE.out k hk.symm; have h2 := dA.out k he.symm; exact absurd h2 (Nat.not_lt.2 h1), fun he => by have h1 := Kd.R_base HE.out k hk.symm; have h2 := dB.out k he.symm; exact absurd h2 (Nat.not_lt.2 h1)⟩
  case aF => exact fun k hk => Kd.fresh' (Kd.R_lt HO.out.r) k hk
  case aO => exact Kd.S_mono HSB.out (fun k hk => ⟨hk.1, fun he => by have h1 := Kd.R_base HE.out k he.symm; exact absurd hk.2.2.1 (Nat.not_lt.2 h1)⟩)
  case aB => exact ⟨rfl, rfl, rfl, Nat.le_refl _, fun _ _ => rfl⟩
  case aS => have := blk_lt HO.out.box; have := HP.out; omega
  case aL => have := (vD_facts HG.out.v).2.2.2.1; omega
  intro v5 w5 ho hb hg hat
  have HR5 := Aside0.mk (Kd.R_over' HO.out.r (Kd.S_typed HO.out.s) (by decide) hg)
  have KB5 := Aside0.mk (blk_grown HO.out.box hg (Kd.S_ne HO.out.s HO.out.box (by decide)))
  replace K4 := Aside0.mk (blk_grown K4.out hg (Kd.S_ne HO.out.s K4.out (by decide)))
  replace HC := Aside0.mk (HC.out.grown hg (Kd.S_base HO.out.s) HP.out.1)
  replace HS := Aside0.mk (SB.gro HS.out hb (by have := HP.out; omega))
  have HO5 := Aside0.mk ho
  have HGO := Aside0.mk (And.intro HO.out.le (blk_lt HO.out.box))
  clear ho hb hg hat HSB dA dB HE HO
  obtain ⟨B5, d5, ev5⟩ := Kd.S_slice HO5.out
  subst ev5
  refine hK.out _ _ KB5.out (fun hHeld => ?_)
  clear hK K
  refine norm_ (a' := ?_) ?_ ?_
  rotate_left
  ·show Act.put _ (some 35) _ = _
   simp only [Act.put, List.setIfInBounds_toArray, List.set_cons_zero, List.set_cons_succ, i64_w, i32_w]
   rfl
  refine pure_ (i := 11) (N := some 36) (v := ?_) (a' := ?_) #[true, true, true, true, true, true, true, true, true, true, true, true, false] rfl rfl (any_of HT_.out (by kernel_rfl)) (fun _ _ _ h => h) (Or.inl ⟨by rfl, ?_⟩) ?_ ?_
  rotate_left
  ·intro w'
   go_simp
   with_reducible rfl
  rotate_left
  ·simp only [Act.put, List.setIfInBounds_toArray, List.set_cons_zero, List.set_cons_succ, i64_w, i32_w]
   rfl
  refine last_ (i := 12) (N := none) #[true, true, true, true, true, true, true, true, true, true, true, true, true] rfl rfl (one_of HT_.out (by kernel_rfl)) (by decide) (fun K hK => ?_)
  obtain ⟨z0, z1, z2, z3, y0, y1, y2, y3⟩ := blk_cells4 KB5.out
  have yl := blk_lt KB5.out
  refine skip_ (w1 := ?_) (by rfl) rfl ?_ ?_
  rotate_left
  ·go_simp
   rfl
  refine hK.out _ _ ?_
  clear hK K
  refine done_ (done_of HT_.out (by kernel_rfl)) ?_
  try rw [show l1.length + 1 = (l1 ++ [(⟨wrap64 (S - x), List.replicate 64 0⟩ : S79)]).length by rw [List.length_append]; rfl]
  have hpl := HP.out
  have KB := Aside0.mk (blk_put KB5.out 1 (.slice B5 (l1 ++ [(⟨wrap64 (S - x), List.replicate 64 0⟩ : S79)]).length d5) rfl)
  have RR := Aside0.mk (show Kd.V (Kd.int .u8) 5 (w5.setCell ⟨g, 1, none⟩ (.slice B5 (l1 ++ [(⟨wrap64 (S - x), List.replicate 64 0⟩ : S79)]).length d5)) 0 (fun k => b0 ≤ k ∧ k ≠ g + 1) (.slice A' l0.length c') l0 ∧ Kd.V k79 79 (w5.setCell ⟨g, 1, none⟩ (.slice B5 (l1 ++ [(⟨wrap64 (S - x), List.replicate 64 0⟩ : S79)]).length d5)) 0 (fun k => b0 ≤ k ∧ k ≠ g + 1) (.slice B5 (l1 ++ [(⟨wrap64 (S - x), List.replicate 64 0⟩ : S79)]).length d5) (l1 ++ [(⟨wrap64 (S - x), List.replicate 64 0⟩ : S79)]) ∧ (l0).length ≤ 1048576 ∧ okPendS (l1 ++ [(⟨wrap64 (S - x), List.replicate 64 0⟩ : S79)]) ∧ (∀ x ∈ l0, 0 ≤ x ∧ x < 256) ∧ (∀ q ∈ (l1 ++ [(⟨wrap64 (S - x), List.replicate 64 0⟩ : S79)]), ∀ y ∈ q.f1, 0 ≤ y ∧ y < 256) ∧ ((l1 ++ [(⟨wrap64 (S - x), List.replicate 64 0⟩ : S79)])).length ≤ 2001 from ⟨Kd.V_mono (Kd.V_far (p := ⟨g, 1, none⟩) (Kd.R_V (base' := 0) (Kd.R_bound (Kd.R_types (Kd.R_types HR5.out KB5.out (by decide)) K4.out (by decide)))) (fun k hk => hk.1.1.2) _) (fun k hk => ⟨by have := hk.2.1; omega, hk.1.2⟩), Kd.V_mono (Kd.V_far (p := ⟨g, 1, none⟩) (Kd.S_V (base' := 0) (Kd.S_bound (Kd.S_types (Kd.S_types HO5.out KB5.out (by decide)) K4.out (by decide)))) (fun k hk => hk.1.1.2) _) (fun k hk => ⟨by have := hk.2.1; omega, hk.1.2⟩), HG.out.ok.1, ⟨by rw [List.length_append]; have := (vD_facts HG.out.v).2.2.2.1; simp; omega, fun q hq => (List.mem_append.1 hq).elim (HG.out.ok.2.2 q) (fun h => by rw [List.mem_singleton.1 h]; simp)⟩, HG.out.b0, fun q hq => (List.mem_append.1 hq).elim (HG.out.b1 q) (fun h y hy => by rw [List.mem_singleton.1 h] at hy; rw [List.eq_of_mem_replicate hy]; decide), by rw [List.length_append]; have := (vD_facts HG.out.v).2.2.2.1; simp; omega⟩)
  replace K4 := Aside0.mk (blk_far K4.out (p := ⟨g, 1, none⟩) (Nat.succ_ne_self g) (.slice B5 (l1 ++ [(⟨wrap64 (S - x), List.replicate 64 0⟩ : S79)]).length d5))
  replace HC := Aside0.mk (HC.out.far (g := g) (by omega) (by omega) 1 (.slice B5 (l1 ++ [(⟨wrap64 (S - x), List.replicate 64 0⟩ : S79)]).length d5))
  replace HS := Aside0.mk (SB.set (g := g) HS.out (by omega) (by omega) 1 (.slice B5 (l1 ++ [(⟨wrap64 (S - x), List.replicate 64 0⟩ : S79)]).length d5))
  generalize (l1 ++ [(⟨wrap64 (S - x), List.replicate 64 0⟩ : S79)]) = L5 at *
  generalize (w5.setCell ⟨g, 1, none⟩ (.slice B5 L5.length d5)) = Wn at *
  clear z0 z1 z2 z3 y0 y1 y2 y3 yl hpl HO5 HR5 KB5
  obtain ⟨z0, z1, z2, z3, y0, y1, y2, y3⟩ := blk_cells4 KB.out
  have yl := blk_lt KB.out
  obtain ⟨x0, x1, x2, x3, u0, u1, u2, u3⟩ := blk_cells4 K4.out
  have ul := blk_lt K4.out
  have hpl := HP.out
  go_wp2_with fail
  refine bodyPost_ret (results_cell_row rfl _ _ (g + 1) 25 _ (0, 0) _ rfl (blk_set4 K4.out) hu25 rfl (by kernel_rfl)) rfl ?_
  have hf := fun (v0 v1 v2 v3 : Value) (WW : World) (k : Nat) (hk : k ≠ g + 1) => (show ((((WW.setCell ⟨g + 1, 0, none⟩ v0).setCell ⟨g + 1, 1, none⟩ v1).setCell ⟨g + 1, 2, none⟩ v2).setCell ⟨g + 1, 3, none⟩ v3).heap[k]? = WW.heap[k]? from
   (Below.heap_setCell _ ⟨g + 1, 3, none⟩ v3 k hk).trans ((Below.heap_setCell _ ⟨g + 1, 2, none⟩ v2 k hk).trans ((Below.heap_setCell _ ⟨g + 1, 1, none⟩ v1 k hk).trans (Below.heap_setCell _ ⟨g + 1, 0, none⟩ v0 k hk))))
  exact ⟨_, _, _, _, _, _, _, _, rfl, ⟨V_g RR.out.1 (fun k hk _ => hf _ _ _ _ _ k hk), V_g RR.out.2.1 (fun k hk _ => hf _ _ _ _ _ k hk), RR.out.2.2.1, RR.out.2.2.2.1, RR.out.2.2.2.2.1, RR.out.2.2.2.2.2.1, RR.out.2.2.2.2.2.2⟩, HC.out.far4 (by omega) (by omega), SB.set (SB.set (SB.set (SB.set HS.out (by omega) (by omega) _ _) (by omega) (by omega) _ _) (by omega) (by omega) _ _) (by omega) (by omega) _ _⟩
 ·skip
  go_upto_region 11 with (fail)
  refine start_ (n := 8) (S := fun w' => w'.heap[g]? = some (.cells #[.slice A' l0.length c', .slice B' l1.length d', .int .i64 a2, .bool a3] 25 (0, 0))) (ds := [7]) #[false, false, false, false, false, false, false, false] (by kernel_rfl) rfl rfl HO.out.box (fun hHeld => ?_); refine with_tabW l1Spoil.gtab11 l1Spoil.gbits11 (fun HT_ HW_ => ?_)
  have hbd : Below W1.heap.size W1 W1.drew := below_drew (Below.refl _ _)
  replace HC := Aside0.mk (HC.out.below hbd)
  replace K4 := Aside0.mk (blk_below K4.out hbd)
  replace HS := Aside0.mk (SB.below HS.out hbd (by have := blk_lt HO.out.box; have := HP.out; omega) (by have := blk_lt HO.out.box; have := HP.out; omega))
  replace HO := Aside0.mk (HO.out.below hbd)
  clear hbd z0 z1 z2 z3 y0 y1 y2 y3 yl
  generalize W1.drew = Wd at *
  refine pure_ (i := 0) (N := some 39) (v := ?_) (a' := ?_) #[true, false, false, false, false, false, false, false] rfl rfl (any_of HT_.out (by kernel_rfl)) (fun _ _ _ h => h) (Or.inl ⟨by rfl, ?_⟩) ?_ ?_
  rotate_left
  ·intro w'
   go_simp
   with_reducible rfl
  rotate_left
  ·simp only [Act.put, List.setIfInBounds_toArray, List.set_cons_zero, List.set_cons_succ, i64_w, i32_w]
   rfl
  refine take_ (i := 1) (N := some 40) (v := ?_) (a' := ?_) #[true, true, false, false, false, false, false, false] rfl rfl (take_ofW HT_.out HW_.out (by kernel_rfl)) (fun _ _ _ h => h) (Or.inl ⟨by rfl, ?_⟩) hHeld ?_ ?_
  rotate_left
  ·rintro w' s0
   obtain ⟨z0, z1, z2, z3, y0, y1, y2, y3⟩ := blk_cells4 s0
   go_simp
   with_reducible rfl
  rotate_left
  ·simp only [Act.put, List.setIfInBounds_toArray, List.set_cons_zero, List.set_cons_succ, i64_w, i32_w]
   rfl
  refine one_ (i := 2) (N := some 41) #[true, true, true, false, false, false, false, false] rfl rfl (one_of HT_.out (by kernel_rfl)) (by decide) (fun K hK => ?_)
  refine goes_ Try.func101 (by kernel_rfl) rfl #[.int .i64 63] (by rfl) rfl rfl (by (try simp only [List.map_toArray, List.map_cons, List.map_nil]); first | done | rfl) ?_
  obtain ⟨kz, hkz⟩ := (l1Zeros_ev 63 (by decide)).rounds
  refine (spec_l1Zeros.calls kz 63 _ _ hkz).mono ?_
  clear hkz
  rintro e Wz ⟨vd, rfl, hR, hb⟩
  refine ⟨_, rfl, ?_⟩
  obtain ⟨EA, ec, rfl⟩ := Kd.R_slice hR
  rw [List.length_replicate]
  have HE := Aside0.mk (show Kd.R (Kd.int .u8) 5 Wz Wd.heap.size (fun _ => True) (.slice EA 63 ec) (List.replicate 63 0) by rw [List.length_replicate] at hR; exact hR)
  have dA := Aside0.mk (Kd.R_lt HO.out.r)
  have dB := Aside0.mk (Kd.S_lt HO.out.s)
  have HSB := Aside0.mk (Kd.S_below (Kd.S_bound HO.out.s) hb)
  have HZ0 := Aside0.mk (show b0 ≤ Wd.heap.size by have := blk_lt HO.out.box; have := HP.out; omega)
  have hb_ := hb
  replace HS := Aside0.mk (SB.below HS.out hb_ (by have := blk_lt HO.out.box; have := HP.out; omega) (by have := blk_lt HO.out.box; have := HP.out; omega))
  replace HC := Aside0.mk (HC.out.below hb_)
  replace K4 := Aside0.mk (blk_below K4.out hb_)
  replace HO := Aside0.mk (HO.out.below hb_)
  clear hb_
  clear hR hb
  refine hK.out _ _ HO.out.box (fun hHeld => ?_)
  clear hK K
  refine norm_ (a' := ?_) ?_ ?_
  rotate_left
  ·show Act.put _ (some 41) _ = _
   simp only [Act.put, List.setIfInBounds_toArray, List.set_cons_zero, List.set_cons_succ, i64_w, i32_w]
   rfl
  refine pure_ (i := 3) (N := some 42) (v := ?_) (a' := ?_) #[true, true, true, true, false, false, false, false] rfl rfl (any_of HT_.out (by kernel_rfl)) (fun _ _ _ h => h) (Or.inl ⟨by rfl, ?_⟩) ?_ ?_
  rotate_left
  ·intro w'
   go_simp
   with_reducible rfl
  rotate_left
  ·simp only [Act.put, List.setIfInBounds_toArray, List.set_cons_zero, List.set_cons_succ, i64_w, i32_w]
   rfl
  refine one_ (i := 4) (N := some 43) #[true, true, true, true, true, false, false, false] rfl rfl (one_of HT_.out (by kernel_rfl)) (by decide) (fun K hK => ?_)
  refine value_ (w1 := ?_) (v := ?_) (by rfl) rfl ?_ ?_
  rotate_left 2
  ·go_simp
   constructor
   · rfl
   · rfl
  refine hK.out _ _ (blk_alloc HO.out.box _) (fun hHeld => ?_)
  clear hK K
  refine norm_ (a' := ?_) ?_ ?_
  rotate_left
  ·show Act.put _ (some 43) _ = _
   simp only [Act.put, List.setIfInBounds_toArray, List.set_cons_zero, List.set_cons_succ, i64_w, i32_w]
   rfl
  refine one_ (i := 5) (N := some 44) #[true, true, true, true, true, true, false, false] rfl rfl (one_of HT_.out (by kernel_rfl)) (by decide) (fun K hK => ?_)
  refine Kd.S_append_step k79 (w0 := Wz) (W := Wz) b0 (by rfl) (.tmp 40) (.tmp 43) 23 79 (.agg #[(.int .i64 0), (.slice none 0 0)]) 32 rfl Try.underlying23 info79 rfl (by decide) (by omega) (.slice B' l1.length d') l1 (⟨(1), List.replicate 63 0⟩ : S79) [.int .i64 (1), .slice EA 63 ec] (fun k_ => some k_ ≠ (.slice A' l0.length c' : Value).ownBlock) (fun k_ => some k_ = (.slice EA 63 ec : Value).ownBlock) rfl rfl ?aP ?aK ?aF ?aO ?aB ?aS ?aL ?_
  case aP => exact k79_mkM _ _ _ (⟨1, List.replicate 63 0⟩ : S79) (Kd.R_tight rfl (Kd.R_lower HE.out HZ0.out))
  case aK => exact fun k hk => ⟨fun he => by have h1 := Kd.R_base HE.out k hk.symm; have h2 := dA.out k he.symm; exact absurd h2 (Nat.not_lt.2 h1), fun he => by have h1 := Kd.R_base HE.out k hk.symm; have h2 := dB.out k he.symm; exact absurd h2 (Nat.not_lt.2 h1)⟩
  case aF => exact fun k hk => Kd.fresh' (Kd.R_lt HO.out.r) k hk
  case aO => exact Kd.S_mono HSB.out (fun k hk => ⟨hk.1, fun he => by have h1 := Kd.R_base HE.out k he.symm; exact absurd hk.2.2.1 (Nat.not_lt.2 h1)⟩)
  case aB => exact ⟨rfl, rfl, rfl, Nat.le_refl _, fun _ _ => rfl⟩
  case aS => have := blk_lt HO.out.box; have := HP.out; omega
  case aL => have := (vD_facts HG.out.v).2.2.2.1; omega
  intro v5 w5 ho hb hg hat
  have HR5 := Aside0.mk (Kd.R_over' HO.out.r (Kd.S_typed HO.out.s) (by decide) hg)
  have KB5 := Aside0.mk (blk_grown HO.out.box hg (Kd.S_ne HO.out.s HO.out.box (by decide)))
  replace K4 := Aside0.mk (blk_grown K4.out hg (Kd.S_ne HO.out.s K4.out (by decide)))
  replace HC := Aside0.mk (HC.out.grown hg (Kd.S_base HO.out.s) HP.out.1)
  replace HS := Aside0.mk (SB.gro HS.out hb (by have := HP.out; omega))
  have HO5 := Aside0.mk ho
  have HGO := Aside0.mk (And.intro HO.out.le (blk_lt HO.out.box))
  clear ho hb hg hat HSB dA dB HE HO
  obtain ⟨B5, d5, ev5⟩ := Kd.S_slice HO5.out
  subst ev5
  refine hK.out _ _ KB5.out (fun hHeld => ?_)
  clear hK K
  refine norm_ (a' := ?_) ?_ ?_
  rotate_left
  ·show Act.put _ (some 44) _ = _
   simp only [Act.put, List.setIfInBounds_toArray, List.set_cons_zero, List.set_cons_succ, i64_w, i32_w]
   rfl
  refine pure_ (i := 6) (N := some 45) (v := ?_) (a' := ?_) #[true, true, true, true, true, true, true, false] rfl rfl (any_of HT_.out (by kernel_rfl)) (fun _ _ _ h => h) (Or.inl ⟨by rfl, ?_⟩) ?_ ?_
  rotate_left
  ·intro w'
   go_simp
   with_reducible rfl
  rotate_left
  ·simp only [Act.put, List.setIfInBounds_toArray, List.set_cons_zero, List.set_cons_succ, i64_w, i32_w]
   rfl
  refine last_ (i := 7) (N := none) #[true, true, true, true, true, true, true, true] rfl rfl (one_of HT_.out (by kernel_rfl)) (by decide) (fun K hK => ?_)
  obtain ⟨z0, z1, z2, z3, y0, y1, y2, y3⟩ := blk_cells4 KB5.out
  have yl := blk_lt KB5.out
  refine skip_ (w1 := ?_) (by rfl) rfl ?_ ?_
  rotate_left
  ·go_simp
   rfl
  refine hK.out _ _ ?_
  clear hK K
  refine done_ (done_of HT_.out (by kernel_rfl)) ?_
  try rw [show l1.length + 1 = (l1 ++ [(⟨1, List.replicate 63 0⟩ : S79)]).length by rw [List.length_append]; rfl]
  have hpl := HP.out
  have KB := Aside0.mk (blk_put KB5.out 1 (.slice B5 (l1 ++ [(⟨1, List.replicate 63 0⟩ : S79)]).length d5) rfl)
  have RR := Aside0.mk (show Kd.V (Kd.int .u8) 5 (w5.setCell ⟨g, 1, none⟩ (.slice B5 (l1 ++ [(⟨1, List.replicate 63 0⟩ : S79)]).length d5)) 0 (fun k => b0 ≤ k ∧ k ≠ g + 1) (.slice A' l0.length c') l0 ∧ Kd.V k79 79 (w5.setCell ⟨g, 1, none⟩ (.slice B5 (l1 ++ [(⟨1, List.replicate 63 0⟩ : S79)]).length d5)) 0 (fun k => b0 ≤ k ∧ k ≠ g + 1) (.slice B5 (l1 ++ [(⟨1, List.replicate 63 0⟩ : S79)]).length d5) (l1 ++ [(⟨1, List.replicate 63 0⟩ : S79)]) ∧ (l0).length ≤ 1048576 ∧ okPendS (l1 ++ [(⟨1, List.replicate 63 0⟩ : S79)]) ∧ (∀ x ∈ l0, 0 ≤ x ∧ x < 256) ∧ (∀ q ∈ (l1 ++ [(⟨1, List.replicate 63 0⟩ : S79)]), ∀ y ∈ q.f1, 0 ≤ y ∧ y < 256) ∧ ((l1 ++ [(⟨1, List.replicate 63 0⟩ : S79)])).length ≤ 2001 from ⟨Kd.V_mono (Kd.V_far (p := ⟨g, 1, none⟩) (Kd.R_V (base' := 0) (Kd.R_bound (Kd.R_types (Kd.R_types HR5.out KB5.out (by decide)) K4.out (by decide)))) (fun k hk => hk.1.1.2) _) (fun k hk => ⟨by have := hk.2.1; omega, hk.1.2⟩), Kd.V_mono (Kd.V_far (p := ⟨g, 1, none⟩) (Kd.S_V (base' := 0) (Kd.S_bound (Kd.S_types (Kd.S_types HO5.out KB5.out (by decide)) K4.out (by decide)))) (fun k hk => hk.1.1.2) _) (fun k hk => ⟨by have := hk.2.1; omega, hk.1.2⟩), HG.out.ok.1, ⟨by rw [List.length_append]; have := (vD_facts HG.out.v).2.2.2.1; simp; omega, fun q hq => (List.mem_append.1 hq).elim (HG.out.ok.2.2 q) (fun h => by rw [List.mem_singleton.1 h]; simp)⟩, HG.out.b0, fun q hq => (List.mem_append.1 hq).elim (HG.out.b1 q) (fun h y hy => by rw [List.mem_singleton.1 h] at hy; rw [List.eq_of_mem_replicate hy]; decide), by rw [List.length_append]; have := (vD_facts HG.out.v).2.2.2.1; simp; omega⟩)
  replace K4 := Aside0.mk (blk_far K4.out (p := ⟨g, 1, none⟩) (Nat.succ_ne_self g) (.slice B5 (l1 ++ [(⟨1, List.replicate 63 0⟩ : S79)]).length d5))
  replace HC := Aside0.mk (HC.out.far (g := g) (by omega) (by omega) 1 (.slice B5 (l1 ++ [(⟨1, List.replicate 63 0⟩ : S79)]).length d5))
  replace HS := Aside0.mk (SB.set (g := g) HS.out (by omega) (by omega) 1 (.slice B5 (l1 ++ [(⟨1, List.replicate 63 0⟩ : S79)]).length d5))
  generalize (l1 ++ [(⟨1, List.replicate 63 0⟩ : S79)]) = L5 at *
  generalize (w5.setCell ⟨g, 1, none⟩ (.slice B5 L5.length d5)) = Wn at *
  clear z0 z1 z2 z3 y0 y1 y2 y3 yl hpl HO5 HR5 KB5
  obtain ⟨z0, z1, z2, z3, y0, y1, y2, y3⟩ := blk_cells4 KB.out
  have yl := blk_lt KB.out
  obtain ⟨x0, x1, x2, x3, u0, u1, u2, u3⟩ := blk_cells4 K4.out
  have ul := blk_lt K4.out
  have hpl := HP.out
  go_wp2_with fail
  refine bodyPost_ret (results_cell_row rfl _ _ (g + 1) 25 _ (0, 0) _ rfl (blk_set4 K4.out) hu25 rfl (by kernel_rfl)) rfl ?_
  have hf := fun (v0 v1 v2 v3 : Value) (WW : World) (k : Nat) (hk : k ≠ g + 1) => (show ((((WW.setCell ⟨g + 1, 0, none⟩ v0).setCell ⟨g + 1, 1, none⟩ v1).setCell ⟨g + 1, 2, none⟩ v2).setCell ⟨g + 1, 3, none⟩ v3).heap[k]? = WW.heap[k]? from
   (Below.heap_setCell _ ⟨g + 1, 3, none⟩ v3 k hk).trans ((Below.heap_setCell _ ⟨g + 1, 2, none⟩ v2 k hk).trans ((Below.heap_setCell _ ⟨g + 1, 1, none⟩ v1 k hk).trans (Below.heap_setCell _ ⟨g + 1, 0, none⟩ v0 k hk))))
  exact ⟨_, _, _, _, _, _, _, _, rfl, ⟨V_g RR.out.1 (fun k hk _ => hf _ _ _ _ _ k hk), V_g RR.out.2.1 (fun k hk _ => hf _ _ _ _ _ k hk), RR.out.2.2.1, RR.out.2.2.2.1, RR.out.2.2.2.2.1, RR.out.2.2.2.2.2.1, RR.out.2.2.2.2.2.2⟩, HC.out.far4 (by omega) (by omega), SB.set (SB.set (SB.set (SB.set HS.out (by omega) (by omega) _ _) (by omega) (by omega) _ _) (by omega) (by omega) _ _) (by omega) (by omega) _ _⟩
 ·skip
  have hpl := HP.out
  have hg := HG.out
  have V0 : Kd.V (Kd.int .u8) 5 W1 0 (fun k => b0 ≤ k ∧ k ≠ g ∧ k ≠ g + 1) (.slice A' l0.length c') l0 := Kd.R_V (Kd.R_mono (Kd.R_bound (Kd.R_types (Kd.R_types HO.out.r HO.out.box (by decide)) K4.out (by decide))) (fun k hk => ⟨by have := hk.2.1; omega, hk.1.1.2, hk.1.2⟩))
  have V1 : Kd.V k79 79 W1 0 (fun k => b0 ≤ k ∧ k ≠ g ∧ k ≠ g + 1) (.slice B' l1.length d') l1 := Kd.S_V (Kd.S_mono (Kd.S_bound (Kd.S_types (Kd.S_types HO.out.s HO.out.box (by decide)) K4.out (by decide))) (fun k hk => ⟨by have := hk.2.1; omega, hk.1.1.2, hk.1.2⟩))
  have VV0 := Aside0.mk V0
  have VV1 := Aside0.mk V1
  clear V0 V1 hpl hg
  have hcc : (1024 : Int) ≤ (c' : Int) := by have := HO.out.n0; have := (vD_facts HG.out.v).2.1; omega
  have HCC := Aside0.mk hcc
  go_upto_region 13 with (fail)
  refine start_ (n := 9) (S := fun w' => w'.heap[g]? = some (.cells #[.slice A' l0.length c', .slice B' l1.length d', .int .i64 a2, .bool a3] 25 (0, 0))) (ds := [8]) #[false, false, false, false, false, false, false, false, false] (by kernel_rfl) rfl rfl HO.out.box (fun hHeld => ?_); refine with_tabW l1Spoil.gtab13 l1Spoil.gbits13 (fun HT_ HW_ => ?_)
  have hbd : Below W1.heap.size W1 W1.drew := below_drew (Below.refl _ _)
  replace HC := Aside0.mk (HC.out.below hbd)
  replace K4 := Aside0.mk (blk_below K4.out hbd)
  replace VV0 := Aside0.mk (Kd.V_below VV0.out hbd)
  replace VV1 := Aside0.mk (Kd.V_below VV1.out hbd)
  replace HS := Aside0.mk (SB.below HS.out hbd (by have := blk_lt HO.out.box; have := HP.out; omega) (by have := blk_lt HO.out.box; have := HP.out; omega))
  replace HO := Aside0.mk (HO.out.below hbd)
  clear hbd z0 z1 z2 z3 y0 y1 y2 y3 yl
  generalize W1.drew = Wd at *
  refine pure_ (i := 0) (N := some 48) (v := ?_) (a' := ?_) #[true, false, false, false, false, false, false, false, false] rfl rfl (any_of HT_.out (by kernel_rfl)) (fun _ _ _ h => h) (Or.inl ⟨by rfl, ?_⟩) ?_ ?_
  rotate_left
  ·intro w'
   go_simp
   with_reducible rfl
  rotate_left
  ·simp only [Act.put, List.setIfInBounds_toArray, List.set_cons_zero, List.set_cons_succ, i64_w, i32_w]
   rfl
  refine take_ (i := 1) (N := some 49) (v := ?_) (a' := ?_) #[true, true, false, false, false, false, false, false, false] rfl rfl (take_ofW HT_.out HW_.out (by kernel_rfl)) (fun _ _ _ h => h) (Or.inl ⟨by rfl, ?_⟩) hHeld ?_ ?_
  rotate_left
  ·rintro w' s0
   obtain ⟨z0, z1, z2, z3, y0, y1, y2, y3⟩ := blk_cells4 s0
   go_simp
   with_reducible rfl
  rotate_left
  ·simp only [Act.put, List.setIfInBounds_toArray, List.set_cons_zero, List.set_cons_succ, i64_w, i32_w]
   rfl
  refine pure_ (i := 2) (N := some 50) (v := ?_) (a' := ?_) #[true, true, true, false, false, false, false, false, false] rfl rfl (any_of HT_.out (by kernel_rfl)) (fun _ _ _ h => h) (Or.inl ⟨by rfl, ?_⟩) ?_ ?_
  rotate_left
  ·intro w'
   go_simp
   with_reducible rfl
  rotate_left
  ·simp only [Act.put, List.setIfInBounds_toArray, List.set_cons_zero, List.set_cons_succ, i64_w, i32_w]
   rfl
  refine one_ (i := 3) (N := some 51) #[true, true, true, true, false, false, false, false, false] rfl rfl (one_of HT_.out (by kernel_rfl)) (by decide) (fun K hK => ?_)
  refine goes_ Try.func96 (by kernel_rfl) rfl #[.pointer (some ⟨p, 0, none⟩), .int .i64 2] (by rfl) rfl rfl (by (try simp only [List.map_toArray, List.map_cons, List.map_nil]); first | done | rfl) ?_
  have HLT := Aside0.mk (blk_lt HO.out.box)
  refine (l1Below_any 2 (by decide) HC.out).mono ?_
  rintro e Wf ⟨x, rfl, hx2, hx3, hC, hS⟩
  refine ⟨_, rfl, ?_⟩
  replace HC := Aside0.mk hC
  replace K4 := Aside0.mk (hS.blk K4.out (by have := HP.out; omega))
  replace HO := Aside0.mk (HO.out.stp HP.out.1 hS)
  replace HS := Aside0.mk (SB.stp HS.out hS (by have h1 := hS.b.size; have h2 := HLT.out; have := HP.out; omega))
  replace VV0 := Aside0.mk (Kd.V_kept VV0.out hS.k (fun k hk => by have := hk.1; have := HP.out.1; omega))
  replace VV1 := Aside0.mk (Kd.V_kept VV1.out hS.k (fun k hk => by have := hk.1; have := HP.out.1; omega))
  clear hC hS
  have hs0 : wrap64 (64 * wrap64 (16 - x)) = 64 * (16 - x) := by unfold wrap64; omega
  have hs1 : wrap64 (64 * wrap64 (16 - x)) ≤ (c' : Int) := by omega
  have hs2 : 0 ≤ wrap64 (64 * wrap64 (16 - x)) := by omega
  have HS0 := Aside0.mk (show ((wrap64 (64 * wrap64 (16 - x))).toNat : Int) ≤ 1024 by omega)
  clear hs0 hx2 hx3 hcc
  refine hK.out _ _ HO.out.box (fun hHeld => ?_)
  clear hK K
  refine norm_ (a' := ?_) ?_ ?_
  rotate_left
  ·show Act.put _ (some 51) _ = _
   simp only [Act.put, List.setIfInBounds_toArray, List.set_cons_zero, List.set_cons_succ, i64_w, i32_w]
   rfl
  refine pure_ (i := 4) (N := some 52) (v := ?_) (a' := ?_) #[true, true, true, true, true, false, false, false, false] rfl rfl (any_of HT_.out (by kernel_rfl)) (fun _ _ _ h => h) (Or.inl ⟨by rfl, ?_⟩) ?_ ?_
  rotate_left
  ·intro w'
   go_simp
   with_reducible rfl
  rotate_left
  ·simp only [Act.put, List.setIfInBounds_toArray, List.set_cons_zero, List.set_cons_succ, i64_w, i32_w]
   rfl
  refine pure_ (i := 5) (N := some 53) (v := ?_) (a' := ?_) #[true, true, true, true, true, true, false, false, false] rfl rfl (any_of HT_.out (by kernel_rfl)) (fun _ _ _ h => h) (Or.inl ⟨by rfl, ?_⟩) ?_ ?_
  rotate_left
  ·intro w'
   go_simp
   with_reducible rfl
  rotate_left
  ·simp only [Act.put, List.setIfInBounds_toArray, List.set_cons_zero, List.set_cons_succ, i64_w, i32_w]
   rfl
  refine pure_ (i := 6) (N := some 54) (v := ?_) (a' := ?_) #[true, true, true, true, true, true, true, false, false] rfl rfl (any_of HT_.out (by kernel_rfl)) (fun _ _ _ h => h) (Or.inl ⟨by rfl, ?_⟩) ?_ ?_
  rotate_left
  ·intro w'
   go_simp
   with_reducible rfl
  rotate_left
  ·simp only [Act.put, List.setIfInBounds_toArray, List.set_cons_zero, List.set_cons_succ, i64_w, i32_w]
   rfl
  refine pure_ (i := 7) (N := some 55) (v := ?_) (a' := ?_) #[true, true, true, true, true, true, true, true, false] rfl rfl (any_of HT_.out (by kernel_rfl)) (fun _ _ _ h => h) (Or.inl ⟨by rfl, ?_⟩) ?_ ?_
  rotate_left
  ·intro w'
   go_simp
   with_reducible rfl
  rotate_left
  ·simp only [Act.put, List.setIfInBounds_toArray, List.set_cons_zero, List.set_cons_succ, i64_w, i32_w]
   rfl
  refine last_ (i := 8) (N := none) #[true, true, true, true, true, true, true, true, true] rfl rfl (one_of HT_.out (by kernel_rfl)) (by decide) (fun K hK => ?_)
  obtain ⟨z0, z1, z2, z3, y0, y1, y2, y3⟩ := blk_cells4 HO.out.box
  have yl := blk_lt HO.out.box
  refine skip_ (w1 := ?_) (by rfl) rfl ?_ ?_
  rotate_left
  ·go_simp
   rfl
  refine hK.out _ _ ?_
  clear hK K
  refine done_ (done_of HT_.out (by kernel_rfl)) ?_
  clear hs1 hs2
  obtain ⟨m, hm⟩ : ∃ m : Nat, m = (wrap64 (64 * wrap64 (16 - x))).toNat := ⟨_, rfl⟩
  rw [← hm] at HS0 ⊢
  have hml : m ≤ l0.length := by have := HS0.out; have := (vD_facts HG.out.v).2.1; omega
  have V2 : Kd.V (Kd.int .u8) 5 Wf 0 (fun k => b0 ≤ k ∧ k ≠ g ∧ k ≠ g + 1) (.slice A' (l0.take m).length c') (l0.take m) := by
   obtain ⟨hn, hle, hF⟩ := Kd.V_at VV0.out
   exact Kd.V_mk (by rw [List.length_take]; omega) (Kd.F_take hF hml)
  have VV2 := Aside0.mk V2
  have hlm : m = (l0.take m).length := by rw [List.length_take, Nat.min_eq_left hml]
  rw [hlm]
  clear hm hlm hml V2
  generalize hL2 : l0.take m = L2 at *
  have hLn : L2.length ≤ l0.length := by rw [← hL2, List.length_take]; omega
  have hLb : ∀ x ∈ L2, x ∈ l0 := fun x hx => by rw [← hL2] at hx; exact List.mem_of_mem_take hx
  have hpl := HP.out
  have KB := Aside0.mk (blk_put HO.out.box 0 (.slice A' L2.length c') rfl)
  have RR := Aside0.mk (show Kd.V (Kd.int .u8) 5 (Wf.setCell ⟨g, 0, none⟩ (.slice A' L2.length c')) 0 (fun k => b0 ≤ k ∧ k ≠ g + 1) (.slice A' L2.length c') L2 ∧ Kd.V k79 79 (Wf.setCell ⟨g, 0, none⟩ (.slice A' L2.length c')) 0 (fun k => b0 ≤ k ∧ k ≠ g + 1) (.slice B' l1.length d') l1 ∧ (L2).length ≤ 1048576 ∧ okPendS l1 ∧ (∀ x ∈ L2, 0 ≤ x ∧ x < 256) ∧ (∀ q ∈ l1, ∀ y ∈ q.f1, 0 ≤ y ∧ y < 256) ∧ (l1).length ≤ 2001 from ⟨Kd.V_mono (Kd.V_far (p := ⟨g, 0, none⟩) VV2.out (fun _ hk => hk.2.1) _) (fun _ hk => ⟨hk.1, hk.2.2⟩), Kd.V_mono (Kd.V_far (p := ⟨g, 0, none⟩) VV1.out (fun _ hk => hk.2.1) _) (fun _ hk => ⟨hk.1, hk.2.2⟩), by have := HG.out.ok.1; omega, HG.out.ok.2, fun x hx => HG.out.b0 x (hLb x hx), HG.out.b1, by have := (vD_facts HG.out.v).2.2.2.1; omega⟩)
  replace K4 := Aside0.mk (blk_far K4.out (p := ⟨g, 0, none⟩) (Nat.succ_ne_self g) (.slice A' L2.length c'))
  replace HC := Aside0.mk (HC.out.far (g := g) (by omega) (by omega) 0 (.slice A' L2.length c'))
  replace HS := Aside0.mk (SB.set (g := g) HS.out (by omega) (by omega) 0 (.slice A' L2.length c'))
  generalize (Wf.setCell ⟨g, 0, none⟩ (.slice A' L2.length c')) = Wn at *
  clear z0 z1 z2 z3 y0 y1 y2 y3 yl hpl HO VV2 hL2 hLn hLb
  obtain ⟨z0, z1, z2, z3, y0, y1, y2, y3⟩ := blk_cells4 KB.out
  have yl := blk_lt KB.out
  obtain ⟨x0, x1, x2, x3, u0, u1, u2, u3⟩ := blk_cells4 K4.out
  have ul := blk_lt K4.out
  have hpl := HP.out
  go_wp2_with fail
  refine bodyPost_ret (results_cell_row rfl _ _ (g + 1) 25 _ (0, 0) _ rfl (blk_set4 K4.out) hu25 rfl (by kernel_rfl)) rfl ?_
  have hf := fun (v0 v1 v2 v3 : Value) (WW : World) (k : Nat) (hk : k ≠ g + 1) => (show ((((WW.setCell ⟨g + 1, 0, none⟩ v0).setCell ⟨g + 1, 1, none⟩ v1).setCell ⟨g + 1, 2, none⟩ v2).setCell ⟨g + 1, 3, none⟩ v3).heap[k]? = WW.heap[k]? from
   (Below.heap_setCell _ ⟨g + 1, 3, none⟩ v3 k hk).trans ((Below.heap_setCell _ ⟨g + 1, 2, none⟩ v2 k hk).trans ((Below.heap_setCell _ ⟨g + 1, 1, none⟩ v1 k hk).trans (Below.heap_setCell _ ⟨g + 1, 0, none⟩ v0 k hk))))
  exact ⟨_, _, _, _, _, _, _, _, rfl, ⟨V_g RR.out.1 (fun k hk _ => hf _ _ _ _ _ k hk), V_g RR.out.2.1 (fun k hk _ => hf _ _ _ _ _ k hk), RR.out.2.2.1, RR.out.2.2.2.1, RR.out.2.2.2.2.1, RR.out.2.2.2.2.2.1, RR.out.2.2.2.2.2.2⟩, HC.out.far4 (by omega) (by omega), SB.set (SB.set (SB.set (SB.set HS.out (by omega) (by omega) _ _) (by omega) (by omega) _ _) (by omega) (by omega) _ _) (by omega) (by omega) _ _⟩

/-! ### zl_draw5: a text by hand -/
-- uses Stp.blk Cur.far4 RD
section
variable {b0 b1 p c d : Nat} {W W1 : World} {A B : Option Addr} {v0 v1 : Value} {l0 : List Int} {l1 : List S79}
theorem RD.c0 (h : RD b0 W (.slice A l0.length c) (.slice B l1.length d) l0 l1) : l0.length ≤ c ∧ Kd.C (Kd.int .u8) W A l0.length l0 := (Kd.V_reads' h.r).2
theorem RD.c1 (h : RD b0 W (.slice A l0.length c) (.slice B l1.length d) l0 l1) : l1.length ≤ d ∧ Kd.C k79 W B l1.length l1 := (Kd.V_reads' h.s).2
theorem RD.same (h : RD b0 W v0 v1 l0 l1) (hk : ∀ k, b0 ≤ k → k < W.heap.size → W1.heap[k]? = W.heap[k]?) : RD b0 W1 v0 v1 l0 l1 :=
 ⟨Kd.V_step h.r hk, Kd.V_step h.s hk, h.n, h.ok, h.y0, h.y1, h.n1⟩
theorem RD.lower (h : RD b0 W v0 v1 l0 l1) (hb : b1 ≤ b0) : RD b1 W v0 v1 l0 l1 :=
 ⟨Kd.V_mono h.r (fun k hk => Nat.le_trans hb hk), Kd.V_mono h.s (fun k hk => Nat.le_trans hb hk), h.n, h.ok, h.y0, h.y1, h.n1⟩
end
theorem set4_other {W : World} {g k : Nat} (v0 v1 v2 v3 : Value) (hk : k ≠ g) : ((((W.setCell ⟨g, 0, none⟩ v0).setCell ⟨g, 1, none⟩ v1).setCell ⟨g, 2, none⟩ v2).setCell ⟨g, 3, none⟩ v3).heap[k]? = W.heap[k]? :=
 (Below.heap_setCell _ ⟨g, 3, none⟩ v3 k hk).trans ((Below.heap_setCell _ ⟨g, 2, none⟩ v2 k hk).trans ((Below.heap_setCell _ ⟨g, 1, none⟩ v1 k hk).trans (Below.heap_setCell _ ⟨g, 0, none⟩ v0 k hk)))
theorem Stp.set4' {lo p g : Nat} {W0 W : World} (h : Stp lo p W0 W) (hg : W0.heap.size ≤ g) (hl : lo ≤ g) (v0 v1 v2 v3 : Value) : Stp lo p W0 ((((W.setCell ⟨g, 0, none⟩ v0).setCell ⟨g, 1, none⟩ v1).setCell ⟨g, 2, none⟩ v2).setCell ⟨g, 3, none⟩ v3) := h.set4 hg hl
theorem Stp.of_sb {lo b0 p : Nat} {W0 W W1 : World} (h : Stp lo p W0 W) (hb : SB lo b0 p W W1) (hs : W0.heap.size ≤ b0) : Stp lo p W0 W1 :=
 ⟨Below.trans_same h.b hb.b, ⟨Nat.le_trans h.k.1 hb.b.size, fun i hi hn => (hb.k i (Nat.lt_of_lt_of_le hi hs) hn).trans (h.k.2 i hi hn)⟩⟩
set_option maxHeartbeats 4000000 in
set_option maxRecDepth 100000 in
theorem l1AnyDisk_any {lo p c : Nat} {A : Option Addr} {xs : List Int} {W : World} (h : Cur lo p A c xs W) :
   Calls Try.prog 49 #[.pointer (some ⟨p, 0, none⟩)] W fun e W' => ∃ (A2 B2 : Option Addr) (c2 d2 : Nat) (r0 : List Int) (r1 : List S79) (r2 : Int) (r3 : Bool), e = .returned (.agg #[.slice A2 r0.length c2, .slice B2 r1.length d2, .int .i64 r2, .bool r3]) ∧ RD W.heap.size W' (.slice A2 r0.length c2) (.slice B2 r1.length d2) r0 r1 ∧ Cur lo p A c xs W' ∧ Stp lo p W W' := by
 have hb0 : Below W.heap.size W (W.alloc (.cells #[.slice none 0 0, .slice none 0 0, .int .i64 0, .bool false] 25)) := below_alloc (Below.refl _ _) _
 have HC := Aside0.mk (h.below hb0)
 have HS := Aside0.mk (Stp.of_below h hb0)
 have K2 := Aside0.mk (blk_new W (.cells #[.slice none 0 0, .slice none 0 0, .int .i64 0, .bool false] 25))
 have HP := Aside0.mk (And.intro h.lt h.l)
 have HZ := Aside0.mk (show (W.alloc (.cells #[.slice none 0 0, .slice none 0 0, .int .i64 0, .bool false] 25)).heap.size = W.heap.size + 1 by simp)
 have hu25 := Try.underlying25
 clear hb0 h
 go_enter Try.func49, Try.ntmps49
 go_wp2_with fail
 generalize (W.alloc (.cells #[.slice none 0 0, .slice none 0 0, .int .i64 0, .bool false] 25)) = W0 at *
 obtain ⟨n0, hn0⟩ : ∃ n0, n0 = W.heap.size := ⟨_, rfl⟩
 rw [← hn0] at K2 HP HZ ⊢
 have HN := Aside0.mk hn0
 clear hn0
 refine (l1Disk_any HC.out).mono ?_
 rintro e W1 ⟨v0, v1, l0, l1, a2, a3, rfl, hR, hS, hG, hC, hT⟩
 obtain ⟨A', c', ea⟩ := Kd.R_slice hR
 obtain ⟨B', d', eb⟩ := Kd.S_slice hS
 subst ea
 subst eb
 rw [HZ.out] at hR hS
 have hb1 := below_alloc (Below.refl _ W1) (.cells #[.slice A' l0.length c', .slice B' l1.length d', .int .i64 a2, .bool a3] 25)
 have hz1 : n0 + 1 ≤ W1.heap.size := by rw [← HZ.out]; exact hT.b.size
 have HO := Aside0.mk (show OD (n0 + 1) W1.heap.size (W1.alloc (.cells #[.slice A' l0.length c', .slice B' l1.length d', .int .i64 a2, .bool a3] 25)) A' c' B' d' l0 l1 a2 a3 from ⟨blk_new _ _, Kd.R_alloc hR _, Kd.S_alloc hS _, hz1⟩)
 replace K2 := Aside0.mk (blk_below (hT.blk K2.out (by have := HP.out; omega)) hb1)
 replace HS := Aside0.mk ((HS.out.trans hT).trans (Stp.of_below hC hb1))
 replace HC := Aside0.mk (hC.below hb1)
 have HG := Aside0.mk hG
 clear hR hS hG hC hT hb1
 go_wp2_with fail
 generalize (W1.alloc (.cells #[.slice A' l0.length c', .slice B' l1.length d', .int .i64 a2, .bool a3] 25)) = W2 at *
 obtain ⟨g, hg⟩ : ∃ g, g = W1.heap.size := ⟨_, rfl⟩
 rw [← hg] at HO hz1 ⊢
 have HGN := Aside0.mk hz1
 clear hg hz1
 refine (l1Once_any 12 (by decide) HC.out).mono ?_
 rintro e W3 ⟨b, rfl, hC, hS⟩
 replace K2 := Aside0.mk (hS.blk K2.out (by have := HP.out; omega))
 replace HO := Aside0.mk (HO.out.stp (by have := HP.out; omega) hS)
 replace HS := Aside0.mk (HS.out.trans hS)
 replace HC := Aside0.mk hC
 clear hC hS
 obtain ⟨z0, z1, z2, z3, y0, y1, y2, y3⟩ := blk_cells4 HO.out.box
 cases b with
 | true =>
   go_wp2_with fail
   refine (l1Spoil_any HC.out HO.out.r HO.out.s (by have := HP.out; omega) (by have := blk_lt HO.out.box; have := HGN.out; omega) HG.out).mono ?_
   rintro e W4 ⟨A2, B2, c2, d2, r0, r1, r2, r3, rfl, hD, hC, hB⟩
   have hpl := HP.out
   have HD := Aside0.mk hD
   replace K2 := Aside0.mk ((hB.k n0 (Nat.lt_succ_self n0) (by omega)).trans K2.out)
   replace HS := Aside0.mk (HS.out.of_sb hB (by rw [← HN.out]; omega))
   replace HC := Aside0.mk hC
   clear hD hC hB z0 z1 z2 z3 y0 y1 y2 y3
   obtain ⟨x0, x1, x2, x3, u0, u1, u2, u3⟩ := blk_cells4 K2.out
   have ul := blk_lt K2.out
   go_wp2_with fail
   refine bodyPost_ret (results_cell_row rfl _ _ n0 25 _ (0, 0) _ rfl (blk_set4 K2.out) hu25 rfl (by kernel_rfl)) rfl ?_
   rw [← HN.out]
   exact ⟨_, _, _, _, _, _, _, _, rfl, (HD.out.same (fun k hk _ => set4_other _ _ _ _ (by omega))).lower (Nat.le_succ _), HC.out.far4 (by omega) (by omega), HS.out.set4' (by rw [← HN.out]; exact Nat.le_refl _) (by omega) _ _ _ _⟩
 | false =>
   have hpl := HP.out
   have HD := Aside0.mk (HO.out.rd (by have := HP.out; omega : p < n0 + 1) HG.out)
   obtain ⟨x0, x1, x2, x3, u0, u1, u2, u3⟩ := blk_cells4 K2.out
   have ul := blk_lt K2.out
   go_wp2_with fail
   refine bodyPost_ret (results_cell_row rfl _ _ n0 25 _ (0, 0) _ rfl (blk_set4 K2.out) hu25 rfl (by kernel_rfl)) rfl ?_
   rw [← HN.out]
   exact ⟨_, _, _, _, _, _, _, _, rfl, (HD.out.same (fun k hk _ => set4_other _ _ _ _ (by omega))).lower (Nat.le_succ _), HC.out.far4 (by omega) (by omega), HS.out.set4' (by rw [← HN.out]; exact Nat.le_refl _) (by omega) _ _ _ _⟩
-- KEEP
theorem Cur.low {lo p c n0 : Nat} {A : Option Addr} {xs : List Int} {W W1 : World} (h : Cur lo p A c xs W) (hb : Below n0 W W1) (hp : p < n0) : Cur lo p A c xs W1 := by
 obtain ⟨i, h', hx, h0, h1⟩ := h.x
 have hl := h.l
 exact ⟨Kd.V_step h.r (fun k hk _ => hb.block k (by omega)), ⟨i, h', (hb.block p hp).trans hx, h0, h1⟩, h.l, h.s⟩
theorem Stp.low {lo p n0 : Nat} {W0 W W1 : World} (h : Stp lo p W0 W) (hb : Below n0 W W1) (hn : W0.heap.size ≤ n0) (hl : lo ≤ n0) : Stp lo p W0 W1 :=
 ⟨Below.trans_same h.b ⟨hb.os, hb.tape, hb.output, hb.size, fun k hk => hb.block k (by omega)⟩, ⟨Nat.le_trans h.k.1 hb.size, fun i hi hne => (hb.block i (by omega)).trans (h.k.2 i hi hne)⟩⟩
set_option maxHeartbeats 4000000 in
set_option maxRecDepth 100000 in
theorem l1Keep_any {lo p c : Nat} {A : Option Addr} {xs : List Int} {W : World} (n : Int) (hn : 0 ≤ n) (hn1 : n ≤ 2001) (h : Cur lo p A c xs W) :
  Calls Try.prog 50 #[.pointer (some ⟨p, 0, none⟩), .int .i64 n] W fun e W' => ∃ (v : Value) (ks : List Bool), e = .returned v ∧ Kd.R Kd.bool 4 W' W.heap.size (fun _ => True) v ks ∧ ks.length ≤ 2003 ∧ Cur lo p A c xs W' ∧ Stp lo p W W' := by
 have HC := Aside0.mk h
 have HP := Aside0.mk (And.intro h.lt h.l)
 have HNN := Aside0.mk (And.intro hn hn1)
 have HS := Aside0.mk (Stp.refl lo p W)
 obtain ⟨n0, hn0⟩ : ∃ n0, n0 = W.heap.size := ⟨_, rfl⟩
 have HN := Aside0.mk hn0
 rw [← hn0] at HP
 clear h hn0
 go_enter Try.func50, Try.ntmps50
 go_wp2_with fail
 try rw [show wrap64 (n + 2) = n + 2 by unfold wrap64; omega]
 refine (l1Below_any (n + 2) (by omega) HC.out).mono ?_
 rintro e W1 ⟨m, rfl, hx0, hx1, hC, hS⟩
 obtain ⟨m, rfl⟩ := Int.eq_ofNat_of_zero_le hx0
 have HM := Aside0.mk (show m ≤ 2003 by omega)
 replace HC := Aside0.mk hC
 replace HS := Aside0.mk (HS.out.trans hS)
 clear hn hn1 hx0 hx1 hC hS
 have hz1 : n0 ≤ W1.heap.size := by rw [HN.out]; exact HS.out.b.size
 have HZ := Aside0.mk hz1
 clear hz1
 go_wp2_with (first | ((with_reducible refine gate_dst (N := 12) rfl ?_); refine Kd.R_lit Kd.bool _ 4 ?hg (N := 12) ?hd (xs := ([] : List Bool)) (inner := []) (ok := fun _ => True) (okp := fun _ => True) ?hr ?hp (fun _ hk => hk) trivial (Below.refl _ _) (Nat.le_refl _) (by simp) ?_; (case hd => rfl); (case hg => rfl); (case hr => first | (go_simp; done) | (go_simp; rfl)); (case hp => exact (Reps.none _ _)); intro v12 w2 ho3 hb hg_ hnew_; clear hg_ hnew_; have HO := Aside0.mk (Kd.R_lower ho3 HZ.out); replace HS := Aside0.mk (HS.out.trans (Stp.of_below HC.out hb)); replace HZ := Aside0.mk (Nat.le_trans HZ.out hb.size); replace HC := Aside0.mk (HC.out.below hb); clear hb ho3))
 go_loopg [6, 7] m (fun kq v6 v7 w' => ∃ (i : Nat) (ks : List Bool), v7 = .int .i64 i ∧ Aside0 (i ≤ m ∧ m ≤ kq + i ∧ ks.length = i) ∧ Aside0 (Kd.R Kd.bool 4 w' n0 (fun _ => True) v6 ks) ∧ Aside0 (Cur lo p A c xs w') ∧ Aside0 (Stp lo p W w') ∧ Aside0 (n0 ≤ w'.heap.size))
 case atStart => exact ⟨0, [], rfl, ⟨by omega, by omega, rfl⟩, HO, HC, HS, HZ⟩
 case round =>
  clear HO HC HS HZ
  obtain ⟨i, ks, rfl, HI, HO, HC, HS, HZ⟩ := hrel
  by_cases ci : i < m
  ·have cib : decide (i < m) = true := decide_eq_true ci
   have HIN := Aside0.mk ci
   clear ci
   cases gk with
   | zero => exact absurd HI.out (by have := HIN.out; omega)
   | succ mm =>
     have HW1 := Aside0.mk (show wrap64 ((i : Int) + 1) = ((i + 1 : Nat) : Int) by have := HIN.out; have := HM.out; unfold wrap64; omega)
     go_wp2_with fail
     refine (l1Once_any 2 (by decide) HC.out).mono ?_
     rintro e W4 ⟨b, rfl, hC, hS⟩
     replace HO := Aside0.mk (Kd.R_mono (Kd.R_kept (Kd.R_bound HO.out) hS.k (fun k hk => by have := hk.2.1; have := HP.out; omega)) (fun _ _ => trivial))
     replace HC := Aside0.mk hC
     replace HZ := Aside0.mk (Nat.le_trans HZ.out hS.b.size)
     replace HS := Aside0.mk (HS.out.trans hS)
     clear hC hS
     go_wp2_with (first | ((with_reducible refine gate_builtin (b := .append) (xs := #[.tmp 18, .tmp 21]) rfl ?_); at_builtin; refine Kd.R_append Kd.bool (w0 := W4) n0 rfl (.tmp 18) (.tmp 21) 26 4 (.bool false) 1 rfl Try.underlying26 (by kernel_rfl) rfl (by decide) (by omega) u6 ks b [.bool b] (fun _ => True) (fun _ => False) rfl rfl ?aP (fun _ hk => hk.elim) ?aF ?aO ?aB ?aS ?aL ?_; (case aP => exact rfl); (case aB => exact ⟨rfl, rfl, rfl, Nat.le_refl _, fun _ _ => rfl⟩); (case aF => exact (fun _ _ => trivial)); (case aO => exact HO.out); (case aS => exact HZ.out); (case aL => have := HI.out; have := HIN.out; have := HM.out; omega); intro v14 w6 ho hb hg hat; have HO5 := Aside0.mk ho; have HC5 := Aside0.mk (HC.out.low hb (by have := HP.out; omega)); have HS5 := Aside0.mk (HS.out.low hb (by rw [← HN.out]; exact Nat.le_refl _) (by have := HP.out; omega)); have HZ5 := Aside0.mk (Nat.le_trans HZ.out hb.size); clear ho hb hg hat HO HC HS HZ))
     go_roundg mm
     case measure => omega
     case rel => exact ⟨i + 1, ks ++ [b], by rw [HW1.out], ⟨by have := HI.out; have := HIN.out; rw [List.length_append]; simp; omega⟩, HO5, HC5, HS5, HZ5⟩
  ·have cib : decide (i < m) = false := decide_eq_false ci
   go_wp2_with fail
   go_ret
   rw [← HN.out]
   exact ⟨_, ks, rfl, HO.out, by have := HI.out; have := HM.out; omega, HC.out, HS.out⟩
end Go.Proofs.Yteddpdonmhiplaa.PR
