-- Made by this session's programs out of the translation and of its own texts.
import Derived.Test.YtbimdcekcemcoaaMFnExactDiskNewa
namespace Go.Proofs.Ytbimdcekcemcoaa.PD
open Go.RowKit Go.Proofs.YtbimdcekcemcoaaW.PrintWords Go.Proofs.YtbimdcekcemcoaaW.PrintLast Go.Proofs.YtbimdcekcemcoaaW.PrintMore
attribute [local go_sem] max2_int min2_int max_two min_two max_three min_three max_four min_four   -- for this text's walks alone
set_option linter.unusedVariables false
set_option linter.unusedSimpArgs false

/-! ### laws_szDisk: function 15 -/
def laws_szDisk.f (k : Nat) (l0_0 : List Int) (l0_1 : List (S78)) (a0_2 : Int) (a0_3 : Bool) (a1 : Int) : Option (Int) := (laws_szByteS.f l0_0 a1).bind fun t162 => (if t162 < 0 then (some (-1)) else ((laws_szPendS.f k l0_1 t162).bind fun t163 => (if t163 < 0 then (some (-1)) else (some t163))))
theorem laws_szDisk.mono : ∀ a0 a1 a2 a3 a4 k, LeO (laws_szDisk.f k a0 a1 a2 a3 a4) (laws_szDisk.f (k + 1) a0 a1 a2 a3 a4) := by
  intro a0 a1 a2 a3 a4 k
  unfold laws_szDisk.f
  repeat' first
      | (with_reducible exact laws_szPendS.mono _ _ _)
      | (with_reducible exact LeO.refl _)
      | (with_reducible exact LeO.none _)
      | (with_reducible refine LeO.ite ?_ ?_)
      | (with_reducible refine LeO.bind ?_ (fun _ => ?_))
      | exact laws_szPendS.mono _ _ _
      | exact LeO.none _
      | refine LeO.ite ?_ ?_
      | refine LeO.bind ?_ (fun _ => ?_)
set_option maxHeartbeats 8000000 in
set_option maxRecDepth 100000 in
theorem laws_szDisk.calls (k : Nat) (A0_0 : Option Addr) (c0_0 : Nat) (l0_0 : List Int) (A0_1 : Option Addr) (c0_1 : Nat) (l0_1 : List (S78)) (a0_2 : Int) (a0_3 : Bool) (a1 : Int) (r : Int) (w : World) (hr0_0 : Kd.C (Kd.int .u8) w A0_0 l0_0.length l0_0) (hc0_0 : l0_0.length ≤ c0_0) (hr0_1 : Kd.C k78 w A0_1 l0_1.length l0_1) (hc0_1 : l0_1.length ≤ c0_1) (h : laws_szDisk.f k l0_0 l0_1 a0_2 a0_3 a1 = some r) :
    Calls Try.prog 15 #[.agg #[.slice A0_0 l0_0.length c0_0, .slice A0_1 l0_1.length c0_1, .int .i64 a0_2, .bool a0_3], .int .i64 a1] w fun e w' => e = .returned (.int .i64 r) ∧ Below w.heap.size w w' := by
  have hu32 := Try.underlying32
  have HR0_0 := Aside0.mk hr0_0
  have HC0_0 := Aside0.mk hc0_0
  clear hr0_0 hc0_0
  have HR0_1 := Aside0.mk hr0_1
  have HC0_1 := Aside0.mk hc0_1
  clear hr0_1 hc0_1
  have HB := Aside0.mk (Below.refl w.heap.size w)
  have H : ((laws_szByteS.f l0_0 a1).bind fun t162 => (if t162 < 0 then (some (-1)) else ((laws_szPendS.f k l0_1 t162).bind fun t163 => (if t163 < 0 then (some (-1)) else (some t163))))) = some r := h
  clear h
  replace H := Option.bind_eq_some_iff.mp H
  obtain ⟨t162, A30, H⟩ := H
  replace H : (if t162 < 0 then (some (-1)) else ((laws_szPendS.f k l0_1 t162).bind fun t163 => (if t163 < 0 then (some (-1)) else (some t163)))) = some r := H
  have A3 := Aside0.mk A30
  clear A30
  by_cases c4 : t162 < 0
  · rw [if_pos c4] at H
    have c4b0 : decide (t162 < 0) = true := decide_eq_true c4
    clear c4
    obtain rfl := Option.some.inj H
    go_enter Try.func15, Try.ntmps15
    go_wp2_with (first | ((with_reducible refine gate_dst (N := 2) rfl ?_); refine box_event ?hg (N := 2) ?hd (cs := #[.slice A0_0 l0_0.length c0_0, .slice A0_1 l0_1.length c0_1, .int .i64 a0_2, .bool a0_3]) (t := 32) ?hr ?_; (case hd => rfl); (case hg => rfl); (case hr => first | (go_simp; done) | (go_simp; rfl)); intro gb161 hg w5 hbox hb; have n0_ := Aside0.mk (below_step (by repeat (first | (with_reducible first | exact HB.out | apply below_alloc | apply pw_below_drewN | apply below_drew1) | exact HB.out)) hb); have n1_ := Aside0.mk (hbox); have n2_ := Aside0.mk ((by rw [hg]; exact (below_size (by repeat (first | (with_reducible first | exact HB.out | apply below_alloc | apply pw_below_drewN | apply below_drew1) | exact HB.out))) : w.heap.size ≤ gb161)); have n3_ := Aside0.mk ((by rw [hg]; exact (below_size (by repeat (first | (with_reducible first | exact HB.out | apply below_alloc | apply pw_below_drewN | apply below_drew1) | exact HB.out))) : w.heap.size ≤ gb161)); clear HB; have HB := n0_; have BK161 := n1_; have GW161 := n2_; have GE161 := n3_; clear n0_ n1_ n2_ n3_; clear hb hbox hg; have hcz6_0 : w5.cell? ⟨gb161, 0, none⟩ = some (.slice A0_0 l0_0.length c0_0) := (blk_cell BK161.out 0).trans rfl; have hcz6_1 : w5.cell? ⟨gb161, 1, none⟩ = some (.slice A0_1 l0_1.length c0_1) := (blk_cell BK161.out 1).trans rfl; have hcz6_2 : w5.cell? ⟨gb161, 2, none⟩ = some (.int .i64 a0_2) := (blk_cell BK161.out 2).trans rfl; have hcz6_3 : w5.cell? ⟨gb161, 3, none⟩ = some (.bool a0_3) := (blk_cell BK161.out 3).trans rfl; have hfz6_0 := blk_frozen BK161.out 0; have hfz6_1 := blk_frozen BK161.out 1; have hfz6_2 := blk_frozen BK161.out 2; have hfz6_3 := blk_frozen BK161.out 3) | ((with_reducible refine gate_callee (f := 40) rfl ?_); refine goesL_ (some 8) rfl rfl Try.func40 (by kernel_rfl) rfl #[.slice A0_0 l0_0.length c0_0, .int .i64 a1] rfl (by (try simp only [List.map_toArray, List.map_cons, List.map_nil]); first | done | rfl | (simp only [List.length_drop, List.length_take]; rfl)) ?_; (with_reducible refine (laws_szByteS.calls _ _ l0_0 a1 t162 _ ?side1 ?side2 A3.out).mono ?_); (case side1 => repeat (first | exact (Kd.C_below HR0_0.out HB.out) | (with_reducible refine Kd.C_alloc ?_ _) | (with_reducible refine Kd.C_drewN ?_ _) | (with_reducible refine Kd.C_drew ?_))); (case side2 => exact HC0_0.out); rintro e w' ⟨rfl, ⟨nd, rfl⟩⟩; refine ⟨_, rfl, ?_⟩))
    go_ret
    exact ⟨by first | rfl | (simp [errW_none, errW_some] <;> rfl) | (simp [*, errW_none, errW_some] <;> rfl), by repeat (first | (with_reducible first | exact HB.out | apply below_alloc | apply pw_below_drewN | apply below_drew1 | refine below_set ?_ GE161.out) | exact HB.out)⟩
  · rw [if_neg c4] at H
    have c4b0 : decide (t162 < 0) = false := decide_eq_false c4
    clear c4
    replace H := Option.bind_eq_some_iff.mp H
    obtain ⟨t163, A70, H⟩ := H
    replace H : (if t163 < 0 then (some (-1)) else (some t163)) = some r := H
    have A7 := Aside0.mk A70
    clear A70
    by_cases c8 : t163 < 0
    · rw [if_pos c8] at H
      have c8b0 : decide (t163 < 0) = true := decide_eq_true c8
      clear c8
      obtain rfl := Option.some.inj H
      go_enter Try.func15, Try.ntmps15
      go_wp2_with (first | ((with_reducible refine gate_dst (N := 2) rfl ?_); refine box_event ?hg (N := 2) ?hd (cs := #[.slice A0_0 l0_0.length c0_0, .slice A0_1 l0_1.length c0_1, .int .i64 a0_2, .bool a0_3]) (t := 32) ?hr ?_; (case hd => rfl); (case hg => rfl); (case hr => first | (go_simp; done) | (go_simp; rfl)); intro gb161 hg w9 hbox hb; have n0_ := Aside0.mk (below_step (by repeat (first | (with_reducible first | exact HB.out | apply below_alloc | apply pw_below_drewN | apply below_drew1) | exact HB.out)) hb); have n1_ := Aside0.mk (hbox); have n2_ := Aside0.mk ((by rw [hg]; exact (below_size (by repeat (first | (with_reducible first | exact HB.out | apply below_alloc | apply pw_below_drewN | apply below_drew1) | exact HB.out))) : w.heap.size ≤ gb161)); have n3_ := Aside0.mk ((by rw [hg]; exact (below_size (by repeat (first | (with_reducible first | exact HB.out | apply below_alloc | apply pw_below_drewN | apply below_drew1) | exact HB.out))) : w.heap.size ≤ gb161)); clear HB; have HB := n0_; have BK161 := n1_; have GW161 := n2_; have GE161 := n3_; clear n0_ n1_ n2_ n3_; clear hb hbox hg; have hcz10_0 : w9.cell? ⟨gb161, 0, none⟩ = some (.slice A0_0 l0_0.length c0_0) := (blk_cell BK161.out 0).trans rfl; have hcz10_1 : w9.cell? ⟨gb161, 1, none⟩ = some (.slice A0_1 l0_1.length c0_1) := (blk_cell BK161.out 1).trans rfl; have hcz10_2 : w9.cell? ⟨gb161, 2, none⟩ = some (.int .i64 a0_2) := (blk_cell BK161.out 2).trans rfl; have hcz10_3 : w9.cell? ⟨gb161, 3, none⟩ = some (.bool a0_3) := (blk_cell BK161.out 3).trans rfl; have hfz10_0 := blk_frozen BK161.out 0; have hfz10_1 := blk_frozen BK161.out 1; have hfz10_2 := blk_frozen BK161.out 2; have hfz10_3 := blk_frozen BK161.out 3) | ((with_reducible refine gate_callee (f := 40) rfl ?_); refine goesL_ (some 8) rfl rfl Try.func40 (by kernel_rfl) rfl #[.slice A0_0 l0_0.length c0_0, .int .i64 a1] rfl (by (try simp only [List.map_toArray, List.map_cons, List.map_nil]); first | done | rfl | (simp only [List.length_drop, List.length_take]; rfl)) ?_; (with_reducible refine (laws_szByteS.calls _ _ l0_0 a1 t162 _ ?side1 ?side2 A3.out).mono ?_); (case side1 => repeat (first | exact (Kd.C_below HR0_0.out HB.out) | (with_reducible refine Kd.C_alloc ?_ _) | (with_reducible refine Kd.C_drewN ?_ _) | (with_reducible refine Kd.C_drew ?_))); (case side2 => exact HC0_0.out); rintro e w' ⟨rfl, ⟨nd, rfl⟩⟩; refine ⟨_, rfl, ?_⟩) | ((with_reducible refine gate_callee (f := 41) rfl ?_); refine goesL_ (some 14) rfl rfl Try.func41 (by kernel_rfl) rfl #[.slice A0_1 l0_1.length c0_1, .int .i64 t162] rfl (by (try simp only [List.map_toArray, List.map_cons, List.map_nil]); first | done | rfl | (simp only [List.length_drop, List.length_take]; rfl)) ?_; (with_reducible refine (laws_szPendS.calls k _ _ l0_1 t162 t163 _ ?side1 ?side2 A7.out).mono ?_); (case side1 => repeat (first | exact (Kd.C_below HR0_1.out (by repeat (first | (with_reducible first | exact HB.out | apply below_alloc | apply pw_below_drewN | apply below_drew1 | refine below_set ?_ GE161.out) | exact HB.out))) | (with_reducible refine Kd.C_alloc ?_ _) | (with_reducible refine Kd.C_drewN ?_ _) | (with_reducible refine Kd.C_drew ?_))); (case side2 => exact HC0_1.out); rintro e w11 ⟨rfl, hb⟩; refine ⟨_, rfl, ?_⟩; have n0_ := Aside0.mk (blk_below (g := gb161) (o := .cells #[.slice A0_0 l0_0.length c0_0, .slice A0_1 l0_1.length c0_1, .int .i64 a0_2, .bool a0_3] 32 (0, 0)) (by (with_reducible repeat (first | refine blk_drewN ?_ _ | refine blk_drew ?_ | refine blk_alloc ?_ _)); exact BK161.out) hb); have n1_ := Aside0.mk (below_step (by repeat (first | (with_reducible first | exact HB.out | apply below_alloc | apply pw_below_drewN | apply below_drew1 | refine below_set ?_ GE161.out) | exact HB.out)) hb); clear BK161; clear HB; have BK161 := n0_; have HB := n1_; clear n0_ n1_; (try clear hb); (try clear hb2); (try clear hk); (try clear hi)))
      go_ret
      exact ⟨by first | rfl | (simp [errW_none, errW_some] <;> rfl) | (simp [*, errW_none, errW_some] <;> rfl), by repeat (first | (with_reducible first | exact HB.out | apply below_alloc | apply pw_below_drewN | apply below_drew1 | refine below_set ?_ GE161.out) | exact HB.out)⟩
    · rw [if_neg c8] at H
      have c8b0 : decide (t163 < 0) = false := decide_eq_false c8
      clear c8
      obtain rfl := Option.some.inj H
      go_enter Try.func15, Try.ntmps15
      go_wp2_with (first | ((with_reducible refine gate_dst (N := 2) rfl ?_); refine box_event ?hg (N := 2) ?hd (cs := #[.slice A0_0 l0_0.length c0_0, .slice A0_1 l0_1.length c0_1, .int .i64 a0_2, .bool a0_3]) (t := 32) ?hr ?_; (case hd => rfl); (case hg => rfl); (case hr => first | (go_simp; done) | (go_simp; rfl)); intro gb161 hg w12 hbox hb; have n0_ := Aside0.mk (below_step (by repeat (first | (with_reducible first | exact HB.out | apply below_alloc | apply pw_below_drewN | apply below_drew1) | exact HB.out)) hb); have n1_ := Aside0.mk (hbox); have n2_ := Aside0.mk ((by rw [hg]; exact (below_size (by repeat (first | (with_reducible first | exact HB.out | apply below_alloc | apply pw_below_drewN | apply below_drew1) | exact HB.out))) : w.heap.size ≤ gb161)); have n3_ := Aside0.mk ((by rw [hg]; exact (below_size (by repeat (first | (with_reducible first | exact HB.out | apply below_alloc | apply pw_below_drewN | apply below_drew1) | exact HB.out))) : w.heap.size ≤ gb161)); clear HB; have HB := n0_; have BK161 := n1_; have GW161 := n2_; have GE161 := n3_; clear n0_ n1_ n2_ n3_; clear hb hbox hg; have hcz13_0 : w12.cell? ⟨gb161, 0, none⟩ = some (.slice A0_0 l0_0.length c0_0) := (blk_cell BK161.out 0).trans rfl; have hcz13_1 : w12.cell? ⟨gb161, 1, none⟩ = some (.slice A0_1 l0_1.length c0_1) := (blk_cell BK161.out 1).trans rfl; have hcz13_2 : w12.cell? ⟨gb161, 2, none⟩ = some (.int .i64 a0_2) := (blk_cell BK161.out 2).trans rfl; have hcz13_3 : w12.cell? ⟨gb161, 3, none⟩ = some (.bool a0_3) := (blk_cell BK161.out 3).trans rfl; have hfz13_0 := blk_frozen BK161.out 0; have hfz13_1 := blk_frozen BK161.out 1; have hfz13_2 := blk_frozen BK161.out 2; have hfz13_3 := blk_frozen BK161.out 3) | ((with_reducible refine gate_callee (f := 40) rfl ?_); refine goesL_ (some 8) rfl rfl Try.func40 (by kernel_rfl) rfl #[.slice A0_0 l0_0.length c0_0, .int .i64 a1] rfl (by (try simp only [List.map_toArray, List.map_cons, List.map_nil]); first | done | rfl | (simp only [List.length_drop, List.length_take]; rfl)) ?_; (with_reducible refine (laws_szByteS.calls _ _ l0_0 a1 t162 _ ?side1 ?side2 A3.out).mono ?_); (case side1 => repeat (first | exact (Kd.C_below HR0_0.out HB.out) | (with_reducible refine Kd.C_alloc ?_ _) | (with_reducible refine Kd.C_drewN ?_ _) | (with_reducible refine Kd.C_drew ?_))); (case side2 => exact HC0_0.out); rintro e w' ⟨rfl, ⟨nd, rfl⟩⟩; refine ⟨_, rfl, ?_⟩) | ((with_reducible refine gate_callee (f := 41) rfl ?_); refine goesL_ (some 14) rfl rfl Try.func41 (by kernel_rfl) rfl #[.slice A0_1 l0_1.length c0_1, .int .i64 t162] rfl (by (try simp only [List.map_toArray, List.map_cons, List.map_nil]); first | done | rfl | (simp only [List.length_drop, List.length_take]; rfl)) ?_; (with_reducible refine (laws_szPendS.calls k _ _ l0_1 t162 t163 _ ?side1 ?side2 A7.out).mono ?_); (case side1 => repeat (first | exact (Kd.C_below HR0_1.out (by repeat (first | (with_reducible first | exact HB.out | apply below_alloc | apply pw_below_drewN | apply below_drew1 | refine below_set ?_ GE161.out) | exact HB.out))) | (with_reducible refine Kd.C_alloc ?_ _) | (with_reducible refine Kd.C_drewN ?_ _) | (with_reducible refine Kd.C_drew ?_))); (case side2 => exact HC0_1.out); rintro e w14 ⟨rfl, hb⟩; refine ⟨_, rfl, ?_⟩; have n0_ := Aside0.mk (blk_below (g := gb161) (o := .cells #[.slice A0_0 l0_0.length c0_0, .slice A0_1 l0_1.length c0_1, .int .i64 a0_2, .bool a0_3] 32 (0, 0)) (by (with_reducible repeat (first | refine blk_drewN ?_ _ | refine blk_drew ?_ | refine blk_alloc ?_ _)); exact BK161.out) hb); have n1_ := Aside0.mk (below_step (by repeat (first | (with_reducible first | exact HB.out | apply below_alloc | apply pw_below_drewN | apply below_drew1 | refine below_set ?_ GE161.out) | exact HB.out)) hb); clear BK161; clear HB; have BK161 := n0_; have HB := n1_; clear n0_ n1_; (try clear hb); (try clear hb2); (try clear hk); (try clear hi)))
      go_ret
      exact ⟨by first | rfl | (simp [errW_none, errW_some] <;> rfl) | (simp [*, errW_none, errW_some] <;> rfl), by repeat (first | (with_reducible first | exact HB.out | apply below_alloc | apply pw_below_drewN | apply below_drew1 | refine below_set ?_ GE161.out) | exact HB.out)⟩

/-! ### laws_toByteS: function 25 -/
def laws_toByteS.l0 : Nat → List Int → List Int → Int → Option (List Int)
  | 0, _, _, _ => none
  | k + 1, x0, x3, x4 => if x4 < (x0.length : Int) then (if 0 ≤ x4 then (if x4 < (x3.length : Int) then (laws_toByteS.l0 k x0 (x3.set (x4 : Int).toNat (rd x0 x4)) (wrap64 (x4 + 1))) else (none)) else (none)) else (some x3)
def laws_toByteS.f (k : Nat) (l0 : List Int) : Option (List Int) := if 0 ≤ (l0.length : Int) then (if ((l0.length : Int) : Int).toNat ≤ 281474976710656 then (laws_toByteS.l0 k l0 (List.replicate ((l0.length : Int) : Int).toNat 0) 0) else (none)) else (none)
theorem laws_toByteS.mono_l : ∀ k, (∀ y0 y1 y2, LeO (laws_toByteS.l0 k y0 y1 y2) (laws_toByteS.l0 (k + 1) y0 y1 y2))
  | 0 => fun _ _ _ r h => by simp [laws_toByteS.l0] at h
  | k + 1 => by
    have ih0 := laws_toByteS.mono_l k
    · intro y0 y1 y2
      unfold laws_toByteS.l0
      repeat' first
      | (with_reducible exact ih0 _ _ _)
      | (with_reducible exact LeO.refl _)
      | (with_reducible exact LeO.none _)
      | (with_reducible refine LeO.ite ?_ ?_)
      | (with_reducible refine LeO.bind ?_ (fun _ => ?_))
      | exact ih0 _ _ _
      | exact LeO.none _
      | refine LeO.ite ?_ ?_
      | refine LeO.bind ?_ (fun _ => ?_)
theorem laws_toByteS.mono : ∀ a0 k, LeO (laws_toByteS.f k a0) (laws_toByteS.f (k + 1) a0) := by
  intro a0 k
  have ih0 := laws_toByteS.mono_l k
  unfold laws_toByteS.f
  repeat' first
      | (with_reducible exact ih0 _ _ _)
      | (with_reducible exact LeO.refl _)
      | (with_reducible exact LeO.none _)
      | (with_reducible refine LeO.ite ?_ ?_)
      | (with_reducible refine LeO.bind ?_ (fun _ => ?_))
      | exact ih0 _ _ _
      | exact LeO.none _
      | refine LeO.ite ?_ ?_
      | refine LeO.bind ?_ (fun _ => ?_)
set_option maxHeartbeats 8000000 in
set_option maxRecDepth 100000 in
theorem laws_toByteS.calls (k : Nat) (A0 : Option Addr) (c0 : Nat) (l0 : List Int) (r : List Int) (w : World) (hr0 : Kd.C (Kd.int .u8) w A0 l0.length l0) (hc0 : l0.length ≤ c0) (h : laws_toByteS.f k l0 = some r) :
    Calls Try.prog 25 #[.slice A0 l0.length c0] w fun e w' => ∃ v0_ : Value, e = .returned (v0_) ∧ Kd.R (Kd.int .u8) 5 w' w.heap.size (fun _ => True) v0_ r ∧ Below w.heap.size w w' := by
  have HR0 := Aside0.mk hr0
  have HC0 := Aside0.mk hc0
  clear hr0 hc0
  have HB := Aside0.mk (Below.refl w.heap.size w)
  have H : (if 0 ≤ (l0.length : Int) then (if ((l0.length : Int) : Int).toNat ≤ 281474976710656 then (laws_toByteS.l0 k l0 (List.replicate ((l0.length : Int) : Int).toNat 0) 0) else (none)) else (none)) = some r := h
  clear h
  by_cases c2 : 0 ≤ (l0.length : Int)
  · rw [if_pos c2] at H
    have c2b0 := eq_true c2
    have c2b1 : decide (0 ≤ (l0.length : Int)) = true := decide_eq_true c2
    clear c2
    by_cases c3 : ((l0.length : Int) : Int).toNat ≤ 281474976710656
    · rw [if_pos c3] at H
      have c3b0 := eq_true c3
      have c3b1 : decide (((l0.length : Int) : Int).toNat ≤ 281474976710656) = true := decide_eq_true c3
      clear c3
      obtain ⟨y170, hy170⟩ : ∃ y_ : List Int, y_ = (List.replicate ((l0.length : Int) : Int).toNat 0) := ⟨_, rfl⟩
      replace H : (laws_toByteS.l0 k l0 y170 0) = some r := by first | (rw [hy170]; with_reducible exact H) | (have H2_ := (Option.bind_some _ _).symm.trans H; rw [hy170]; with_reducible exact H2_) | (have H2_ := (Option.bind_some _ _).symm.trans H; with_reducible exact H2_) | with_reducible exact H | (rw [hy170]; exact H) | exact H
      have Ny170 := Aside0.mk hy170
      clear hy170
      have H' := Aside0.mk H
      clear H
      go_enter Try.func25, Try.ntmps25
      go_wp2_with (first | ((with_reducible refine gate_dst (N := 7) rfl ?_); refine Kd.R_make (Kd.int .u8) _ 5 rfl (N := 7) rfl 22 _ _ rfl (l0.length : Int) rfl rfl Try.underlying22 (.int .u8 0) 1 info5 rfl (by decide) (by omega) 0 (ok := fun _ => True) (okp := fun _ => True) rfl (fun _ hk => hk) trivial (of_decide_eq_true (by first | (with_reducible assumption) | assumption)) (Nat.le_trans (Nat.mul_le_mul_right _ (of_decide_eq_true (by first | (with_reducible assumption) | assumption) : (l0.length : Int).toNat ≤ 281474976710656)) (by omega)) (Below.refl _ _) (Nat.le_refl _) ?_; intro v171 w4 ho5 hb hg_ hnew_; clear hg_ hnew_; (first | rw [← Ny170.out] at ho5 | (simp only [Int.reduceToNat] at ho5; rw [← Ny170.out] at ho5)); have n0_ := Aside0.mk (Kd.R_lower ho5 (below_size (by repeat (first | (with_reducible first | exact HB.out | apply below_alloc | apply pw_below_drewN | apply below_drew1) | exact HB.out)))); have n1_ := Aside0.mk (below_step (by repeat (first | (with_reducible first | exact HB.out | apply below_alloc | apply pw_below_drewN | apply below_drew1) | exact HB.out)) hb); clear HB; have HO172 := n0_; have HB := n1_; clear n0_ n1_; clear hb ho5))
      go_loopg [4] k (fun kq v4 w' => ∃ (x3_1 : List Int) (x4_1 : Int), v4 = .int .i64 x4_1 ∧ Aside0 (laws_toByteS.l0 kq l0 x3_1 x4_1 = some r) ∧ Aside0 (kq ≤ k) ∧ Aside0 (Kd.R (Kd.int .u8) 5 w' w.heap.size (fun _ => True) v171 x3_1) ∧ Aside0 (Below w.heap.size w w'))
      case atStart => exact ⟨(y170), (0), (by first | rfl | (simp; done) | (simp [*]; done)), H', ⟨Nat.le_refl _⟩, ⟨by (with_reducible repeat (first | apply Kd.R_alloc | apply Kd.R_drewN | apply Kd.R_drew)); exact HO172.out⟩, ⟨by repeat (first | (with_reducible first | exact HB.out | apply below_alloc | apply pw_below_drewN | apply below_drew1) | exact HB.out)⟩⟩
      case round =>
        clear H'
        try clear c2
        try clear c2b0
        try clear c2b1
        try clear p2
        try clear c3
        try clear c3b0
        try clear c3b1
        obtain ⟨x3_1, x4_1, rfl, HA, HK1, HO_3, HB⟩ := hrel
        cases gk with
        | zero => exact absurd HA.out (by simp [laws_toByteS.l0])
        | succ k1 =>
          have H := HA.out
          clear HA
          simp only [laws_toByteS.l0] at H
          by_cases c6 : x4_1 < (l0.length : Int)
          · rw [if_pos c6] at H
            have c6b0 : decide (x4_1 < (l0.length : Int)) = true := decide_eq_true c6
            clear c6
            by_cases c7 : 0 ≤ x4_1
            · rw [if_pos c7] at H
              have c7b0 : decide (0 ≤ x4_1) = true := decide_eq_true c7
              clear c7
              by_cases c8 : x4_1 < (x3_1.length : Int)
              · rw [if_pos c8] at H
                have c8b0 : decide (x4_1 < (x3_1.length : Int)) = true := decide_eq_true c8
                clear c8
                obtain ⟨y174, hy174⟩ : ∃ y_ : List Int, y_ = (x3_1.set (x4_1 : Int).toNat (rd l0 x4_1)) := ⟨_, rfl⟩
                replace H : (laws_toByteS.l0 k1 l0 y174 (wrap64 (x4_1 + 1))) = some r := by first | (rw [hy174]; with_reducible exact H) | (have H2_ := (Option.bind_some _ _).symm.trans H; rw [hy174]; with_reducible exact H2_) | (have H2_ := (Option.bind_some _ _).symm.trans H; with_reducible exact H2_) | with_reducible exact H | (rw [hy174]; exact H) | exact H
                have Ny174 := Aside0.mk hy174
                clear hy174
                have H' := Aside0.mk H
                clear H
                have p173 : 0 ≤ (x4_1 : Int) := of_decide_eq_true (by first | (with_reducible assumption) | assumption)
                have q173 : x4_1 < (l0.length : Int) := of_decide_eq_true (by first | (with_reducible assumption) | assumption)
                obtain ⟨ad173, e173, hx173_0⟩ := Kd.at_int HR0.out x4_1 p173 q173
                cases e173
                replace hx173_0 := (HB.out.cell (World.block_lt_of_cell? w _ hx173_0)).trans hx173_0
                replace p173 := eq_true p173
                replace q173 := eq_true q173
                have p9 : 0 ≤ (x4_1 : Int) := of_decide_eq_true (by first | (with_reducible assumption) | assumption)
                have q9 : (x4_1 : Int) < ((x3_1.length : Int) : Int) := of_decide_eq_true (by first | (with_reducible assumption) | assumption)
                obtain ⟨go9, co9, eo9, gb9, gl9, cl9, HG9⟩ := Kd.R_form HO_3.out (by omega)
                (first | cases eo9 | (injection eo9 with ea_ en_ ec_; (first | subst ea_ | (injection ea_ with ea_; subst ea_)); subst ec_; clear en_))
                have GB9 := Aside0.mk gb9
                have GG9 := Aside0.mk HG9
                clear gb9 gl9 HG9
                obtain ⟨hx9_0, hf9_0⟩ := Kd.R_celln 0 HO_3.out (x4_1 : Int) p9 q9
                replace p9 := eq_true p9
                replace q9 := eq_true q9
                have HP10 := Kd.R_putg HO_3.out (x4_1 : Int) (rd l0 x4_1)
                go_wp2_with (first | ((with_reducible refine gate_store (t := 5) (p := 20) rfl ?_); refine store_event (t := 5) (p := 20) (v := ?vo_w11) (w1 := (wr.setCell ⟨go9, (x4_1 : Int).toNat, none⟩ (.int .u8 (rd l0 x4_1)))) ?hg ?ho ?hn ?hr ?_; (case ho => rfl); (case hg => rfl); (case hn => rfl); (case hr => first | (go_simp; done) | (go_simp; rfl)); intro w11 hw; have hg : wr.grownBy w11 (some go9) := (by rw [hw]; exact HP10.2); have hp_ : Kd.R (Kd.int .u8) 5 w11 w.heap.size (fun _ => True) (.slice (some ⟨go9, 0, none⟩) x3_1.length co9) y174 := (by rw [hw, Ny174.out]; exact HP10.1); clear HP10; have n0_ := Aside0.mk (hp_); have n1_ := Aside0.mk ((by rw [hw]; exact below_set (HB.out) GB9.out : Below w.heap.size w w11)); clear HO_3; clear HB; have HO_3 := n0_; have HB := n1_; clear n0_ n1_; clear hg hw hp_))
                go_roundg k1
                case measure => have := HK1.out; omega
                case rel => exact ⟨(y174), (wrap64 (x4_1 + 1)), (by first | rfl | (simp; done) | (simp [*]; done)), H', ⟨by have := HK1.out; omega⟩, ⟨by (with_reducible repeat (first | apply Kd.R_alloc | apply Kd.R_drewN | apply Kd.R_drew)); exact HO_3.out⟩, ⟨by repeat (first | (with_reducible first | exact HB.out | apply below_alloc | apply pw_below_drewN | apply below_drew1) | exact HB.out)⟩⟩
              · rw [if_neg c8] at H
                exact absurd H (by simp)
            · rw [if_neg c7] at H
              exact absurd H (by simp)
          · rw [if_neg c6] at H
            have c6b0 : decide (x4_1 < (l0.length : Int)) = false := decide_eq_false c6
            clear c6
            obtain rfl := Option.some.inj H
            go_wp2
            go_ret
            exact ⟨_, by first | rfl | (simp [errW_none, errW_some] <;> rfl) | (simp [*, errW_none, errW_some] <;> rfl), by (with_reducible repeat (first | apply Kd.R_alloc | apply Kd.R_drewN | apply Kd.R_drew)); exact HO_3.out, by repeat (first | (with_reducible first | exact HB.out | apply below_alloc | apply pw_below_drewN | apply below_drew1) | exact HB.out)⟩
    · rw [if_neg c3] at H
      exact absurd H (by simp)
  · rw [if_neg c2] at H
    exact absurd H (by simp)

/-! ### laws_toPend: function 60 -/
def laws_toPend.f (k : Nat) (a0_0 : Int) (l0_1 : List Int) : Option (Int × List Int) := (laws_toByteS.f k l0_1).bind fun t178 => (some (a0_0, t178))
theorem laws_toPend.mono : ∀ a0 a1 k, LeO (laws_toPend.f k a0 a1) (laws_toPend.f (k + 1) a0 a1) := by
  intro a0 a1 k
  unfold laws_toPend.f
  repeat' first
      | (with_reducible exact laws_toByteS.mono _ _)
      | (with_reducible exact LeO.refl _)
      | (with_reducible exact LeO.none _)
      | (with_reducible refine LeO.ite ?_ ?_)
      | (with_reducible refine LeO.bind ?_ (fun _ => ?_))
      | exact laws_toByteS.mono _ _
      | exact LeO.none _
      | refine LeO.ite ?_ ?_
      | refine LeO.bind ?_ (fun _ => ?_)
set_option maxHeartbeats 8000000 in
set_option maxRecDepth 100000 in
theorem laws_toPend.calls (k : Nat) (a0_0 : Int) (A0_1 : Option Addr) (c0_1 : Nat) (l0_1 : List Int) (r1 : Int) (r2 : List Int) (w : World) (hr0_1 : Kd.C (Kd.int .u8) w A0_1 l0_1.length l0_1) (hc0_1 : l0_1.length ≤ c0_1) (h : laws_toPend.f k a0_0 l0_1 = some (r1, r2)) :
    Calls Try.prog 60 #[.agg #[.int .i64 a0_0, .slice A0_1 l0_1.length c0_1]] w fun e w' => ∃ v1_ : Value, e = .returned (.agg #[.int .i64 r1, v1_]) ∧ Kd.R (Kd.int .u8) 5 w' w.heap.size (fun _ => True) v1_ r2 ∧ Below w.heap.size w w' := by
  have hu78 := Try.underlying78
  have hu60 := Try.underlying60
  have HR0_1 := Aside0.mk hr0_1
  have HC0_1 := Aside0.mk hc0_1
  clear hr0_1 hc0_1
  have HB := Aside0.mk (Below.refl w.heap.size w)
  have H : ((laws_toByteS.f k l0_1).bind fun t178 => (some (a0_0, t178))) = some (r1, r2) := h
  clear h
  replace H := Option.bind_eq_some_iff.mp H
  obtain ⟨t178, A20, H⟩ := H
  replace H : (some (a0_0, t178)) = some (r1, r2) := H
  have A2 := Aside0.mk A20
  clear A20
  simp only [Option.some.injEq, Prod.mk.injEq] at H
  obtain ⟨rfl, rfl⟩ := H
  go_enter Try.func60, Try.ntmps60
  go_wp2_with (first | ((with_reducible refine gate_dst (N := 1) rfl ?_); refine box_event ?hg (N := 1) ?hd (cs := #[.int .i64 a0_0, .slice A0_1 l0_1.length c0_1]) (t := 78) ?hr ?_; (case hd => rfl); (case hg => rfl); (case hr => first | (go_simp; done) | (go_simp; rfl)); intro gb175 hg w3 hbox hb; have n0_ := Aside0.mk (below_step (by repeat (first | (with_reducible first | exact HB.out | apply below_alloc | apply pw_below_drewN | apply below_drew1) | exact HB.out)) hb); have n1_ := Aside0.mk (hbox); have n2_ := Aside0.mk ((by rw [hg]; exact (below_size (by repeat (first | (with_reducible first | exact HB.out | apply below_alloc | apply pw_below_drewN | apply below_drew1) | exact HB.out))) : w.heap.size ≤ gb175)); have n3_ := Aside0.mk ((by rw [hg]; exact (below_size (by repeat (first | (with_reducible first | exact HB.out | apply below_alloc | apply pw_below_drewN | apply below_drew1) | exact HB.out))) : w.heap.size ≤ gb175)); clear HB; have HB := n0_; have BK175 := n1_; have GW175 := n2_; have GE175 := n3_; clear n0_ n1_ n2_ n3_; clear hb hbox hg) | ((with_reducible refine gate_dst (N := 2) rfl ?_); refine box_event ?hg (N := 2) ?hd (cs := #[.int .i64 0, .slice none 0 0]) (t := 60) ?hr ?_; (case hd => rfl); (case hg => rfl); (case hr => first | (go_simp; done) | (go_simp; rfl)); intro gb176 hg w4 hbox hb; have n0_ := Aside0.mk (blk_below (g := gb175) (o := .cells #[.int .i64 a0_0, .slice A0_1 l0_1.length c0_1] 78 (0, 0)) (by (with_reducible repeat (first | refine blk_drewN ?_ _ | refine blk_drew ?_ | refine blk_alloc ?_ _)); exact BK175.out) hb); have n1_ := Aside0.mk (below_step (by repeat (first | (with_reducible first | exact HB.out | apply below_alloc | apply pw_below_drewN | apply below_drew1 | refine below_set ?_ GE175.out) | exact HB.out)) hb); have n2_ := Aside0.mk (hbox); have n3_ := Aside0.mk ((by rw [hg]; exact (below_size (by repeat (first | (with_reducible first | exact HB.out | apply below_alloc | apply pw_below_drewN | apply below_drew1 | refine below_set ?_ GE175.out) | exact HB.out))) : w.heap.size ≤ gb176)); have n4_ := Aside0.mk ((by rw [hg]; exact (below_size (by repeat (first | (with_reducible first | exact HB.out | apply below_alloc | apply pw_below_drewN | apply below_drew1 | refine below_set ?_ GE175.out) | exact HB.out))) : w.heap.size ≤ gb176)); have n5_ := Aside0.mk ((by rw [hg]; exact Nat.ne_of_lt (blk_lt (g := gb175) (o := .cells #[.int .i64 a0_0, .slice A0_1 l0_1.length c0_1] 78 (0, 0)) (by (with_reducible repeat (first | refine blk_drewN ?_ _ | refine blk_drew ?_ | refine blk_alloc ?_ _)); exact BK175.out)) : gb175 ≠ gb176)); have n6_ := Aside0.mk ((by rw [hg]; exact Nat.ne_of_gt (blk_lt (g := gb175) (o := .cells #[.int .i64 a0_0, .slice A0_1 l0_1.length c0_1] 78 (0, 0)) (by (with_reducible repeat (first | refine blk_drewN ?_ _ | refine blk_drew ?_ | refine blk_alloc ?_ _)); exact BK175.out)) : gb176 ≠ gb175)); clear BK175; clear HB; have BK175 := n0_; have HB := n1_; have BK176 := n2_; have GW176 := n3_; have GE176 := n4_; have NB175_176 := n5_; have NB176_175 := n6_; clear n0_ n1_ n2_ n3_ n4_ n5_ n6_; clear hb hbox hg) | ((with_reducible refine gate_dst (N := 3) rfl ?_); refine box_event ?hg (N := 3) ?hd (cs := #[.int .i64 0, .slice none 0 0]) (t := 60) ?hr ?_; (case hd => rfl); (case hg => rfl); (case hr => first | (go_simp; done) | (go_simp; rfl)); intro gb177 hg w5 hbox hb; have n0_ := Aside0.mk (blk_below (g := gb175) (o := .cells #[.int .i64 a0_0, .slice A0_1 l0_1.length c0_1] 78 (0, 0)) (by (with_reducible repeat (first | refine blk_drewN ?_ _ | refine blk_drew ?_ | refine blk_alloc ?_ _)); exact BK175.out) hb); have n1_ := Aside0.mk (blk_below (g := gb176) (o := .cells #[.int .i64 0, .slice none 0 0] 60 (0, 0)) (by (with_reducible repeat (first | refine blk_drewN ?_ _ | refine blk_drew ?_ | refine blk_alloc ?_ _)); exact BK176.out) hb); have n2_ := Aside0.mk (below_step (by repeat (first | (with_reducible first | exact HB.out | apply below_alloc | apply pw_below_drewN | apply below_drew1 | refine below_set ?_ GE175.out | refine below_set ?_ GE176.out) | exact HB.out)) hb); have n3_ := Aside0.mk (hbox); have n4_ := Aside0.mk ((by rw [hg]; exact (below_size (by repeat (first | (with_reducible first | exact HB.out | apply below_alloc | apply pw_below_drewN | apply below_drew1 | refine below_set ?_ GE175.out | refine below_set ?_ GE176.out) | exact HB.out))) : w.heap.size ≤ gb177)); have n5_ := Aside0.mk ((by rw [hg]; exact (below_size (by repeat (first | (with_reducible first | exact HB.out | apply below_alloc | apply pw_below_drewN | apply below_drew1 | refine below_set ?_ GE175.out | refine below_set ?_ GE176.out) | exact HB.out))) : w.heap.size ≤ gb177)); have n6_ := Aside0.mk ((by rw [hg]; exact Nat.ne_of_lt (blk_lt (g := gb175) (o := .cells #[.int .i64 a0_0, .slice A0_1 l0_1.length c0_1] 78 (0, 0)) (by (with_reducible repeat (first | refine blk_drewN ?_ _ | refine blk_drew ?_ | refine blk_alloc ?_ _)); exact BK175.out)) : gb175 ≠ gb177)); have n7_ := Aside0.mk ((by rw [hg]; exact Nat.ne_of_gt (blk_lt (g := gb175) (o := .cells #[.int .i64 a0_0, .slice A0_1 l0_1.length c0_1] 78 (0, 0)) (by (with_reducible repeat (first | refine blk_drewN ?_ _ | refine blk_drew ?_ | refine blk_alloc ?_ _)); exact BK175.out)) : gb177 ≠ gb175)); have n8_ := Aside0.mk ((by rw [hg]; exact Nat.ne_of_lt (blk_lt (g := gb176) (o := .cells #[.int .i64 0, .slice none 0 0] 60 (0, 0)) (by (with_reducible repeat (first | refine blk_drewN ?_ _ | refine blk_drew ?_ | refine blk_alloc ?_ _)); exact BK176.out)) : gb176 ≠ gb177)); have n9_ := Aside0.mk ((by rw [hg]; exact Nat.ne_of_gt (blk_lt (g := gb176) (o := .cells #[.int .i64 0, .slice none 0 0] 60 (0, 0)) (by (with_reducible repeat (first | refine blk_drewN ?_ _ | refine blk_drew ?_ | refine blk_alloc ?_ _)); exact BK176.out)) : gb177 ≠ gb176)); clear BK175; clear BK176; clear HB; have BK175 := n0_; have BK176 := n1_; have HB := n2_; have BK177 := n3_; have GW177 := n4_; have GE177 := n5_; have NB175_177 := n6_; have NB177_175 := n7_; have NB176_177 := n8_; have NB177_176 := n9_; clear n0_ n1_ n2_ n3_ n4_ n5_ n6_ n7_ n8_ n9_; clear hb hbox hg; have hnb6 := NB175_176.out; have hnc6 := NB176_175.out; have hnb7 := NB175_177.out; have hnc7 := NB177_175.out; have hcz8_0 : w5.cell? ⟨gb175, 0, none⟩ = some (.int .i64 a0_0) := (blk_cell BK175.out 0).trans rfl; have hcz8_1 : w5.cell? ⟨gb175, 1, none⟩ = some (.slice A0_1 l0_1.length c0_1) := (blk_cell BK175.out 1).trans rfl; have hfz8_0 := blk_frozen BK175.out 0; have hfz8_1 := blk_frozen BK175.out 1; have hnb9 := NB177_176.out; have hnc9 := NB176_177.out; have hcz10_0 : w5.cell? ⟨gb177, 0, none⟩ = some (.int .i64 0) := (blk_cell BK177.out 0).trans rfl; have hcz10_1 : w5.cell? ⟨gb177, 1, none⟩ = some (.slice none 0 0) := (blk_cell BK177.out 1).trans rfl; have hfz10_0 := blk_frozen BK177.out 0; have hfz10_1 := blk_frozen BK177.out 1) | ((with_reducible refine gate_callee (f := 25) rfl ?_); refine goesL_ (some 9) rfl rfl Try.func25 (by kernel_rfl) rfl #[.slice A0_1 l0_1.length c0_1] rfl (by (try simp only [List.map_toArray, List.map_cons, List.map_nil]); first | done | rfl | (simp only [List.length_drop, List.length_take]; rfl)) ?_; (with_reducible refine (laws_toByteS.calls k _ _ l0_1 t178 _ ?side1 ?side2 A2.out).mono ?_); (case side1 => exact Kd.C_below HR0_1.out (by repeat (first | (with_reducible first | exact HB.out | apply below_alloc | apply pw_below_drewN | apply below_drew1 | refine below_set ?_ GE175.out | refine below_set ?_ GE176.out | refine below_set ?_ GE177.out) | exact HB.out))); (case side2 => exact HC0_1.out); rintro e w11 ⟨v179, rfl, ho0, hb⟩; refine ⟨_, rfl, ?_⟩; have n0_ := Aside0.mk (Kd.R_lower ho0 (below_size (by repeat (first | (with_reducible first | exact HB.out | apply below_alloc | apply pw_below_drewN | apply below_drew1 | refine below_set ?_ GE175.out | refine below_set ?_ GE176.out | refine below_set ?_ GE177.out) | exact HB.out)))); have n1_ := Aside0.mk (blk_below (g := gb175) (o := .cells #[.int .i64 a0_0, .slice A0_1 l0_1.length c0_1] 78 (0, 0)) (by (with_reducible repeat (first | refine blk_drewN ?_ _ | refine blk_drew ?_ | refine blk_alloc ?_ _)); refine blk_far ?_ NB175_177.out _; (with_reducible repeat (first | refine blk_drewN ?_ _ | refine blk_drew ?_ | refine blk_alloc ?_ _)); exact BK175.out) hb); have n2_ := Aside0.mk (blk_below (g := gb176) (o := .cells #[.int .i64 0, .slice none 0 0] 60 (0, 0)) (by (with_reducible repeat (first | refine blk_drewN ?_ _ | refine blk_drew ?_ | refine blk_alloc ?_ _)); refine blk_far ?_ NB176_177.out _; (with_reducible repeat (first | refine blk_drewN ?_ _ | refine blk_drew ?_ | refine blk_alloc ?_ _)); exact BK176.out) hb); have n3_ := Aside0.mk (blk_below (g := gb177) (o := .cells #[.int .i64 a0_0, .slice none 0 0] 60 (0, 0)) (by (with_reducible repeat (first | refine blk_drewN ?_ _ | refine blk_drew ?_ | refine blk_alloc ?_ _)); refine blk_put (cs := #[.int .i64 0, .slice none 0 0]) ?_ 0 _ rfl; (with_reducible repeat (first | refine blk_drewN ?_ _ | refine blk_drew ?_ | refine blk_alloc ?_ _)); exact BK177.out) hb); have n4_ := Aside0.mk (below_step (by repeat (first | (with_reducible first | exact HB.out | apply below_alloc | apply pw_below_drewN | apply below_drew1 | refine below_set ?_ GE175.out | refine below_set ?_ GE176.out | refine below_set ?_ GE177.out) | exact HB.out)) hb); clear BK175; clear BK176; clear BK177; clear HB; have HO180 := n0_; have BK175 := n1_; have BK176 := n2_; have BK177 := n3_; have HB := n4_; clear n0_ n1_ n2_ n3_ n4_; (try clear hb); (try clear hb2); (try clear hk); (try clear hi); (try clear ho0); obtain ⟨Ao12, co12, eo12⟩ := Kd.R_slice HO180.out; subst eo12; have hcz13_0 : w11.cell? ⟨gb177, 0, none⟩ = some (.int .i64 a0_0) := (blk_cell BK177.out 0).trans rfl; have hcz13_1 : w11.cell? ⟨gb177, 1, none⟩ = some (.slice none 0 0) := (blk_cell BK177.out 1).trans rfl; have hfz13_0 := blk_frozen BK177.out 0; have hfz13_1 := blk_frozen BK177.out 1; have hcz14_0 : w11.cell? ⟨gb176, 0, none⟩ = some (.int .i64 0) := (blk_cell BK176.out 0).trans rfl; have hcz14_1 : w11.cell? ⟨gb176, 1, none⟩ = some (.slice none 0 0) := (blk_cell BK176.out 1).trans rfl; have hfz14_0 := blk_frozen BK176.out 0; have hfz14_1 := blk_frozen BK176.out 1))
  refine bodyPost_ret (results_cell_row rfl _ _ gb176 60 #[.int .i64 a0_0, .slice Ao12 t178.length co12] (0, 0) _ rfl (by (with_reducible repeat (first | refine blk_drewN ?_ _ | refine blk_drew ?_ | refine blk_alloc ?_ _)); refine blk_put (cs := #[.int .i64 a0_0, .slice none 0 0]) ?_ 1 _ rfl; (with_reducible repeat (first | refine blk_drewN ?_ _ | refine blk_drew ?_ | refine blk_alloc ?_ _)); refine blk_put (cs := #[.int .i64 0, .slice none 0 0]) ?_ 0 _ rfl; (with_reducible repeat (first | refine blk_drewN ?_ _ | refine blk_drew ?_ | refine blk_alloc ?_ _)); refine blk_far ?_ NB176_177.out _; (with_reducible repeat (first | refine blk_drewN ?_ _ | refine blk_drew ?_ | refine blk_alloc ?_ _)); exact BK176.out) Try.underlying60 rfl (by kernel_rfl)) rfl ?_
  exact ⟨_, by first | rfl | (simp [errW_none, errW_some] <;> rfl) | (simp [*, errW_none, errW_some] <;> rfl), by (with_reducible repeat (first | apply Kd.R_alloc | apply Kd.R_drewN | apply Kd.R_drew)); exact Kd.R_mono (Kd.R_far (p := ⟨gb176, 1, none⟩) (Kd.R_far (p := ⟨gb176, 0, none⟩) (Kd.R_far (p := ⟨gb177, 1, none⟩) (Kd.R_types (Kd.R_types HO180.out BK177.out (by decide)) BK176.out (by decide)) (fun _ hk => hk.1.2) (.slice Ao12 t178.length co12)) (fun _ hk => hk.2) (.int .i64 a0_0)) (fun _ hk => hk.2) (.slice Ao12 t178.length co12)) (fun _ hk => trivial), by repeat (first | (with_reducible first | exact HB.out | apply below_alloc | apply pw_below_drewN | apply below_drew1 | refine below_set ?_ GE175.out | refine below_set ?_ GE176.out | refine below_set ?_ GE177.out) | exact HB.out)⟩

/-! ### laws_toPendS: function 43 -/
def laws_toPendS.l0 : Nat → List (S78) → List (S60) → Int → Option ((List (S60)))
  | 0, _, _, _ => none
  | k + 1, x0, x3, x4 => if x4 < (x0.length : Int) then (if 0 ≤ x4 then ((laws_toPend.f k ((rd_T78 x0 x4).f0) ((rd_T78 x0 x4).f1)).bind fun bt185 => (if x4 < (x3.length : Int) then (laws_toPendS.l0 k x0 (x3.set (x4 : Int).toNat (⟨bt185.1, bt185.2⟩ : S60)) (wrap64 (x4 + 1))) else (none))) else (none)) else (some x3)
def laws_toPendS.f (k : Nat) (l0 : List (S78)) : Option ((List (S60))) := if 0 ≤ (l0.length : Int) then (if ((l0.length : Int) : Int).toNat ≤ 8796093022208 then (laws_toPendS.l0 k l0 (List.replicate ((l0.length : Int) : Int).toNat z60) 0) else (none)) else (none)
theorem laws_toPendS.mono_l : ∀ k, (∀ y0 y1 y2, LeO (laws_toPendS.l0 k y0 y1 y2) (laws_toPendS.l0 (k + 1) y0 y1 y2))
  | 0 => fun _ _ _ r h => by simp [laws_toPendS.l0] at h
  | k + 1 => by
    have ih0 := laws_toPendS.mono_l k
    · intro y0 y1 y2
      unfold laws_toPendS.l0
      repeat' first
      | (with_reducible exact ih0 _ _ _)
      | (with_reducible exact laws_toPend.mono _ _ _)
      | (with_reducible exact LeO.refl _)
      | (with_reducible exact LeO.none _)
      | (with_reducible refine LeO.ite ?_ ?_)
      | (with_reducible refine LeO.bind ?_ (fun _ => ?_))
      | exact ih0 _ _ _
      | exact laws_toPend.mono _ _ _
      | exact LeO.none _
      | refine LeO.ite ?_ ?_
      | refine LeO.bind ?_ (fun _ => ?_)
theorem laws_toPendS.mono : ∀ a0 k, LeO (laws_toPendS.f k a0) (laws_toPendS.f (k + 1) a0) := by
  intro a0 k
  have ih0 := laws_toPendS.mono_l k
  unfold laws_toPendS.f
  repeat' first
      | (with_reducible exact ih0 _ _ _)
      | (with_reducible exact laws_toPend.mono _ _ _)
      | (with_reducible exact LeO.refl _)
      | (with_reducible exact LeO.none _)
      | (with_reducible refine LeO.ite ?_ ?_)
      | (with_reducible refine LeO.bind ?_ (fun _ => ?_))
      | exact ih0 _ _ _
      | exact laws_toPend.mono _ _ _
      | exact LeO.none _
      | refine LeO.ite ?_ ?_
      | refine LeO.bind ?_ (fun _ => ?_)
set_option maxHeartbeats 8000000 in
set_option maxRecDepth 100000 in
theorem laws_toPendS.calls (k : Nat) (A0 : Option Addr) (c0 : Nat) (l0 : List (S78)) (r : List (S60)) (w : World) (hr0 : Kd.C k78 w A0 l0.length l0) (hc0 : l0.length ≤ c0) (h : laws_toPendS.f k l0 = some r) :
    Calls Try.prog 43 #[.slice A0 l0.length c0] w fun e w' => ∃ v0_ : Value, e = .returned (v0_) ∧ Kd.S k60 60 w' w.heap.size (fun _ => True) v0_ r ∧ Below w.heap.size w w' := by
  have hu78 := Try.underlying78
  have hu60 := Try.underlying60
  have HR0 := Aside0.mk hr0
  have HC0 := Aside0.mk hc0
  clear hr0 hc0
  have HB := Aside0.mk (Below.refl w.heap.size w)
  have H : (if 0 ≤ (l0.length : Int) then (if ((l0.length : Int) : Int).toNat ≤ 8796093022208 then (laws_toPendS.l0 k l0 (List.replicate ((l0.length : Int) : Int).toNat z60) 0) else (none)) else (none)) = some r := h
  clear h
  by_cases c2 : 0 ≤ (l0.length : Int)
  · rw [if_pos c2] at H
    have c2b0 := eq_true c2
    have c2b1 : decide (0 ≤ (l0.length : Int)) = true := decide_eq_true c2
    clear c2
    by_cases c3 : ((l0.length : Int) : Int).toNat ≤ 8796093022208
    · rw [if_pos c3] at H
      have c3b0 := eq_true c3
      have c3b1 : decide (((l0.length : Int) : Int).toNat ≤ 8796093022208) = true := decide_eq_true c3
      clear c3
      obtain ⟨y181, hy181⟩ : ∃ y_ : List (S60), y_ = (List.replicate ((l0.length : Int) : Int).toNat z60) := ⟨_, rfl⟩
      replace H : (laws_toPendS.l0 k l0 y181 0) = some r := by first | (rw [hy181]; with_reducible exact H) | (have H2_ := (Option.bind_some _ _).symm.trans H; rw [hy181]; with_reducible exact H2_) | (have H2_ := (Option.bind_some _ _).symm.trans H; with_reducible exact H2_) | with_reducible exact H | (rw [hy181]; exact H) | exact H
      have Ny181 := Aside0.mk hy181
      clear hy181
      have H' := Aside0.mk H
      clear H
      go_enter Try.func43, Try.ntmps43
      go_wp2_with (first | ((with_reducible refine gate_dst (N := 7) rfl ?_); refine Kd.S_make k60 _ 60 rfl (N := 7) rfl 23 _ _ rfl (l0.length : Int) rfl rfl Try.underlying23 (.agg #[(.int .i64 0), (.slice none 0 0)]) 32 info60 rfl (by decide) (by omega) z60 (ok := fun _ => True) (okp := fun _ => True) (k60_mkM _ _ _ z60 (Kd.R_nil _ _ _ _ _)) (fun _ hk => hk) trivial (of_decide_eq_true (by first | (with_reducible assumption) | assumption)) (Nat.le_trans (Nat.mul_le_mul_right _ (of_decide_eq_true (by first | (with_reducible assumption) | assumption) : (l0.length : Int).toNat ≤ 8796093022208)) (by omega)) (Below.refl _ _) (Nat.le_refl _) ?_; intro v182 w4 ho5 hb hg_ hnew_; clear hg_ hnew_; (first | rw [← Ny181.out] at ho5 | (simp only [Int.reduceToNat] at ho5; rw [← Ny181.out] at ho5)); have n0_ := Aside0.mk (Kd.S_lower ho5 (below_size (by repeat (first | (with_reducible first | exact HB.out | apply below_alloc | apply pw_below_drewN | apply below_drew1) | exact HB.out)))); have n1_ := Aside0.mk (below_step (by repeat (first | (with_reducible first | exact HB.out | apply below_alloc | apply pw_below_drewN | apply below_drew1) | exact HB.out)) hb); clear HB; have HO183 := n0_; have HB := n1_; clear n0_ n1_; clear hb ho5))
      go_loopg [4] k (fun kq v4 w' => ∃ (x3_1 : List (S60)) (x4_1 : Int), v4 = .int .i64 x4_1 ∧ Aside0 (laws_toPendS.l0 kq l0 x3_1 x4_1 = some r) ∧ Aside0 (kq ≤ k) ∧ Aside0 (Kd.S k60 60 w' w.heap.size (fun _ => True) v182 x3_1) ∧ Aside0 (Below w.heap.size w w'))
      case atStart => exact ⟨(y181), (0), (by first | rfl | (simp; done) | (simp [*]; done)), H', ⟨Nat.le_refl _⟩, ⟨by (with_reducible repeat (first | apply Kd.S_alloc | apply Kd.S_drewN | apply Kd.S_drew)); exact HO183.out⟩, ⟨by repeat (first | (with_reducible first | exact HB.out | apply below_alloc | apply pw_below_drewN | apply below_drew1) | exact HB.out)⟩⟩
      case round =>
        clear H'
        try clear c2
        try clear c2b0
        try clear c2b1
        try clear p2
        try clear c3
        try clear c3b0
        try clear c3b1
        try clear c4
        obtain ⟨x3_1, x4_1, rfl, HA, HK1, HO_3, HB⟩ := hrel
        cases gk with
        | zero => exact absurd HA.out (by simp [laws_toPendS.l0])
        | succ k1 =>
          have H := HA.out
          clear HA
          simp only [laws_toPendS.l0] at H
          by_cases c6 : x4_1 < (l0.length : Int)
          · rw [if_pos c6] at H
            have c6b0 : decide (x4_1 < (l0.length : Int)) = true := decide_eq_true c6
            clear c6
            by_cases c7 : 0 ≤ x4_1
            · rw [if_pos c7] at H
              have c7b0 : decide (0 ≤ x4_1) = true := decide_eq_true c7
              clear c7
              replace H := Option.bind_eq_some_iff.mp H
              obtain ⟨⟨t185, t186⟩, A80, H⟩ := H
              replace H : (if x4_1 < (x3_1.length : Int) then (laws_toPendS.l0 k1 l0 (x3_1.set (x4_1 : Int).toNat (⟨t185, t186⟩ : S60)) (wrap64 (x4_1 + 1))) else (none)) = some r := H
              have A8 := Aside0.mk A80
              clear A80
              by_cases c9 : x4_1 < (x3_1.length : Int)
              · rw [if_pos c9] at H
                have c9b0 : decide (x4_1 < (x3_1.length : Int)) = true := decide_eq_true c9
                clear c9
                obtain ⟨y189, hy189⟩ : ∃ y_ : List (S60), y_ = (x3_1.set (x4_1 : Int).toNat (⟨t185, t186⟩ : S60)) := ⟨_, rfl⟩
                replace H : (laws_toPendS.l0 k1 l0 y189 (wrap64 (x4_1 + 1))) = some r := by first | (rw [hy189]; with_reducible exact H) | (have H2_ := (Option.bind_some _ _).symm.trans H; rw [hy189]; with_reducible exact H2_) | (have H2_ := (Option.bind_some _ _).symm.trans H; with_reducible exact H2_) | with_reducible exact H | (rw [hy189]; exact H) | exact H
                have Ny189 := Aside0.mk hy189
                clear hy189
                have H' := Aside0.mk H
                clear H
                have p184 : 0 ≤ (x4_1 : Int) := of_decide_eq_true (by first | (with_reducible assumption) | assumption)
                have q184 : x4_1 < (l0.length : Int) := of_decide_eq_true (by first | (with_reducible assumption) | assumption)
                obtain ⟨ad184, A184_1, c184_1, e184, hx184_0, hx184_1, hl184_1, hi184_1⟩ := at_T78 HR0.out x4_1 p184 q184
                cases e184
                replace hx184_0 := (HB.out.cell (World.block_lt_of_cell? w _ hx184_0)).trans hx184_0
                replace hx184_1 := (HB.out.cell (World.block_lt_of_cell? w _ hx184_1)).trans hx184_1
                have HR184_1 := Aside0.mk hi184_1
                have HC184_1 := Aside0.mk hl184_1
                clear hi184_1 hl184_1
                replace p184 := eq_true p184
                replace q184 := eq_true q184
                go_wp2_with (first | ((with_reducible refine gate_callee (f := 60) rfl ?_); refine goesL_ (some 20) rfl rfl Try.func60 (by kernel_rfl) rfl #[.agg #[.int .i64 ((rd_T78 l0 x4_1).f0), .slice A184_1 ((rd_T78 l0 x4_1).f1).length c184_1]] rfl (by (try simp only [List.map_toArray, List.map_cons, List.map_nil]); first | done | rfl | (simp only [List.length_drop, List.length_take]; rfl)) ?_; (with_reducible refine (laws_toPend.calls k1 ((rd_T78 l0 x4_1).f0) _ _ ((rd_T78 l0 x4_1).f1) t185 t186 _ ?side1 ?side2 A8.out).mono ?_); (case side1 => repeat (first | exact (Kd.C_below HR184_1.out HB.out) | (with_reducible refine Kd.C_alloc ?_ _) | (with_reducible refine Kd.C_drewN ?_ _) | (with_reducible refine Kd.C_drew ?_))); (case side2 => exact HC184_1.out); rintro e w11 ⟨v187, rfl, ho0, hb⟩; refine ⟨_, rfl, ?_⟩; have n0_ := Aside0.mk (Kd.S_elder' (by (with_reducible repeat (first | apply Kd.S_alloc | apply Kd.S_drewN | apply Kd.S_drew)); exact HO_3.out) (Kd.R_base ho0) hb); have n1_ := Aside0.mk (Kd.R_lower ho0 (below_size (by repeat (first | (with_reducible first | exact HB.out | apply below_alloc | apply pw_below_drewN | apply below_drew1) | exact HB.out)))); have n2_ := Aside0.mk (below_step (by repeat (first | (with_reducible first | exact HB.out | apply below_alloc | apply pw_below_drewN | apply below_drew1) | exact HB.out)) hb); clear HO_3; clear HB; have HO_3 := n0_; have HO188 := n1_; have HB := n2_; clear n0_ n1_ n2_; (try clear hb); (try clear hb2); (try clear hk); (try clear hi); (try clear ho0); have p10 : 0 ≤ (x4_1 : Int) := of_decide_eq_true (by first | (with_reducible assumption) | assumption); have q10 : (x4_1 : Int) < ((x3_1.length : Int) : Int) := of_decide_eq_true (by first | (with_reducible assumption) | assumption); obtain ⟨go10, co10, eo10, gb10, gl10, cl10, HG10⟩ := Kd.S_form HO_3.out (by omega); (first | cases eo10 | (injection eo10 with ea_ en_ ec_; (first | subst ea_ | (injection ea_ with ea_; subst ea_)); subst ec_; clear en_)); have GB10 := Aside0.mk gb10; have GG10 := Aside0.mk HG10; clear gb10 gl10 HG10; obtain ⟨_, ce10, hcl10, hM10, hcc10, hfr10, _, _⟩ := Kd.S_elem HO_3.out z60 (x4_1 : Int) p10 q10; obtain ⟨ve10_1, rfl, ge10_1⟩ := k60_openM hM10; have hx10_0 : w11.cell? ⟨go10, (x4_1 : Int).toNat * 2, none⟩ = some (.int .i64 ((rd_T60 x3_1 x4_1).f0)) := hcc10 0 _ rfl; have hx10_1 : w11.cell? ⟨go10, (x4_1 : Int).toNat * 2 + 1, none⟩ = some (ve10_1) := hcc10 1 _ rfl; have hf10_0 : w11.frozen? ⟨go10, (x4_1 : Int).toNat * 2, none⟩ = false := hfr10 0; have hf10_1 : w11.frozen? ⟨go10, (x4_1 : Int).toNat * 2 + 1, none⟩ = false := hfr10 1; clear hcl10 hcc10 hfr10 hM10; replace p10 := eq_true p10; replace q10 := eq_true q10; have n_ := Aside0.mk (Kd.S_mono (ok' := (fun k_ => some k_ ≠ (v187 : Value).ownBlock)) HO_3.out (fun k_ hk => hk.2)); clear HO_3; have HO_3 := n_; clear n_; have HX12 := Aside0.mk (show Kd.S k60 60 w11 w.heap.size (fun k_ => ((fun _ => True)) k_ ∧ ¬ ((fun k_ => some k_ = (v187 : Value).ownBlock)) k_) (.slice (some ⟨go10, 0, none⟩) x3_1.length co10) x3_1 from (by (with_reducible repeat (first | apply Kd.S_alloc | apply Kd.S_drewN | apply Kd.S_drew)); exact Kd.S_mono HO_3.out (fun k_ hk => ⟨trivial, fun e_ => hk e_⟩))); obtain ⟨oki12, ce12, hcl12, hM12, hcc12, hfr12, hoki12, hH12⟩ := Kd.S_elem HX12.out z60 (x4_1 : Int) (of_decide_eq_true (by first | (with_reducible assumption) | assumption)) (by have h_ : (x4_1 : Int) < ((x3_1.length : Int) : Int) := of_decide_eq_true (by first | (with_reducible assumption) | assumption); first | exact h_ | (have e_ := (Kd.S_reads' HO_3.out).1; omega) | simpa using h_); obtain ⟨ve12_1, rfl, ge12_1⟩ := k60_openM hM12; have HP12 := Kd.S_seg hH12 (of_decide_eq_true (by first | (with_reducible assumption) | assumption)) (by have h_ : (x4_1 : Int) < ((x3_1.length : Int) : Int) := of_decide_eq_true (by first | (with_reducible assumption) | assumption); first | exact h_ | (have e_ := (Kd.S_reads' HO_3.out).1; omega) | simpa using h_) (seg := [.int .i64 t185, v187]) (j := 0) (show 2 ≤ 2 from by decide) (x' := (⟨t185, t186⟩ : S60)) (k60_mkM _ _ _ (⟨t185, t186⟩ : S60) (Kd.R_mono (Kd.R_tight rfl (Kd.R_mono (ok' := fun k_ => ((fun _ => True)) k_ ∧ k_ ≠ go10) (Kd.R_apart' (HO188.out) (Kd.S_typed HO_3.out) (by decide)) (fun k_ hk => ⟨trivial, fun e_ => (hk.2) (by rw [e_]; rfl)⟩))) (fun _ h_ => Or.inr (h_)))) (fun _ hk => hk) (fun k_ hk_ => ((Kd.R_mono (ok' := fun k_ => ((fun _ => True)) k_ ∧ k_ ≠ go10) (Kd.R_apart' (HO188.out) (Kd.S_typed HO_3.out) (by decide)) (fun k_ hk => ⟨trivial, fun e_ => (hk.2) (by rw [e_]; rfl)⟩))).1 k_ hk_.symm); have hx12_0 := hcc12 0 _ rfl; (try simp only [show (k60).sz = 2 from rfl, Nat.mul_one, Nat.add_zero] at hx12_0); have hf12_0 := hfr12 0; (try simp only [show (k60).sz = 2 from rfl, Nat.mul_one, Nat.add_zero] at hf12_0); have hx12_1 := hcc12 1 _ rfl; (try simp only [show (k60).sz = 2 from rfl, Nat.mul_one, Nat.add_zero] at hx12_1); have hf12_1 := hfr12 1; (try simp only [show (k60).sz = 2 from rfl, Nat.mul_one, Nat.add_zero] at hf12_1); clear hcl12 hcc12 hfr12 hM12 hoki12 hH12) | ((with_reducible refine gate_store (t := 60) (p := 21) rfl ?_); refine store_event (t := 60) (p := 21) (v := ?vo_w13) (w1 := ((w11.setCell ⟨go10, (x4_1 : Int).toNat * 2, none⟩ (.int .i64 t185)).setCell ⟨go10, (x4_1 : Int).toNat * 2 + 1, none⟩ (v187))) ?hg ?ho ?hn ?hr ?_; (case ho => rfl); (case hg => rfl); (case hn => rfl); (case hr => first | (go_simp; done) | (go_simp; rfl) | (obtain ⟨_, _, ev_⟩ := Kd.R_slice HO188.out; subst ev_; go_simp; done)); intro w13 hw; have hg : w11.grownBy w13 (some go10) := (by rw [hw]; exact HP12.2); have hp_ : Kd.S k60 60 w13 w.heap.size (fun _ => True) (.slice (some ⟨go10, 0, none⟩) x3_1.length co10) y189 := (by rw [hw, Ny189.out]; exact HP12.1); clear HP12; have n0_ := Aside0.mk (hp_); have n1_ := Aside0.mk ((by rw [hw]; exact below_set (below_set (HB.out) GB10.out) GB10.out : Below w.heap.size w w13)); clear HO_3; clear HB; clear HO188; have HO_3 := n0_; have HB := n1_; clear n0_ n1_; clear hg hw hp_))
                go_roundg k1
                case measure => have := HK1.out; omega
                case rel => exact ⟨(y189), (wrap64 (x4_1 + 1)), (by first | rfl | (simp; done) | (simp [*]; done)), H', ⟨by have := HK1.out; omega⟩, ⟨by (with_reducible repeat (first | apply Kd.S_alloc | apply Kd.S_drewN | apply Kd.S_drew)); exact HO_3.out⟩, ⟨by repeat (first | (with_reducible first | exact HB.out | apply below_alloc | apply pw_below_drewN | apply below_drew1) | exact HB.out)⟩⟩
              · rw [if_neg c9] at H
                exact absurd H (by simp)
            · rw [if_neg c7] at H
              exact absurd H (by simp)
          · rw [if_neg c6] at H
            have c6b0 : decide (x4_1 < (l0.length : Int)) = false := decide_eq_false c6
            clear c6
            obtain rfl := Option.some.inj H
            go_wp2
            go_ret
            exact ⟨_, by first | rfl | (simp [errW_none, errW_some] <;> rfl) | (simp [*, errW_none, errW_some] <;> rfl), by (with_reducible repeat (first | apply Kd.S_alloc | apply Kd.S_drewN | apply Kd.S_drew)); exact HO_3.out, by repeat (first | (with_reducible first | exact HB.out | apply below_alloc | apply pw_below_drewN | apply below_drew1) | exact HB.out)⟩
    · rw [if_neg c3] at H
      exact absurd H (by simp)
  · rw [if_neg c2] at H
    exact absurd H (by simp)

/-! ### laws_toDisk: function 17 -/
def laws_toDisk.f (k : Nat) (l0_0 : List Int) (l0_1 : List (S78)) (a0_2 : Int) (a0_3 : Bool) : Option (List Int × (List (S60)) × Int × Bool) := (laws_toByteS.f k l0_0).bind fun t193 => ((laws_toPendS.f k l0_1).bind fun t196 => (some (t193, t196, a0_2, a0_3)))
theorem laws_toDisk.mono : ∀ a0 a1 a2 a3 k, LeO (laws_toDisk.f k a0 a1 a2 a3) (laws_toDisk.f (k + 1) a0 a1 a2 a3) := by
  intro a0 a1 a2 a3 k
  unfold laws_toDisk.f
  repeat' first
      | (with_reducible exact laws_toByteS.mono _ _)
      | (with_reducible exact laws_toPendS.mono _ _)
      | (with_reducible exact LeO.refl _)
      | (with_reducible exact LeO.none _)
      | (with_reducible refine LeO.ite ?_ ?_)
      | (with_reducible refine LeO.bind ?_ (fun _ => ?_))
      | exact laws_toByteS.mono _ _
      | exact laws_toPendS.mono _ _
      | exact LeO.none _
      | refine LeO.ite ?_ ?_
      | refine LeO.bind ?_ (fun _ => ?_)
set_option maxHeartbeats 8000000 in
set_option maxRecDepth 100000 in
theorem laws_toDisk.calls (k : Nat) (A0_0 : Option Addr) (c0_0 : Nat) (l0_0 : List Int) (A0_1 : Option Addr) (c0_1 : Nat) (l0_1 : List (S78)) (a0_2 : Int) (a0_3 : Bool) (r1 : List Int) (r2 : List (S60)) (r3 : Int) (r4 : Bool) (w : World) (hr0_0 : Kd.C (Kd.int .u8) w A0_0 l0_0.length l0_0) (hc0_0 : l0_0.length ≤ c0_0) (hr0_1 : Kd.C k78 w A0_1 l0_1.length l0_1) (hc0_1 : l0_1.length ≤ c0_1) (h : laws_toDisk.f k l0_0 l0_1 a0_2 a0_3 = some (r1, r2, r3, r4)) :
    Calls Try.prog 17 #[.agg #[.slice A0_0 l0_0.length c0_0, .slice A0_1 l0_1.length c0_1, .int .i64 a0_2, .bool a0_3]] w fun e w' => ∃ v0_ v1_ : Value, e = .returned (.agg #[v0_, v1_, .int .i64 r3, .bool r4]) ∧ Kd.R (Kd.int .u8) 5 w' w.heap.size (fun _ => True) v0_ r1 ∧ Kd.S k60 60 w' w.heap.size (fun k_ => some k_ ≠ (v0_ : Value).ownBlock) v1_ r2 ∧ Below w.heap.size w w' := by
  have hu32 := Try.underlying32
  have hu25 := Try.underlying25
  have HR0_0 := Aside0.mk hr0_0
  have HC0_0 := Aside0.mk hc0_0
  clear hr0_0 hc0_0
  have HR0_1 := Aside0.mk hr0_1
  have HC0_1 := Aside0.mk hc0_1
  clear hr0_1 hc0_1
  have HB := Aside0.mk (Below.refl w.heap.size w)
  have H : ((laws_toByteS.f k l0_0).bind fun t193 => ((laws_toPendS.f k l0_1).bind fun t196 => (some (t193, t196, a0_2, a0_3)))) = some (r1, r2, r3, r4) := h
  clear h
  replace H := Option.bind_eq_some_iff.mp H
  obtain ⟨t193, A20, H⟩ := H
  replace H : ((laws_toPendS.f k l0_1).bind fun t196 => (some (t193, t196, a0_2, a0_3))) = some (r1, r2, r3, r4) := H
  have A2 := Aside0.mk A20
  clear A20
  replace H := Option.bind_eq_some_iff.mp H
  obtain ⟨t196, A30, H⟩ := H
  replace H : (some (t193, t196, a0_2, a0_3)) = some (r1, r2, r3, r4) := H
  have A3 := Aside0.mk A30
  clear A30
  simp only [Option.some.injEq, Prod.mk.injEq] at H
  obtain ⟨rfl, rfl, rfl, rfl⟩ := H
  go_enter Try.func17, Try.ntmps17
  go_wp2_with (first | ((with_reducible refine gate_dst (N := 1) rfl ?_); refine box_event ?hg (N := 1) ?hd (cs := #[.slice A0_0 l0_0.length c0_0, .slice A0_1 l0_1.length c0_1, .int .i64 a0_2, .bool a0_3]) (t := 32) ?hr ?_; (case hd => rfl); (case hg => rfl); (case hr => first | (go_simp; done) | (go_simp; rfl)); intro gb190 hg w4 hbox hb; have n0_ := Aside0.mk (below_step (by repeat (first | (with_reducible first | exact HB.out | apply below_alloc | apply pw_below_drewN | apply below_drew1) | exact HB.out)) hb); have n1_ := Aside0.mk (hbox); have n2_ := Aside0.mk ((by rw [hg]; exact (below_size (by repeat (first | (with_reducible first | exact HB.out | apply below_alloc | apply pw_below_drewN | apply below_drew1) | exact HB.out))) : w.heap.size ≤ gb190)); have n3_ := Aside0.mk ((by rw [hg]; exact (below_size (by repeat (first | (with_reducible first | exact HB.out | apply below_alloc | apply pw_below_drewN | apply below_drew1) | exact HB.out))) : w.heap.size ≤ gb190)); clear HB; have HB := n0_; have BK190 := n1_; have GW190 := n2_; have GE190 := n3_; clear n0_ n1_ n2_ n3_; clear hb hbox hg) | ((with_reducible refine gate_dst (N := 2) rfl ?_); refine box_event ?hg (N := 2) ?hd (cs := #[.slice none 0 0, .slice none 0 0, .int .i64 0, .bool false]) (t := 25) ?hr ?_; (case hd => rfl); (case hg => rfl); (case hr => first | (go_simp; done) | (go_simp; rfl)); intro gb191 hg w5 hbox hb; have n0_ := Aside0.mk (blk_below (g := gb190) (o := .cells #[.slice A0_0 l0_0.length c0_0, .slice A0_1 l0_1.length c0_1, .int .i64 a0_2, .bool a0_3] 32 (0, 0)) (by (with_reducible repeat (first | refine blk_drewN ?_ _ | refine blk_drew ?_ | refine blk_alloc ?_ _)); exact BK190.out) hb); have n1_ := Aside0.mk (below_step (by repeat (first | (with_reducible first | exact HB.out | apply below_alloc | apply pw_below_drewN | apply below_drew1 | refine below_set ?_ GE190.out) | exact HB.out)) hb); have n2_ := Aside0.mk (hbox); have n3_ := Aside0.mk ((by rw [hg]; exact (below_size (by repeat (first | (with_reducible first | exact HB.out | apply below_alloc | apply pw_below_drewN | apply below_drew1 | refine below_set ?_ GE190.out) | exact HB.out))) : w.heap.size ≤ gb191)); have n4_ := Aside0.mk ((by rw [hg]; exact (below_size (by repeat (first | (with_reducible first | exact HB.out | apply below_alloc | apply pw_below_drewN | apply below_drew1 | refine below_set ?_ GE190.out) | exact HB.out))) : w.heap.size ≤ gb191)); have n5_ := Aside0.mk ((by rw [hg]; exact Nat.ne_of_lt (blk_lt (g := gb190) (o := .cells #[.slice A0_0 l0_0.length c0_0, .slice A0_1 l0_1.length c0_1, .int .i64 a0_2, .bool a0_3] 32 (0, 0)) (by (with_reducible repeat (first | refine blk_drewN ?_ _ | refine blk_drew ?_ | refine blk_alloc ?_ _)); exact BK190.out)) : gb190 ≠ gb191)); have n6_ := Aside0.mk ((by rw [hg]; exact Nat.ne_of_gt (blk_lt (g := gb190) (o := .cells #[.slice A0_0 l0_0.length c0_0, .slice A0_1 l0_1.length c0_1, .int .i64 a0_2, .bool a0_3] 32 (0, 0)) (by (with_reducible repeat (first | refine blk_drewN ?_ _ | refine blk_drew ?_ | refine blk_alloc ?_ _)); exact BK190.out)) : gb191 ≠ gb190)); clear BK190; clear HB; have BK190 := n0_; have HB := n1_; have BK191 := n2_; have GW191 := n3_; have GE191 := n4_; have NB190_191 := n5_; have NB191_190 := n6_; clear n0_ n1_ n2_ n3_ n4_ n5_ n6_; clear hb hbox hg) | ((with_reducible refine gate_dst (N := 3) rfl ?_); refine box_event ?hg (N := 3) ?hd (cs := #[.slice none 0 0, .slice none 0 0, .int .i64 0, .bool false]) (t := 25) ?hr ?_; (case hd => rfl); (case hg => rfl); (case hr => first | (go_simp; done) | (go_simp; rfl)); intro gb192 hg w6 hbox hb; have n0_ := Aside0.mk (blk_below (g := gb190) (o := .cells #[.slice A0_0 l0_0.length c0_0, .slice A0_1 l0_1.length c0_1, .int .i64 a0_2, .bool a0_3] 32 (0, 0)) (by (with_reducible repeat (first | refine blk_drewN ?_ _ | refine blk_drew ?_ | refine blk_alloc ?_ _)); exact BK190.out) hb); have n1_ := Aside0.mk (blk_below (g := gb191) (o := .cells #[.slice none 0 0, .slice none 0 0, .int .i64 0, .bool false] 25 (0, 0)) (by (with_reducible repeat (first | refine blk_drewN ?_ _ | refine blk_drew ?_ | refine blk_alloc ?_ _)); exact BK191.out) hb); have n2_ := Aside0.mk (below_step (by repeat (first | (with_reducible first | exact HB.out | apply below_alloc | apply pw_below_drewN | apply below_drew1 | refine below_set ?_ GE190.out | refine below_set ?_ GE191.out) | exact HB.out)) hb); have n3_ := Aside0.mk (hbox); have n4_ := Aside0.mk ((by rw [hg]; exact (below_size (by repeat (first | (with_reducible first | exact HB.out | apply below_alloc | apply pw_below_drewN | apply below_drew1 | refine below_set ?_ GE190.out | refine below_set ?_ GE191.out) | exact HB.out))) : w.heap.size ≤ gb192)); have n5_ := Aside0.mk ((by rw [hg]; exact (below_size (by repeat (first | (with_reducible first | exact HB.out | apply below_alloc | apply pw_below_drewN | apply below_drew1 | refine below_set ?_ GE190.out | refine below_set ?_ GE191.out) | exact HB.out))) : w.heap.size ≤ gb192)); have n6_ := Aside0.mk ((by rw [hg]; exact Nat.ne_of_lt (blk_lt (g := gb190) (o := .cells #[.slice A0_0 l0_0.length c0_0, .slice A0_1 l0_1.length c0_1, .int .i64 a0_2, .bool a0_3] 32 (0, 0)) (by (with_reducible repeat (first | refine blk_drewN ?_ _ | refine blk_drew ?_ | refine blk_alloc ?_ _)); exact BK190.out)) : gb190 ≠ gb192)); have n7_ := Aside0.mk ((by rw [hg]; exact Nat.ne_of_gt (blk_lt (g := gb190) (o := .cells #[.slice A0_0 l0_0.length c0_0, .slice A0_1 l0_1.length c0_1, .int .i64 a0_2, .bool a0_3] 32 (0, 0)) (by (with_reducible repeat (first | refine blk_drewN ?_ _ | refine blk_drew ?_ | refine blk_alloc ?_ _)); exact BK190.out)) : gb192 ≠ gb190)); have n8_ := Aside0.mk ((by rw [hg]; exact Nat.ne_of_lt (blk_lt (g := gb191) (o := .cells #[.slice none 0 0, .slice none 0 0, .int .i64 0, .bool false] 25 (0, 0)) (by (with_reducible repeat (first | refine blk_drewN ?_ _ | refine blk_drew ?_ | refine blk_alloc ?_ _)); exact BK191.out)) : gb191 ≠ gb192)); have n9_ := Aside0.mk ((by rw [hg]; exact Nat.ne_of_gt (blk_lt (g := gb191) (o := .cells #[.slice none 0 0, .slice none 0 0, .int .i64 0, .bool false] 25 (0, 0)) (by (with_reducible repeat (first | refine blk_drewN ?_ _ | refine blk_drew ?_ | refine blk_alloc ?_ _)); exact BK191.out)) : gb192 ≠ gb191)); clear BK190; clear BK191; clear HB; have BK190 := n0_; have BK191 := n1_; have HB := n2_; have BK192 := n3_; have GW192 := n4_; have GE192 := n5_; have NB190_192 := n6_; have NB192_190 := n7_; have NB191_192 := n8_; have NB192_191 := n9_; clear n0_ n1_ n2_ n3_ n4_ n5_ n6_ n7_ n8_ n9_; clear hb hbox hg; have hnb7 := NB190_191.out; have hnc7 := NB191_190.out; have hnb8 := NB190_192.out; have hnc8 := NB192_190.out; have hcz9_0 : w6.cell? ⟨gb190, 0, none⟩ = some (.slice A0_0 l0_0.length c0_0) := (blk_cell BK190.out 0).trans rfl; have hcz9_1 : w6.cell? ⟨gb190, 1, none⟩ = some (.slice A0_1 l0_1.length c0_1) := (blk_cell BK190.out 1).trans rfl; have hcz9_2 : w6.cell? ⟨gb190, 2, none⟩ = some (.int .i64 a0_2) := (blk_cell BK190.out 2).trans rfl; have hcz9_3 : w6.cell? ⟨gb190, 3, none⟩ = some (.bool a0_3) := (blk_cell BK190.out 3).trans rfl; have hfz9_0 := blk_frozen BK190.out 0; have hfz9_1 := blk_frozen BK190.out 1; have hfz9_2 := blk_frozen BK190.out 2; have hfz9_3 := blk_frozen BK190.out 3) | ((with_reducible refine gate_callee (f := 25) rfl ?_); refine goesL_ (some 6) rfl rfl Try.func25 (by kernel_rfl) rfl #[.slice A0_0 l0_0.length c0_0] rfl (by (try simp only [List.map_toArray, List.map_cons, List.map_nil]); first | done | rfl | (simp only [List.length_drop, List.length_take]; rfl)) ?_; (with_reducible refine (laws_toByteS.calls k _ _ l0_0 t193 _ ?side1 ?side2 A2.out).mono ?_); (case side1 => repeat (first | exact (Kd.C_below HR0_0.out HB.out) | (with_reducible refine Kd.C_alloc ?_ _) | (with_reducible refine Kd.C_drewN ?_ _) | (with_reducible refine Kd.C_drew ?_))); (case side2 => exact HC0_0.out); rintro e w10 ⟨v194, rfl, ho0, hb⟩; refine ⟨_, rfl, ?_⟩; have n0_ := Aside0.mk (Kd.R_lower ho0 (below_size (by repeat (first | (with_reducible first | exact HB.out | apply below_alloc | apply pw_below_drewN | apply below_drew1 | refine below_set ?_ GE190.out | refine below_set ?_ GE191.out | refine below_set ?_ GE192.out) | exact HB.out)))); have n1_ := Aside0.mk (blk_below (g := gb190) (o := .cells #[.slice A0_0 l0_0.length c0_0, .slice A0_1 l0_1.length c0_1, .int .i64 a0_2, .bool a0_3] 32 (0, 0)) (by (with_reducible repeat (first | refine blk_drewN ?_ _ | refine blk_drew ?_ | refine blk_alloc ?_ _)); exact BK190.out) hb); have n2_ := Aside0.mk (blk_below (g := gb191) (o := .cells #[.slice none 0 0, .slice none 0 0, .int .i64 0, .bool false] 25 (0, 0)) (by (with_reducible repeat (first | refine blk_drewN ?_ _ | refine blk_drew ?_ | refine blk_alloc ?_ _)); exact BK191.out) hb); have n3_ := Aside0.mk (blk_below (g := gb192) (o := .cells #[.slice none 0 0, .slice none 0 0, .int .i64 0, .bool false] 25 (0, 0)) (by (with_reducible repeat (first | refine blk_drewN ?_ _ | refine blk_drew ?_ | refine blk_alloc ?_ _)); exact BK192.out) hb); have n4_ := Aside0.mk (below_step (by repeat (first | (with_reducible first | exact HB.out | apply below_alloc | apply pw_below_drewN | apply below_drew1 | refine below_set ?_ GE190.out | refine below_set ?_ GE191.out | refine below_set ?_ GE192.out) | exact HB.out)) hb); clear BK190; clear BK191; clear BK192; clear HB; have HO195 := n0_; have BK190 := n1_; have BK191 := n2_; have BK192 := n3_; have HB := n4_; clear n0_ n1_ n2_ n3_ n4_; (try clear hb); (try clear hb2); (try clear hk); (try clear hi); (try clear ho0); obtain ⟨Ao11, co11, eo11⟩ := Kd.R_slice HO195.out; subst eo11; have hnb12 := NB192_191.out; have hnc12 := NB191_192.out; have hcz13_0 : w10.cell? ⟨gb192, 0, none⟩ = some (.slice none 0 0) := (blk_cell BK192.out 0).trans rfl; have hcz13_1 : w10.cell? ⟨gb192, 1, none⟩ = some (.slice none 0 0) := (blk_cell BK192.out 1).trans rfl; have hcz13_2 : w10.cell? ⟨gb192, 2, none⟩ = some (.int .i64 0) := (blk_cell BK192.out 2).trans rfl; have hcz13_3 : w10.cell? ⟨gb192, 3, none⟩ = some (.bool false) := (blk_cell BK192.out 3).trans rfl; have hfz13_0 := blk_frozen BK192.out 0; have hfz13_1 := blk_frozen BK192.out 1; have hfz13_2 := blk_frozen BK192.out 2; have hfz13_3 := blk_frozen BK192.out 3; have hcz14_0 : w10.cell? ⟨gb190, 0, none⟩ = some (.slice A0_0 l0_0.length c0_0) := (blk_cell BK190.out 0).trans rfl; have hcz14_1 : w10.cell? ⟨gb190, 1, none⟩ = some (.slice A0_1 l0_1.length c0_1) := (blk_cell BK190.out 1).trans rfl; have hcz14_2 : w10.cell? ⟨gb190, 2, none⟩ = some (.int .i64 a0_2) := (blk_cell BK190.out 2).trans rfl; have hcz14_3 : w10.cell? ⟨gb190, 3, none⟩ = some (.bool a0_3) := (blk_cell BK190.out 3).trans rfl; have hfz14_0 := blk_frozen BK190.out 0; have hfz14_1 := blk_frozen BK190.out 1; have hfz14_2 := blk_frozen BK190.out 2; have hfz14_3 := blk_frozen BK190.out 3) | ((with_reducible refine gate_callee (f := 43) rfl ?_); refine goesL_ (some 10) rfl rfl Try.func43 (by kernel_rfl) rfl #[.slice A0_1 l0_1.length c0_1] rfl (by (try simp only [List.map_toArray, List.map_cons, List.map_nil]); first | done | rfl | (simp only [List.length_drop, List.length_take]; rfl)) ?_; (with_reducible refine (laws_toPendS.calls k _ _ l0_1 t196 _ ?side1 ?side2 A3.out).mono ?_); (case side1 => exact Kd.C_below HR0_1.out (by repeat (first | (with_reducible first | exact HB.out | apply below_alloc | apply pw_below_drewN | apply below_drew1 | refine below_set ?_ GE190.out | refine below_set ?_ GE191.out | refine below_set ?_ GE192.out) | exact HB.out))); (case side2 => exact HC0_1.out); rintro e w15 ⟨v197, rfl, ho0, hb⟩; refine ⟨_, rfl, ?_⟩; have n0_ := Aside0.mk (Kd.R_below (by (with_reducible repeat (first | apply Kd.R_alloc | apply Kd.R_drewN | apply Kd.R_drew)); exact (Kd.R_mono (Kd.R_far (p := ⟨gb192, 0, none⟩) (Kd.R_types HO195.out BK192.out (by decide)) (fun _ hk => hk.2) (.slice Ao11 t193.length co11)) (fun _ h_ => h_.1))) hb); have n1_ := Aside0.mk (Kd.S_lower (Kd.S_new' ho0 (Kd.R_lt (by (with_reducible repeat (first | apply Kd.R_alloc | apply Kd.R_drewN | apply Kd.R_drew)); exact (Kd.R_mono (Kd.R_far (p := ⟨gb192, 0, none⟩) (Kd.R_types HO195.out BK192.out (by decide)) (fun _ hk => hk.2) (.slice Ao11 t193.length co11)) (fun _ h_ => h_.1))))) (below_size (by repeat (first | (with_reducible first | exact HB.out | apply below_alloc | apply pw_below_drewN | apply below_drew1 | refine below_set ?_ GE190.out | refine below_set ?_ GE191.out | refine below_set ?_ GE192.out) | exact HB.out)))); have n2_ := Aside0.mk (blk_below (g := gb190) (o := .cells #[.slice A0_0 l0_0.length c0_0, .slice A0_1 l0_1.length c0_1, .int .i64 a0_2, .bool a0_3] 32 (0, 0)) (by (with_reducible repeat (first | refine blk_drewN ?_ _ | refine blk_drew ?_ | refine blk_alloc ?_ _)); refine blk_far ?_ NB190_192.out _; (with_reducible repeat (first | refine blk_drewN ?_ _ | refine blk_drew ?_ | refine blk_alloc ?_ _)); exact BK190.out) hb); have n3_ := Aside0.mk (blk_below (g := gb191) (o := .cells #[.slice none 0 0, .slice none 0 0, .int .i64 0, .bool false] 25 (0, 0)) (by (with_reducible repeat (first | refine blk_drewN ?_ _ | refine blk_drew ?_ | refine blk_alloc ?_ _)); refine blk_far ?_ NB191_192.out _; (with_reducible repeat (first | refine blk_drewN ?_ _ | refine blk_drew ?_ | refine blk_alloc ?_ _)); exact BK191.out) hb); have n4_ := Aside0.mk (blk_below (g := gb192) (o := .cells #[.slice Ao11 t193.length co11, .slice none 0 0, .int .i64 0, .bool false] 25 (0, 0)) (by (with_reducible repeat (first | refine blk_drewN ?_ _ | refine blk_drew ?_ | refine blk_alloc ?_ _)); refine blk_put (cs := #[.slice none 0 0, .slice none 0 0, .int .i64 0, .bool false]) ?_ 0 _ rfl; (with_reducible repeat (first | refine blk_drewN ?_ _ | refine blk_drew ?_ | refine blk_alloc ?_ _)); exact BK192.out) hb); have n5_ := Aside0.mk (below_step (by repeat (first | (with_reducible first | exact HB.out | apply below_alloc | apply pw_below_drewN | apply below_drew1 | refine below_set ?_ GE190.out | refine below_set ?_ GE191.out | refine below_set ?_ GE192.out) | exact HB.out)) hb); clear HO195; clear BK190; clear BK191; clear BK192; clear HB; have HO195 := n0_; have HO198 := n1_; have BK190 := n2_; have BK191 := n3_; have BK192 := n4_; have HB := n5_; clear n0_ n1_ n2_ n3_ n4_ n5_; (try clear hb); (try clear hb2); (try clear hk); (try clear hi); (try clear ho0); obtain ⟨Ao16, co16, eo16⟩ := Kd.S_slice HO198.out; subst eo16; have hcz17_0 : w15.cell? ⟨gb192, 0, none⟩ = some (.slice Ao11 t193.length co11) := (blk_cell BK192.out 0).trans rfl; have hcz17_1 : w15.cell? ⟨gb192, 1, none⟩ = some (.slice none 0 0) := (blk_cell BK192.out 1).trans rfl; have hcz17_2 : w15.cell? ⟨gb192, 2, none⟩ = some (.int .i64 0) := (blk_cell BK192.out 2).trans rfl; have hcz17_3 : w15.cell? ⟨gb192, 3, none⟩ = some (.bool false) := (blk_cell BK192.out 3).trans rfl; have hfz17_0 := blk_frozen BK192.out 0; have hfz17_1 := blk_frozen BK192.out 1; have hfz17_2 := blk_frozen BK192.out 2; have hfz17_3 := blk_frozen BK192.out 3; have hcz18_0 : w15.cell? ⟨gb190, 0, none⟩ = some (.slice A0_0 l0_0.length c0_0) := (blk_cell BK190.out 0).trans rfl; have hcz18_1 : w15.cell? ⟨gb190, 1, none⟩ = some (.slice A0_1 l0_1.length c0_1) := (blk_cell BK190.out 1).trans rfl; have hcz18_2 : w15.cell? ⟨gb190, 2, none⟩ = some (.int .i64 a0_2) := (blk_cell BK190.out 2).trans rfl; have hcz18_3 : w15.cell? ⟨gb190, 3, none⟩ = some (.bool a0_3) := (blk_cell BK190.out 3).trans rfl; have hfz18_0 := blk_frozen BK190.out 0; have hfz18_1 := blk_frozen BK190.out 1; have hfz18_2 := blk_frozen BK190.out 2; have hfz18_3 := blk_frozen BK190.out 3; have hcz19_0 : w15.cell? ⟨gb191, 0, none⟩ = some (.slice none 0 0) := (blk_cell BK191.out 0).trans rfl; have hcz19_1 : w15.cell? ⟨gb191, 1, none⟩ = some (.slice none 0 0) := (blk_cell BK191.out 1).trans rfl; have hcz19_2 : w15.cell? ⟨gb191, 2, none⟩ = some (.int .i64 0) := (blk_cell BK191.out 2).trans rfl; have hcz19_3 : w15.cell? ⟨gb191, 3, none⟩ = some (.bool false) := (blk_cell BK191.out 3).trans rfl; have hfz19_0 := blk_frozen BK191.out 0; have hfz19_1 := blk_frozen BK191.out 1; have hfz19_2 := blk_frozen BK191.out 2; have hfz19_3 := blk_frozen BK191.out 3))
  refine bodyPost_ret (results_cell_row rfl _ _ gb191 25 #[.slice Ao11 t193.length co11, .slice Ao16 t196.length co16, .int .i64 a0_2, .bool a0_3] (0, 0) _ rfl (by (with_reducible repeat (first | refine blk_drewN ?_ _ | refine blk_drew ?_ | refine blk_alloc ?_ _)); refine blk_put (cs := #[.slice Ao11 t193.length co11, .slice Ao16 t196.length co16, .int .i64 a0_2, .bool false]) ?_ 3 _ rfl; (with_reducible repeat (first | refine blk_drewN ?_ _ | refine blk_drew ?_ | refine blk_alloc ?_ _)); refine blk_put (cs := #[.slice Ao11 t193.length co11, .slice Ao16 t196.length co16, .int .i64 0, .bool false]) ?_ 2 _ rfl; (with_reducible repeat (first | refine blk_drewN ?_ _ | refine blk_drew ?_ | refine blk_alloc ?_ _)); refine blk_put (cs := #[.slice Ao11 t193.length co11, .slice none 0 0, .int .i64 0, .bool false]) ?_ 1 _ rfl; (with_reducible repeat (first | refine blk_drewN ?_ _ | refine blk_drew ?_ | refine blk_alloc ?_ _)); refine blk_put (cs := #[.slice none 0 0, .slice none 0 0, .int .i64 0, .bool false]) ?_ 0 _ rfl; (with_reducible repeat (first | refine blk_drewN ?_ _ | refine blk_drew ?_ | refine blk_alloc ?_ _)); refine blk_far ?_ NB191_192.out _; (with_reducible repeat (first | refine blk_drewN ?_ _ | refine blk_drew ?_ | refine blk_alloc ?_ _)); refine blk_far ?_ NB191_192.out _; (with_reducible repeat (first | refine blk_drewN ?_ _ | refine blk_drew ?_ | refine blk_alloc ?_ _)); refine blk_far ?_ NB191_192.out _; (with_reducible repeat (first | refine blk_drewN ?_ _ | refine blk_drew ?_ | refine blk_alloc ?_ _)); exact BK191.out) Try.underlying25 rfl (by kernel_rfl)) rfl ?_
  exact ⟨_, _, by first | rfl | (simp [errW_none, errW_some] <;> rfl) | (simp [*, errW_none, errW_some] <;> rfl), by (with_reducible repeat (first | apply Kd.R_alloc | apply Kd.R_drewN | apply Kd.R_drew)); exact Kd.R_mono (Kd.R_far (p := ⟨gb191, 3, none⟩) (Kd.R_far (p := ⟨gb191, 2, none⟩) (Kd.R_far (p := ⟨gb191, 1, none⟩) (Kd.R_far (p := ⟨gb191, 0, none⟩) (Kd.R_far (p := ⟨gb192, 3, none⟩) (Kd.R_far (p := ⟨gb192, 2, none⟩) (Kd.R_far (p := ⟨gb192, 1, none⟩) (Kd.R_types (Kd.R_types HO195.out BK192.out (by decide)) BK191.out (by decide)) (fun _ hk => hk.1.2) (.slice Ao16 t196.length co16)) (fun _ hk => hk.1.2) (.int .i64 a0_2)) (fun _ hk => hk.1.2) (.bool a0_3)) (fun _ hk => hk.2) (.slice Ao11 t193.length co11)) (fun _ hk => hk.2) (.slice Ao16 t196.length co16)) (fun _ hk => hk.2) (.int .i64 a0_2)) (fun _ hk => hk.2) (.bool a0_3)) (fun _ hk => trivial), by (with_reducible repeat (first | apply Kd.S_alloc | apply Kd.S_drewN | apply Kd.S_drew)); exact Kd.S_mono (Kd.S_far (p := ⟨gb191, 3, none⟩) (Kd.S_far (p := ⟨gb191, 2, none⟩) (Kd.S_far (p := ⟨gb191, 1, none⟩) (Kd.S_far (p := ⟨gb191, 0, none⟩) (Kd.S_far (p := ⟨gb192, 3, none⟩) (Kd.S_far (p := ⟨gb192, 2, none⟩) (Kd.S_far (p := ⟨gb192, 1, none⟩) (Kd.S_types (Kd.S_types HO198.out BK192.out (by decide)) BK191.out (by decide)) (fun _ hk => hk.1.2) (.slice Ao16 t196.length co16)) (fun _ hk => hk.1.2) (.int .i64 a0_2)) (fun _ hk => hk.1.2) (.bool a0_3)) (fun _ hk => hk.2) (.slice Ao11 t193.length co11)) (fun _ hk => hk.2) (.slice Ao16 t196.length co16)) (fun _ hk => hk.2) (.int .i64 a0_2)) (fun _ hk => hk.2) (.bool a0_3)) (fun _ hk => hk.1.1.2), by repeat (first | (with_reducible first | exact HB.out | apply below_alloc | apply pw_below_drewN | apply below_drew1 | refine below_set ?_ GE190.out | refine below_set ?_ GE191.out | refine below_set ?_ GE192.out) | exact HB.out)⟩

/-! ### L_base: a text by hand -/
-- words of this session's own: stores into a variable's block that is elder than what is held
theorem R_farB {α : Type} {d : Kd α} {e base : Nat} {w : World} {ok : Nat → Prop} {v : Value} {xs : List α} {b : Nat} (h : d.R e w base ok v xs) (hb : b < base) (j : Nat) (u : Value) : d.R e (w.setCell ⟨b, j, none⟩ u) base ok v xs :=
  Kd.R_mono (Kd.R_far (p := ⟨b, j, none⟩) (Kd.R_bound h) (fun k hk => show k ≠ b by have := hk.2.1; omega) u) (fun _ hk => hk.1)
theorem S_farB {α : Type} {d : Kd α} {e base : Nat} {w : World} {ok : Nat → Prop} {v : Value} {xs : List α} {b : Nat} (h : Kd.S d e w base ok v xs) (hb : b < base) (j : Nat) (u : Value) : Kd.S d e (w.setCell ⟨b, j, none⟩ u) base ok v xs :=
  Kd.S_mono (Kd.S_far (p := ⟨b, j, none⟩) (Kd.S_bound h) (fun k hk => show k ≠ b by have := hk.2.1; omega) u) (fun _ hk => hk.1)
theorem below_setB {B b : Nat} {w W : World} (h : Below B w W) (hb : B ≤ b) (j : Nat) (u : Value) : Below B w (W.setCell ⟨b, j, none⟩ u) := h.setCell hb u
theorem below_allocB {B : Nat} {w W : World} (h : Below B w W) (hB : B ≤ W.heap.size) (o : Obj) : Below B w (W.alloc o) := h.alloc hB o
theorem blk_newB {w W : World} {o : Obj} (hb : Below (w.alloc o).heap.size (w.alloc o) W) : W.heap[w.heap.size]? = some o := blk_below (blk_new w o) hb
theorem blk_two {w W : World} {a b : Obj} (hb : Below ((w.alloc a).alloc b).heap.size ((w.alloc a).alloc b) W) : W.heap[w.heap.size + 1]? = some b := by
  have h := blk_below (blk_new (w.alloc a) b) hb
  have e : (w.alloc a).heap.size = w.heap.size + 1 := by simp
  rwa [e] at h
theorem blk_cells4 {w : World} {g t : Nat} {a b c d : Value} (h : w.heap[g]? = some (.cells #[a, b, c, d] t (0, 0))) : w.cell? ⟨g, 0, none⟩ = some a ∧ w.cell? ⟨g, 1, none⟩ = some b ∧ w.cell? ⟨g, 2, none⟩ = some c ∧ w.cell? ⟨g, 3, none⟩ = some d ∧
    w.frozen? ⟨g, 0, none⟩ = false ∧ w.frozen? ⟨g, 1, none⟩ = false ∧ w.frozen? ⟨g, 2, none⟩ = false ∧ w.frozen? ⟨g, 3, none⟩ = false :=
  ⟨(blk_cell h 0).trans rfl, (blk_cell h 1).trans rfl, (blk_cell h 2).trans rfl, (blk_cell h 3).trans rfl, blk_frozen h 0, blk_frozen h 1, blk_frozen h 2, blk_frozen h 3⟩
theorem blk_set4 {w : World} {g t : Nat} {a b c d a' b' c' d' : Value} (h : w.heap[g]? = some (.cells #[a, b, c, d] t (0, 0))) :
    ((((w.setCell ⟨g, 0, none⟩ a').setCell ⟨g, 1, none⟩ b').setCell ⟨g, 2, none⟩ c').setCell ⟨g, 3, none⟩ d').heap[g]? = some (.cells #[a', b', c', d'] t (0, 0)) :=
  blk_put (blk_put (blk_put (blk_put h 0 a' rfl) 1 b' rfl) 2 c' rfl) 3 d' rfl
theorem R_iv {α : Type} {d : Kd α} {e b : Nat} {w : World} {ok : Nat → Prop} {v : Value} {xs : List α} (h : d.R e w b ok v xs) (B lo : Nat) (hB : B ≤ b) (hlo : lo ≤ b) : d.R e w B (fun k => (lo ≤ k ∧ k < w.heap.size) ∧ ok k) v xs :=
  Kd.R_mono (Kd.R_lower (Kd.R_bound h) hB) (fun k hk => ⟨⟨Nat.le_trans hlo hk.2.1, hk.2.2.1⟩, hk.1⟩)
theorem S_iv {α : Type} {d : Kd α} {e b : Nat} {w : World} {ok : Nat → Prop} {v : Value} {xs : List α} (h : Kd.S d e w b ok v xs) (B lo : Nat) (hB : B ≤ b) (hlo : lo ≤ b) : Kd.S d e w B (fun k => (lo ≤ k ∧ k < w.heap.size) ∧ ok k) v xs :=
  Kd.S_mono (Kd.S_lower (Kd.S_bound h) hB) (fun k hk => ⟨⟨Nat.le_trans hlo hk.2.1, hk.2.2.1⟩, hk.1⟩)
theorem drawn_below {w w' : World} (h : Drawn0 w w') : Below w.heap.size w w' := h.below

/-! ### L_eqByteS: a text by hand -/
-- needs laws_eqByteS.f
theorem eqByteS_loop (l : List Int) (hL : l.length ≤ 281474976710656) : ∀ (d i : Nat), i + d = l.length → Ev (fun k => laws_eqByteS.l0 k l l (i : Int)) true
  | 0, i, hd => Ev.step (fun k => by simp only [laws_eqByteS.l0]; rw [if_neg (by omega)]) (Ev.now _)
  | d + 1, i, hd => 
    Ev.step (fun k => by simp only [laws_eqByteS.l0]; rw [if_pos (by omega), if_pos (by omega), if_pos (by omega), if_true, show wrap64 ((i : Int) + 1) = ((i + 1 : Nat) : Int) by unfold wrap64; omega])
      (eqByteS_loop l hL d (i + 1) (by omega))
theorem eqByteS_ev (l : List Int) (hL : l.length ≤ 281474976710656) : Ev (fun k => laws_eqByteS.f k l l) true :=
  Ev.congr (fun k => by unfold laws_eqByteS.f; rw [if_pos rfl]; rfl) (eqByteS_loop l hL l.length 0 (by omega))

/-! ### L_toByteS: a text by hand -/
-- needs laws_toByteS.f
theorem toByteS_loop (l : List Int) (hL : l.length ≤ 281474976710656) : ∀ (d i : Nat) (x : List Int), i + d = l.length → x.length = l.length → (∀ j, j < i → x[j]? = l[j]?) →
    Ev (fun k => laws_toByteS.l0 k l x (i : Int)) l
  | 0, i, x, hd, hx, hj => by
    obtain rfl : x = l := List.ext_getElem? fun j => by
      by_cases h : j < i
      · exact hj j h
      · rw [List.getElem?_eq_none (by omega), List.getElem?_eq_none (by omega)]
    exact Ev.step (fun k => by simp only [laws_toByteS.l0]; rw [if_neg (by omega)]) (Ev.now _)
  | d + 1, i, x, hd, hx, hj => by
    refine Ev.step (fun k => by simp only [laws_toByteS.l0]; rw [if_pos (by omega), if_pos (by omega), if_pos (by omega), Int.toNat_natCast, show wrap64 ((i : Int) + 1) = ((i + 1 : Nat) : Int) by unfold wrap64; omega])
      (toByteS_loop l hL d (i + 1) (x.set i (rd l i)) (by omega) (by simpa using hx) fun j hlt => ?_)
    rcases Nat.lt_or_ge j i with h | h
    · rw [List.getElem?_set_ne (by omega)]; exact hj j h
    · obtain rfl : j = i := by omega
      rw [List.getElem?_set_self (by omega)]
      simp [rd, List.getD_eq_getElem?_getD, List.getElem?_eq_getElem (show j < l.length by omega)]
theorem toByteS_ev (l : List Int) (hL : l.length ≤ 281474976710656) : Ev (fun k => laws_toByteS.f k l) l := by
  refine Ev.congr (fun k => ?_) (toByteS_loop l hL l.length 0 (List.replicate l.length 0) (by omega) (by simp) (fun j h => by omega))
  unfold laws_toByteS.f
  rw [if_pos (by omega), Int.toNat_natCast, if_pos hL]
  rfl

/-! ### L_evDisk: a text by hand -/
-- needs laws_szPendS.f laws_toPendS.f laws_eqPendS.f
def cvPend (l : List S78) : List S60 := l.map fun x => ⟨x.f0, x.f1⟩
def okPendS (l : List S60) : Prop := l.length ≤ 1048576 ∧ ∀ x ∈ l, x.f1.length ≤ 1048576
theorem szByteS_at (l : List Int) (a : Int) (h0 : 0 ≤ a) (h1 : a ≤ 1048576) (hL : l.length ≤ maxLen) : ∃ r, laws_szByteS.f l a = some r ∧ r ≤ a ∧ (0 ≤ r → l.length ≤ 1048576) := by
  unfold maxLen at hL
  have e : wrap64 (a - (l.length : Int)) = a - l.length := by unfold wrap64; omega
  unfold laws_szByteS.f
  rw [e]
  by_cases c : a - (l.length : Int) < 0
  · exact ⟨-1, by rw [if_pos c], by omega, by omega⟩
  · exact ⟨_, by rw [if_neg c], by omega, by omega⟩
theorem szPend_at (b : Int) (l : List Int) (a : Int) (h0 : 0 ≤ a) (h1 : a ≤ 1048576) (hL : l.length ≤ maxLen) : ∃ r, laws_szPend.f b l a = some r ∧ r ≤ a ∧ (0 ≤ r → l.length ≤ 1048576) := by
  obtain ⟨r, hr, h2, h3⟩ := szByteS_at l a h0 h1 hL
  unfold laws_szPend.f
  rw [hr]
  by_cases c : r < 0
  · exact ⟨-1, by simp [c], by omega, by omega⟩
  · exact ⟨r, by simp [c], h2, h3⟩
theorem szPendS_loop (l : List S78) (hL : l.length ≤ 1048576) (hF : ∀ x ∈ l, x.f1.length ≤ maxLen) : ∀ (d i : Nat) (a : Int), i + d = l.length → 0 ≤ a → a ≤ 1048576 → (∀ j, j < i → (l.getD j z78).f1.length ≤ 1048576) →
    ∃ r, Ev (fun k => laws_szPendS.l0 k l a (i : Int)) r ∧ r ≤ a ∧ (0 ≤ r → ∀ j, j < l.length → (l.getD j z78).f1.length ≤ 1048576)
  | 0, i, a, hd, h0, h1, hj => ⟨a, Ev.step (fun k => by simp only [laws_szPendS.l0]; rw [if_neg (by omega)]) (Ev.now _), by omega, fun _ j hlt => hj j (by omega)⟩
  | d + 1, i, a, hd, h0, h1, hj => by
    have hm : l.getD i z78 ∈ l := by
      rw [List.getD_eq_getElem?_getD, List.getElem?_eq_getElem (show i < l.length by omega)]
      exact List.getElem_mem _
    obtain ⟨r, hr, h2, h3⟩ := szPend_at (l.getD i z78).f0 (l.getD i z78).f1 a h0 h1 (hF _ hm)
    have hr' : laws_szPend.f (rd_T78 l (i : Int)).f0 (rd_T78 l (i : Int)).f1 a = some r := by unfold rd_T78; rw [Int.toNat_natCast]; exact hr
    by_cases c : r < 0
    · exact ⟨-1, Ev.step (fun k => by simp only [laws_szPendS.l0]; rw [if_pos (by omega), if_pos (by omega), hr']; simp only [Option.bind_some]; rw [if_pos c]) (Ev.now _), by omega, by omega⟩
    · obtain ⟨r2, he, h4, h5⟩ := szPendS_loop l hL hF d (i + 1) r (by omega) (by omega) (by omega) (fun j hlt => by
        rcases Nat.lt_or_ge j i with h | h
        · exact hj j h
        · obtain rfl : j = i := by omega
          exact h3 (by omega))
      exact ⟨r2, Ev.step (fun k => by simp only [laws_szPendS.l0]; rw [if_pos (by omega), if_pos (by omega), hr']; simp only [Option.bind_some]; rw [if_neg c, show wrap64 ((i : Int) + 1) = ((i + 1 : Nat) : Int) by unfold wrap64; omega]) he, by omega, h5⟩
theorem szPendS_ev (l : List S78) (a : Int) (h0 : 0 ≤ a) (h1 : a ≤ 1048576) (hL : l.length ≤ maxLen) (hF : ∀ x ∈ l, x.f1.length ≤ maxLen) :
    ∃ r, Ev (fun k => laws_szPendS.f k l a) r ∧ r ≤ a ∧ (0 ≤ r → l.length ≤ 1048576 ∧ ∀ x ∈ l, x.f1.length ≤ 1048576) := by
  unfold maxLen at hL
  have e : wrap64 (a - (l.length : Int)) = a - l.length := by unfold wrap64; omega
  by_cases c : a - (l.length : Int) < 0
  · exact ⟨-1, Ev.congr (fun k => by unfold laws_szPendS.f; rw [e, if_pos c]) (Ev.now _), by omega, by omega⟩
  · obtain ⟨r, he, h2, h3⟩ := szPendS_loop l (by omega) hF l.length 0 (a - l.length) (by omega) (by omega) (by omega) (fun j h => by omega)
    refine ⟨r, Ev.congr (fun k => by unfold laws_szPendS.f; rw [e, if_neg c]; rfl) he, by omega, fun h => ⟨by omega, fun x hx => ?_⟩⟩
    obtain ⟨j, hj, rfl⟩ := List.getElem_of_mem hx
    have := h3 h j hj
    rwa [List.getD_eq_getElem?_getD, List.getElem?_eq_getElem hj] at this
theorem szDisk_ev (l0 : List Int) (l1 : List S78) (a2 : Int) (a3 : Bool) (hL : l0.length ≤ maxLen) (hL1 : l1.length ≤ maxLen) (hF : ∀ x ∈ l1, x.f1.length ≤ maxLen) :
    ∃ r, Ev (fun k => laws_szDisk.f k l0 l1 a2 a3 1048576) r ∧ (0 ≤ r → l0.length ≤ 1048576 ∧ okPendS (cvPend l1)) := by
  obtain ⟨r, hr, h2, h3⟩ := szByteS_at l0 1048576 (by omega) (by omega) hL
  by_cases c : r < 0
  · exact ⟨-1, Ev.congr (fun k => by unfold laws_szDisk.f; rw [hr]; simp only [Option.bind_some]; rw [if_pos c]) (Ev.now _), by omega⟩
  · obtain ⟨q, hq, h4, h5⟩ := szPendS_ev l1 r (by omega) (by omega) hL1 hF
    by_cases c2 : q < 0
    · exact ⟨-1, Ev.congr (fun k => by unfold laws_szDisk.f; rw [hr]; simp only [Option.bind_some]; rw [if_neg c]) (Ev.bind hq (Ev.congr (fun k => by rw [if_pos c2]) (Ev.now _))), by omega⟩
    · refine ⟨q, Ev.congr (fun k => by unfold laws_szDisk.f; rw [hr]; simp only [Option.bind_some]; rw [if_neg c]) (Ev.bind hq (Ev.congr (fun k => by rw [if_neg c2]) (Ev.now _))), fun h => ⟨h3 (by omega), ?_⟩⟩
      obtain ⟨h6, h7⟩ := h5 (by omega)
      refine ⟨by simpa [cvPend] using h6, fun x hx => ?_⟩
      obtain ⟨y, hy, rfl⟩ := List.mem_map.1 hx
      exact h7 y hy
theorem toPendS_loop (l : List S78) (hL : okPendS (cvPend l)) : ∀ (d i : Nat) (x : List S60), i + d = l.length → x.length = l.length → (∀ j, j < i → x[j]? = (cvPend l)[j]?) →
    Ev (fun k => laws_toPendS.l0 k l x (i : Int)) (cvPend l)
  | 0, i, x, hd, hx, hj => by
    obtain rfl : x = cvPend l := List.ext_getElem? fun j => by
      by_cases h : j < i
      · exact hj j h
      · rw [List.getElem?_eq_none (by omega), List.getElem?_eq_none (by simp [cvPend]; omega)]
    exact Ev.step (fun k => by simp only [laws_toPendS.l0]; rw [if_neg (by omega)]) (Ev.now _)
  | d + 1, i, x, hd, hx, hj => by
    have hl : l.length ≤ 1048576 := by have := hL.1; simpa [cvPend] using this
    have hm : l.getD i z78 ∈ l := by
      rw [List.getD_eq_getElem?_getD, List.getElem?_eq_getElem (show i < l.length by omega)]
      exact List.getElem_mem _
    have he : Ev (fun k => laws_toPend.f k (rd_T78 l (i : Int)).f0 (rd_T78 l (i : Int)).f1) ((rd_T78 l (i : Int)).f0, (rd_T78 l (i : Int)).f1) := by
      have h2 : (l.getD i z78).f1.length ≤ 1048576 := hL.2 _ (List.mem_map.2 ⟨_, hm, rfl⟩)
      unfold laws_toPend.f rd_T78
      rw [Int.toNat_natCast]
      exact Ev.bind (toByteS_ev _ (by omega)) (Ev.now _)
    refine Ev.step (fun k => by simp only [laws_toPendS.l0]; rw [if_pos (by omega), if_pos (by omega)]) (Ev.bind he ?_)
    refine Ev.congr (fun k => by rw [if_pos (by omega), Int.toNat_natCast, show wrap64 ((i : Int) + 1) = ((i + 1 : Nat) : Int) by unfold wrap64; omega])
      (toPendS_loop l hL d (i + 1) (x.set i ⟨(rd_T78 l (i : Int)).f0, (rd_T78 l (i : Int)).f1⟩) (by omega) (by simpa using hx) fun j hlt => ?_)
    rcases Nat.lt_or_ge j i with h | h
    · rw [List.getElem?_set_ne (by omega)]; exact hj j h
    · obtain rfl : j = i := by omega
      rw [List.getElem?_set_self (by omega)]
      simp [rd_T78, cvPend, List.getD_eq_getElem?_getD, List.getElem?_eq_getElem (show j < l.length by omega)]
theorem toPendS_ev (l : List S78) (hL : okPendS (cvPend l)) : Ev (fun k => laws_toPendS.f k l) (cvPend l) := by
  have hl : l.length ≤ 1048576 := by have := hL.1; simpa [cvPend] using this
  refine Ev.congr (fun k => ?_) (toPendS_loop l hL l.length 0 (List.replicate l.length z60) (by omega) (by simp) (fun j h => by omega))
  unfold laws_toPendS.f
  rw [if_pos (by omega), Int.toNat_natCast, if_pos (by omega)]
  rfl
theorem toDisk_ev (l0 : List Int) (l1 : List S78) (a2 : Int) (a3 : Bool) (h0 : l0.length ≤ 1048576) (h1 : okPendS (cvPend l1)) : Ev (fun k => laws_toDisk.f k l0 l1 a2 a3) (l0, cvPend l1, a2, a3) :=
  Ev.bind (toByteS_ev l0 (by omega)) (Ev.bind (toPendS_ev l1 h1) (Ev.now _))
theorem eqPend_ev (a : Int) (l : List Int) (h : l.length ≤ 281474976710656) : Ev (fun k => laws_eqPend.f k a l a l) true :=
  Ev.congr (fun k => by unfold laws_eqPend.f; rw [if_pos rfl]) (Ev.bind (eqByteS_ev l h) (Ev.congr (fun k => by rw [if_pos rfl]) (Ev.now _)))
theorem eqPendS_loop (l : List S60) (hL : okPendS l) : ∀ (d i : Nat), i + d = l.length → Ev (fun k => laws_eqPendS.l0 k l l (i : Int)) true
  | 0, i, hd => Ev.step (fun k => by simp only [laws_eqPendS.l0]; rw [if_neg (by omega)]) (Ev.now _)
  | d + 1, i, hd => by
    have hl := hL.1
    have hm : rd_T60 l (i : Int) ∈ l := by
      unfold rd_T60
      rw [Int.toNat_natCast, List.getD_eq_getElem?_getD, List.getElem?_eq_getElem (show i < l.length by omega)]
      exact List.getElem_mem _
    exact Ev.step (fun k => by simp only [laws_eqPendS.l0]; rw [if_pos (by omega), if_pos (by omega), if_pos (by omega)])
      (Ev.bind (eqPend_ev _ _ (by have := hL.2 _ hm; omega)) (Ev.congr (fun k => by rw [if_pos rfl, show wrap64 ((i : Int) + 1) = ((i + 1 : Nat) : Int) by unfold wrap64; omega]) (eqPendS_loop l hL d (i + 1) (by omega))))
theorem eqPendS_ev (l : List S60) (hL : okPendS l) : Ev (fun k => laws_eqPendS.f k l l) true :=
  Ev.congr (fun k => by unfold laws_eqPendS.f; rw [if_pos rfl]; rfl) (eqPendS_loop l hL l.length 0 (by omega))
theorem eqDisk_ev (l0 : List Int) (l1 : List S60) (a2 : Int) (a3 : Bool) (h0 : l0.length ≤ 1048576) (h1 : okPendS l1) : Ev (fun k => laws_eqDisk.f k l0 l1 a2 a3 l0 l1 a2 a3) true := by
  unfold laws_eqDisk.f
  refine Ev.bind (eqByteS_ev l0 (by omega)) (Ev.congr (fun k => by rw [if_pos rfl]) (Ev.bind (eqPendS_ev l1 h1) (Ev.congr (fun k => by rw [if_pos rfl, if_pos rfl, bne_self_eq_false, if_neg (by decide)]) (Ev.now _))))

/-! ### L_markBytes: a text by hand -/
-- needs laws_markByteS.f laws_heldByteS.f
theorem rd_mid (pre : List Int) (x : Int) (rest : List Int) : rd (pre ++ x :: rest) (pre.length : Int) = x := by unfold rd; rw [Int.toNat_natCast, List.getD_eq_getElem?_getD, List.getElem?_append_right (Nat.le_refl _)]; simp
theorem set_mid {α : Type} (pre : List α) (x y : α) (rest : List α) : (pre ++ x :: rest).set (pre.length : Int).toNat y = (pre ++ [y]) ++ rest := by rw [Int.toNat_natCast, List.set_append_right _ _ (Nat.le_refl _)]; simp
def mkB : Int → List Int → List Int
  | _, [] => []
  | k, _ :: xs => k % 256 :: mkB (k + 1) xs
theorem mkB_len (k : Int) (l : List Int) : (mkB k l).length = l.length := by induction l generalizing k with
  | nil => rfl
  | cons x xs ih => simp [mkB, ih]
theorem markB_loop (rest : List Int) : ∀ (pre : List Int) (k : Int), 0 ≤ k → k + rest.length ≤ 4611686018427387904 → pre.length + rest.length ≤ 4611686018427387904 →
    Ev (fun K => laws_markByteS.l0 K (pre ++ rest) k (pre.length : Int)) (k + rest.length, pre ++ mkB k rest) := by
  induction rest with
  | nil => intro pre k _ _ _; exact Ev.step (fun K => by simp only [laws_markByteS.l0]; rw [if_neg (by simp)]) (by simpa [mkB] using Ev.now _)
  | cons x xs ih =>
    intro pre k h0 h1 h2
    simp only [List.length_cons] at h1 h2
    have ih' := ih (pre ++ [k % 256]) (k + 1) (by omega) (by omega) (by simp; omega)
    rw [show ((pre ++ [k % 256]).length : Int) = wrap64 ((pre.length : Int) + 1) by simp; unfold wrap64; omega] at ih'
    have e : (k + 1 + (xs.length : Int), pre ++ [k % 256] ++ mkB (k + 1) xs) = (k + ((x :: xs).length : Int), pre ++ mkB k (x :: xs)) := by simp [mkB]; omega
    rw [e] at ih'
    exact Ev.step (fun K => by simp only [laws_markByteS.l0]; rw [if_pos (by simp; omega), if_pos (by omega), set_mid, show wrap64 (k + 1) = k + 1 by unfold wrap64; omega]) ih'
theorem markByteS_ev (l : List Int) (k : Int) (h0 : 0 ≤ k) (h1 : k + l.length ≤ 4611686018427387904) : Ev (fun K => laws_markByteS.f K l k) (k + l.length, mkB k l) :=
  markB_loop l [] k h0 h1 (by simp; omega)
theorem heldB_loop (rest : List Int) : ∀ (pre : List Int) (k : Int), 0 ≤ k → k + rest.length ≤ 4611686018427387904 → pre.length + rest.length ≤ 4611686018427387904 →
    Ev (fun K => laws_heldByteS.l0 K (pre ++ mkB k rest) k (pre.length : Int)) (k + rest.length) := by
  induction rest with
  | nil => intro pre k _ _ _; exact Ev.step (fun K => by simp only [laws_heldByteS.l0]; rw [if_neg (by simp [mkB])]) (by simpa using Ev.now _)
  | cons x xs ih =>
    intro pre k h0 h1 h2
    simp only [List.length_cons] at h1 h2
    have ih' := ih (pre ++ [k % 256]) (k + 1) (by omega) (by omega) (by simp; omega)
    rw [show ((pre ++ [k % 256]).length : Int) = wrap64 ((pre.length : Int) + 1) by simp; unfold wrap64; omega, List.append_assoc] at ih'
    have e : (k + 1 + (xs.length : Int)) = k + ((x :: xs).length : Int) := by simp; omega
    rw [e] at ih'
    rw [show mkB k (x :: xs) = k % 256 :: mkB (k + 1) xs from rfl]
    exact Ev.step (fun K => by simp only [laws_heldByteS.l0]; rw [if_pos (by simp [mkB_len]; omega), rd_mid, if_pos rfl, show wrap64 (k + 1) = k + 1 by unfold wrap64; omega]; rfl) ih'
theorem heldByteS_ev (l : List Int) (k : Int) (h0 : 0 ≤ k) (h1 : k + l.length ≤ 4611686018427387904) : Ev (fun K => laws_heldByteS.f K (mkB k l) k) (k + l.length) :=
  heldB_loop l [] k h0 h1 (by simp; omega)

/-! ### laws_markPendS: a text by hand -/
-- needs laws_markByteS.f
def laws_markPendS.l0 : Nat → List (S60) → Int → Int → Option (Int × List (S60))
  | 0, _, _, _ => none
  | k + 1, x0, x1, x5 => if x5 < (x0.length : Int) then (if 0 ≤ x5 then ((laws_markByteS.f k (rd_T60 x0 x5).f1 (wrap64 (x1 + 1))).bind fun b => laws_markPendS.l0 k (x0.set (x5 : Int).toNat (⟨x1, b.2⟩ : S60)) b.1 (wrap64 (x5 + 1))) else none) else some (x1, x0)
def laws_markPendS.f (k : Nat) (l0 : List (S60)) (a1 : Int) : Option (Int × List (S60)) := laws_markPendS.l0 k l0 a1 0
theorem pend_inner {W : World} {base g n cap : Nat} {ok : Nat → Prop} {xs : List S60} (h : Kd.S k60 60 W base ok (.slice (some ⟨g, 0, none⟩) n cap) xs) (i : Int) (h0 : 0 ≤ i) (h1 : i < xs.length) :
    ∃ (vd : Value) (oki : Nat → Prop), W.cell? ⟨g, i.toNat * 2 + 1, none⟩ = some vd ∧ Kd.R (Kd.int .u8) 5 W base oki vd (rd_T60 xs i).f1 ∧ (∀ k, oki k → ok k ∧ k ≠ g) ∧
      ∀ (W' : World) (l' : List Int) (ok' : Nat → Prop), (∀ k, k < W.heap.size → ¬ (some k = vd.ownBlock) → W'.heap[k]? = W.heap[k]?) → Kd.R (Kd.int .u8) 5 W' base ok' vd l' →
        Kd.S k60 60 W' base ok (.slice (some ⟨g, 0, none⟩) n cap) (xs.set i.toNat ⟨(rd_T60 xs i).f0, l'⟩) := by
  have hn := (Kd.S_reads' h).1
  obtain ⟨oki, c, hcl, hM, hcc, _, hoki, hH⟩ := Kd.S_elem h z60 i h0 (by omega)
  obtain ⟨vd, rfl, gd⟩ := k60_openM hM
  refine ⟨vd, oki, hcc 1 _ rfl, gd, hoki, fun W' l' ok' hk hR => ?_⟩
  have hH' := Kd.H_step hH (w1 := W') (fun k _ hn hlt => hk k hlt (fun he => hn (gd.1 k he.symm)))
  exact Kd.H_back hH' (k60_mkM W' base oki ⟨(rd_T60 xs i).f0, l'⟩ (Kd.R_reok rfl hR (fun k hk => gd.1 k hk))) (fun _ hk => hk)
theorem rdset {xs : List S60} {i : Int} {x : S60} (h0 : 0 ≤ i) (h1 : i < xs.length) : rd_T60 (xs.set i.toNat x) i = x := by
  unfold rd_T60
  rw [List.getD_eq_getElem?_getD, List.getElem?_set_self (by omega)]
  rfl
set_option maxHeartbeats 8000000 in
set_option maxRecDepth 100000 in
theorem laws_markPendS.calls (k : Nat) (P0_ : Nat → Prop) (u9000_ : Value) (l0 : List (S60)) (a1 : Int) (r1 : Int) (r2 : List (S60)) (w0 w : World) (hB : Below w0.heap.size w0 w) (ho0 : Kd.S k60 60 w w0.heap.size P0_ u9000_ l0) (h : laws_markPendS.f k l0 a1 = some (r1, r2)) :
    Calls Try.prog 38 #[u9000_, .int .i64 a1] w fun e w' => e = .returned (.int .i64 r1) ∧ Kd.S k60 60 w' w0.heap.size (fun k_ => (P0_ k_ ∨ w.heap.size ≤ k_)) u9000_ r2 ∧ Below w0.heap.size w0 w' ∧ Kept w w' (fun k_ => P0_ k_) := by
  have HO0 := Aside0.mk (show Kd.S k60 60 w w0.heap.size (fun k_ => (P0_ k_ ∨ w.heap.size ≤ k_)) u9000_ l0 from Kd.S_mono ho0 (fun k_ hk => (.inl hk)))
  have HK := Aside0.mk (Kept.refl w (fun k_ => P0_ k_))
  have HW0 := Aside0.mk hB.size
  have HB := Aside0.mk hB
  clear hB
  have H : (laws_markPendS.l0 k l0 a1 0) = some (r1, r2) := h
  clear h
  have H' := Aside0.mk H
  clear H
  go_enter Try.func38, Try.ntmps38
  go_wp2
  go_loopg [1, 5] k (fun kq v1 v5 w' => ∃ (x0_1 : List (S60)) (x1_1 : Int) (x5_1 : Int), v1 = .int .i64 x1_1 ∧ v5 = .int .i64 x5_1 ∧ Aside0 (laws_markPendS.l0 kq x0_1 x1_1 x5_1 = some (r1, r2)) ∧ Aside0 (kq ≤ k) ∧ Aside0 (Kd.S k60 60 w' w0.heap.size (fun k_ => (P0_ k_ ∨ w.heap.size ≤ k_)) u9000_ x0_1) ∧ Aside0 (Kept w w' (fun k_ => P0_ k_)) ∧ Aside0 (Below w0.heap.size w0 w'))
  case atStart => exact ⟨(l0), (a1), (0), (by first | rfl | (simp; done) | (simp [*]; done)), (by first | rfl | (simp; done) | (simp [*]; done)), H', ⟨Nat.le_refl _⟩, ⟨by (with_reducible repeat (first | apply Kd.S_alloc | apply Kd.S_drewN | apply Kd.S_drew)); exact HO0.out⟩, ⟨by repeat (first | (with_reducible first | exact HK.out | apply Kept.alloc | apply Kept.drewN | apply Kept.drew) | exact HK.out)⟩, ⟨by repeat (first | (with_reducible first | exact HB.out | apply below_alloc | apply pw_below_drewN | apply below_drew1) | exact HB.out)⟩⟩
  case round =>
    clear H'
    try clear p2
    obtain ⟨x0_1, x1_1, x5_1, rfl, rfl, HA, HK1, HO_0, HK, HB⟩ := hrel
    cases gk with
    | zero => exact absurd HA.out (by simp [laws_markPendS.l0])
    | succ k1 =>
      have H := HA.out
      clear HA
      simp only [laws_markPendS.l0] at H
      by_cases c3 : x5_1 < (x0_1.length : Int)
      · rw [if_pos c3] at H
        have c3b0 : decide (x5_1 < (x0_1.length : Int)) = true := decide_eq_true c3
        clear c3
        by_cases c4 : 0 ≤ x5_1
        · rw [if_pos c4] at H
          have c4b0 : decide (0 ≤ x5_1) = true := decide_eq_true c4
          clear c4
          replace H := Option.bind_eq_some_iff.mp H
          obtain ⟨⟨b1, b2⟩, HM0, H⟩ := H
          replace H : laws_markPendS.l0 k1 (x0_1.set (x5_1 : Int).toNat (⟨x1_1, b2⟩ : S60)) b1 (wrap64 (x5_1 + 1)) = some (r1, r2) := H
          have HM := Aside0.mk HM0
          clear HM0
          obtain ⟨y128, hy128⟩ : ∃ y_ : List (S60), y_ = (x0_1.set (x5_1 : Int).toNat (⟨x1_1, (rd_T60 x0_1 x5_1).f1⟩ : S60)) := ⟨_, rfl⟩
          have Ny128 := Aside0.mk hy128
          clear hy128
          have H' := Aside0.mk H
          clear H
          obtain ⟨Ao6, co6, eo6⟩ := Kd.S_slice HO_0.out
          subst eo6
          have p5 : 0 ≤ (x5_1 : Int) := of_decide_eq_true (by first | (with_reducible assumption) | assumption)
          have q5 : (x5_1 : Int) < ((x0_1.length : Int) : Int) := of_decide_eq_true (by first | (with_reducible assumption) | assumption)
          obtain ⟨go5, co5, eo5, gb5, gl5, cl5, HG5⟩ := Kd.S_form HO_0.out (by omega)
          (first | cases eo5 | (injection eo5 with ea_ en_ ec_; (first | subst ea_ | (injection ea_ with ea_; subst ea_)); subst ec_; clear en_))
          have GB5 := Aside0.mk gb5
          have GG5 := Aside0.mk HG5
          clear gb5 gl5 HG5
          have HMgo5 := Aside0.mk (show (P0_ go5 ∨ w.heap.size ≤ go5) from ((Kd.S_R HO_0.out).1 _ rfl))
          obtain ⟨_, ce5, hcl5, hM5, hcc5, hfr5, _, _⟩ := Kd.S_elem HO_0.out z60 (x5_1 : Int) p5 q5
          obtain ⟨ve5_1, rfl, ge5_1⟩ := k60_openM hM5
          have hx5_0 : wr.cell? ⟨go5, (x5_1 : Int).toNat * 2, none⟩ = some (.int .i64 ((rd_T60 x0_1 x5_1).f0)) := hcc5 0 _ rfl
          have hx5_1 : wr.cell? ⟨go5, (x5_1 : Int).toNat * 2 + 1, none⟩ = some (ve5_1) := hcc5 1 _ rfl
          have hf5_0 : wr.frozen? ⟨go5, (x5_1 : Int).toNat * 2, none⟩ = false := hfr5 0
          have hf5_1 : wr.frozen? ⟨go5, (x5_1 : Int).toNat * 2 + 1, none⟩ = false := hfr5 1
          clear hcl5 hcc5 hfr5 hM5
          replace p5 := eq_true p5
          replace q5 := eq_true q5
          have HX7 := Aside0.mk (show Kd.S k60 60 wr w0.heap.size (fun k_ => ((fun k_ => (P0_ k_ ∨ w.heap.size ≤ k_))) k_ ∧ ¬ ((fun _ => False)) k_) (.slice (some ⟨go5, 0, none⟩) x0_1.length co6) x0_1 from (by (with_reducible repeat (first | apply Kd.S_alloc | apply Kd.S_drewN | apply Kd.S_drew)); exact Kd.S_mono HO_0.out (fun k_ hk => ⟨hk, fun e_ => e_⟩)))
          obtain ⟨oki7, ce7, hcl7, hM7, hcc7, hfr7, hoki7, hH7⟩ := Kd.S_elem HX7.out z60 (x5_1 : Int) (of_decide_eq_true (by first | (with_reducible assumption) | assumption)) (by have h_ : (x5_1 : Int) < ((x0_1.length : Int) : Int) := of_decide_eq_true (by first | (with_reducible assumption) | assumption); first | exact h_ | (have e_ := (Kd.S_reads' HO_0.out).1; omega) | simpa using h_)
          obtain ⟨ve7_1, rfl, ge7_1⟩ := k60_openM hM7
          have HP7 := Kd.S_seg hH7 (of_decide_eq_true (by first | (with_reducible assumption) | assumption)) (by have h_ : (x5_1 : Int) < ((x0_1.length : Int) : Int) := of_decide_eq_true (by first | (with_reducible assumption) | assumption); first | exact h_ | (have e_ := (Kd.S_reads' HO_0.out).1; omega) | simpa using h_) (seg := [.int .i64 x1_1]) (j := 0) (show 1 ≤ 2 from by decide) (x' := (⟨x1_1, (rd_T60 x0_1 x5_1).f1⟩ : S60)) (k60_mkM _ _ _ (⟨x1_1, (rd_T60 x0_1 x5_1).f1⟩ : S60) (Kd.R_mono ge7_1 (fun _ h_ => Or.inl h_))) (fun _ hk => hk) (fun k_ hk_ => hk_.elim)
          have hx7_0 := hcc7 0 _ rfl
          (try simp only [show (k60).sz = 2 from rfl, Nat.mul_one, Nat.add_zero] at hx7_0)
          have hf7_0 := hfr7 0
          (try simp only [show (k60).sz = 2 from rfl, Nat.mul_one, Nat.add_zero] at hf7_0)
          clear hcl7 hcc7 hfr7 hM7 hoki7 hH7
          go_wp2_with (first | ((with_reducible refine gate_store (t := 2) (p := 16) rfl ?_); refine store_event (t := 2) (p := 16) (v := ?vo_w8) (w1 := (wr.setCell ⟨go5, (x5_1 : Int).toNat * 2, none⟩ (.int .i64 x1_1))) ?hg ?ho ?hn ?hr ?_; (case ho => rfl); (case hg => rfl); (case hn => rfl); (case hr => first | (go_simp; done) | (go_simp; rfl)); intro w8 hw; have hg : wr.grownBy w8 (some go5) := (by rw [hw]; exact HP7.2); have hp_ : Kd.S k60 60 w8 w0.heap.size (fun k_ => (P0_ k_ ∨ w.heap.size ≤ k_)) (.slice (some ⟨go5, 0, none⟩) x0_1.length co6) y128 := (by rw [hw, Ny128.out]; exact HP7.1); clear HP7; have n0_ := Aside0.mk (hp_); have n1_ := Aside0.mk ((by rw [hw]; exact below_set (HB.out) GB5.out : Below w0.heap.size w0 w8)); have n2_ := Aside0.mk (Kept.of_grown (S := (fun k_ => P0_ k_)) hg (by repeat (first | (with_reducible first | exact HK.out | apply Kept.alloc | apply Kept.drewN | apply Kept.drew) | exact HK.out)) (fun k_ e_ => ((Kd.S_R HO_0.out).1 k_ e_))); clear HO_0; clear HB; clear HK; have HO_0 := n0_; have HB := n1_; have HK := n2_; clear n0_ n1_ n2_; clear hg hw hp_; (have ex0 := Aside0.mk (show rd_T60 y128 x5_1 = ⟨x1_1, (rd_T60 x0_1 x5_1).f1⟩ from by rw [Ny128.out]; exact rdset (of_decide_eq_true c4b0) (of_decide_eq_true c3b0))); (have hl_ : x0_1.length = y128.length := by rw [Ny128.out, List.length_set]); (obtain ⟨vd, oki, hx8, gd, hoki, hback⟩ := pend_inner HO_0.out x5_1 (of_decide_eq_true c4b0) (by have := of_decide_eq_true c3b0; omega)); clear hl_))
          rw [ex0.out] at gd
          refine (laws_markByteS.calls k1 (fun k_ => some k_ = vd.ownBlock) vd _ _ b1 b2 w0 w8 HB.out (Kd.R_tight rfl gd) HM.out).mono ?_
          rintro e w9 ⟨rfl, hR, hB9, hK9⟩
          have n0_ := Aside0.mk hB9
          have n1_ := Aside0.mk (show Kept w w9 (fun k_ => P0_ k_) from ⟨Nat.le_trans HK.out.1 hK9.1, fun j hj hn => (hK9.2 j (Nat.lt_of_lt_of_le hj HK.out.1) (fun he => ((hoki j (gd.1 j he.symm)).1).elim hn (fun h2 => absurd h2 (Nat.not_le.2 hj)))).trans (HK.out.2 j hj hn)⟩)
          have hS := hback w9 b2 _ (fun k hlt hn => hK9.2 k hlt hn) hR
          rw [ex0.out, Ny128.out, List.set_set] at hS
          have n2_ := Aside0.mk hS
          clear hR hB9 hK9 hS hback hoki gd ex0 HO_0 HB HK
          have HB := n0_
          have HK := n1_
          have HO_0 := n2_
          clear n0_ n1_ n2_ HX7 Ny128

          go_wp2
          go_roundg k1
          case measure => have := HK1.out; omega
          case rel => exact ⟨_, _, _, rfl, rfl, H', ⟨by have := HK1.out; omega⟩, HO_0, HK, HB⟩
        · rw [if_neg c4] at H
          exact absurd H (by simp)
      · rw [if_neg c3] at H
        have c3b0 : decide (x5_1 < (x0_1.length : Int)) = false := decide_eq_false c3
        clear c3
        simp only [Option.some.injEq, Prod.mk.injEq] at H
        obtain ⟨rfl, rfl⟩ := H
        obtain ⟨Ao9, co9, eo9⟩ := Kd.S_slice HO_0.out
        subst eo9
        go_wp2
        go_ret
        exact ⟨by first | rfl | (simp [errW_none, errW_some] <;> rfl) | (simp [*, errW_none, errW_some] <;> rfl), by (with_reducible repeat (first | apply Kd.S_alloc | apply Kd.S_drewN | apply Kd.S_drew)); exact HO_0.out, by repeat (first | (with_reducible first | exact HB.out | apply below_alloc | apply pw_below_drewN | apply below_drew1) | exact HB.out), by repeat (first | (with_reducible first | exact HK.out | apply Kept.alloc | apply Kept.drewN | apply Kept.drew) | exact HK.out)⟩

/-! ### L_markDisk: a text by hand -/
-- needs laws_szPendS.f laws_heldDisk.f laws_markByteS.f
def mkP : Int → List S60 → Int × List S60
  | k, [] => (k, [])
  | k, x :: xs => ((mkP (k + 1 + x.f1.length) xs).1, ⟨k, mkB (k + 1) x.f1⟩ :: (mkP (k + 1 + x.f1.length) xs).2)
theorem mkP_bd (l : List S60) (hl : ∀ x ∈ l, x.f1.length ≤ 1048576) : ∀ k : Int, k ≤ (mkP k l).1 ∧ (mkP k l).1 ≤ k + 1048577 * l.length := by
  induction l with
  | nil => intro k; simp [mkP]
  | cons x xs ih =>
    intro k
    have h := ih (fun y hy => hl y (List.mem_cons_of_mem _ hy)) (k + 1 + x.f1.length)
    have hx := hl x List.mem_cons_self
    simp only [mkP, List.length_cons]
    omega
theorem mkP_len (k : Int) (l : List S60) : (mkP k l).2.length = l.length := by induction l generalizing k with
  | nil => rfl
  | cons x xs ih => simp [mkP, ih]
theorem rd_midP (pre : List S60) (x : S60) (rest : List S60) : rd_T60 (pre ++ x :: rest) (pre.length : Int) = x := by unfold rd_T60; rw [Int.toNat_natCast, List.getD_eq_getElem?_getD, List.getElem?_append_right (Nat.le_refl _)]; simp
theorem markP_loop (rest : List S60) (hl : ∀ x ∈ rest, x.f1.length ≤ 1048576) : ∀ (pre : List S60) (k : Int), 0 ≤ k → k + 1048577 * rest.length ≤ 4611686018427387904 → pre.length + rest.length ≤ 4611686018427387904 →
    Ev (fun K => laws_markPendS.l0 K (pre ++ rest) k (pre.length : Int)) ((mkP k rest).1, pre ++ (mkP k rest).2) := by
  induction rest with
  | nil => intro pre k _ _ _; exact Ev.step (fun K => by simp only [laws_markPendS.l0]; rw [if_neg (by simp)]) (by simpa [mkP] using Ev.now _)
  | cons x xs ih =>
    intro pre k h0 h1 h2
    have hx := hl x List.mem_cons_self
    simp only [List.length_cons] at h1 h2
    have ih' := ih (fun y hy => hl y (List.mem_cons_of_mem _ hy)) (pre ++ [⟨k, mkB (k + 1) x.f1⟩]) (k + 1 + x.f1.length) (by omega) (by omega) (by simp; omega)
    rw [show ((pre ++ [(⟨k, mkB (k + 1) x.f1⟩ : S60)]).length : Int) = wrap64 ((pre.length : Int) + 1) by simp; unfold wrap64; omega] at ih'
    have e : ((mkP (k + 1 + x.f1.length) xs).1, pre ++ [(⟨k, mkB (k + 1) x.f1⟩ : S60)] ++ (mkP (k + 1 + x.f1.length) xs).2) = ((mkP k (x :: xs)).1, pre ++ (mkP k (x :: xs)).2) := by simp [mkP]
    rw [e] at ih'
    refine Ev.step (fun K => by simp only [laws_markPendS.l0]; rw [if_pos (by simp; omega), if_pos (by omega), rd_midP, show wrap64 (k + 1) = k + 1 by unfold wrap64; omega]) (Ev.bind (markByteS_ev x.f1 (k + 1) (by omega) (by omega)) ?_)
    exact Ev.congr (fun K => by rw [set_mid]) ih'
theorem markPendS_ev (l : List S60) (hl : ∀ x ∈ l, x.f1.length ≤ 1048576) (k : Int) (h0 : 0 ≤ k) (h1 : k + 1048577 * l.length ≤ 4611686018427387904) : Ev (fun K => laws_markPendS.f K l k) (mkP k l) :=
  markP_loop l hl [] k h0 h1 (by simp; omega)
theorem heldP_loop (rest : List S60) (hl : ∀ x ∈ rest, x.f1.length ≤ 1048576) : ∀ (pre : List S60) (k : Int), 0 ≤ k → k + 1048577 * rest.length ≤ 4611686018427387904 → pre.length + rest.length ≤ 4611686018427387904 →
    Ev (fun K => laws_heldPendS.l0 K (pre ++ (mkP k rest).2) k (pre.length : Int)) (mkP k rest).1 := by
  induction rest with
  | nil => intro pre k _ _ _; exact Ev.step (fun K => by simp only [laws_heldPendS.l0]; rw [if_neg (by simp [mkP])]) (by simpa [mkP] using Ev.now _)
  | cons x xs ih =>
    intro pre k h0 h1 h2
    have hx := hl x List.mem_cons_self
    simp only [List.length_cons] at h1 h2
    have ih' := ih (fun y hy => hl y (List.mem_cons_of_mem _ hy)) (pre ++ [⟨k, mkB (k + 1) x.f1⟩]) (k + 1 + x.f1.length) (by omega) (by omega) (by simp; omega)
    rw [show ((pre ++ [(⟨k, mkB (k + 1) x.f1⟩ : S60)]).length : Int) = wrap64 ((pre.length : Int) + 1) by simp; unfold wrap64; omega, List.append_assoc] at ih'
    have hb := heldByteS_ev x.f1 (k + 1) (by omega) (by omega)
    rw [show (mkP k (x :: xs)).2 = ⟨k, mkB (k + 1) x.f1⟩ :: (mkP (k + 1 + x.f1.length) xs).2 from rfl, show (mkP k (x :: xs)).1 = (mkP (k + 1 + x.f1.length) xs).1 from rfl]
    refine Ev.step (fun K => by simp only [laws_heldPendS.l0]; rw [if_pos (by simp [mkP_len]; omega), rd_midP, if_pos rfl, show wrap64 (k + 1) = k + 1 by unfold wrap64; omega, if_pos (by omega)]) (Ev.bind hb ?_)
    exact Ev.congr (fun K => by rw [if_neg (by omega)]; rfl) ih'
theorem heldPendS_ev (l : List S60) (hl : ∀ x ∈ l, x.f1.length ≤ 1048576) (k : Int) (h0 : 0 ≤ k) (h1 : k + 1048577 * l.length ≤ 4611686018427387904) : Ev (fun K => laws_heldPendS.f K (mkP k l).2 k) (mkP k l).1 :=
  heldP_loop l hl [] k h0 h1 (by simp; omega)
theorem heldDisk_ev (l0 : List Int) (l1 : List S60) (a2 : Int) (a3 : Bool) (h0 : l0.length ≤ 1048576) (hl : okPendS l1) : Ev (fun K => laws_heldDisk.f K (mkB 1 l0) (mkP (1 + l0.length) l1).2 a2 a3 1) (mkP (1 + l0.length) l1).1 := by
  have h1 := hl.1
  have hb := mkP_bd l1 hl.2 (1 + l0.length)
  unfold laws_heldDisk.f
  refine Ev.bind (heldByteS_ev l0 1 (by omega) (by omega)) ?_
  refine Ev.congr (fun K => by rw [if_neg (by omega)]) (Ev.bind (heldPendS_ev l1 hl.2 _ (by omega) (by omega)) ?_)
  exact Ev.congr (fun K => by rw [if_neg (by omega)]) (Ev.now _)

/-! ### laws_markDisk: a text by hand -/
-- needs laws_markByteS.f
set_option maxHeartbeats 1000000 in
set_option maxRecDepth 100000 in
theorem laws_markDisk.calls (k1 k2 : Nat) (P0 P1 : Nat → Prop) (v0 v1 : Value) (l0 : List Int) (l1 : List S60) (a2 : Int) (a3 : Bool) (a1 b1 : Int) (b2 : List Int) (r1 : Int) (r2 : List S60) (w0 w : World)
    (hB : Below w0.heap.size w0 w) (ho0 : Kd.R (Kd.int .u8) 5 w w0.heap.size P0 v0 l0) (ho1 : Kd.S k60 60 w w0.heap.size P1 v1 l1) (hp : ∀ k, P0 k → ¬ P1 k)
    (h1 : laws_markByteS.f k1 l0 a1 = some (b1, b2)) (h2 : laws_markPendS.f k2 l1 b1 = some (r1, r2)) :
    Calls Try.prog 13 #[.agg #[v0, v1, .int .i64 a2, .bool a3], .int .i64 a1] w fun e w' => e = .returned (.int .i64 r1) ∧ Kd.R (Kd.int .u8) 5 w' w0.heap.size P0 v0 b2 ∧
      Kd.S k60 60 w' w0.heap.size (fun k => P1 k ∨ w.heap.size ≤ k) v1 r2 ∧ Below w0.heap.size w0 w' ∧ Kept w w' (fun k => P0 k ∨ P1 k) := by
  have H1 := Aside0.mk h1
  have H2 := Aside0.mk h2
  have HB := Aside0.mk hB
  have HO0 := Aside0.mk ho0
  have HO1 := Aside0.mk ho1
  have HP := Aside0.mk hp
  clear h1 h2 hB ho0 ho1 hp
  have hu := Try.underlying25
  obtain ⟨A0, c0, rfl⟩ := Kd.R_slice HO0.out
  obtain ⟨A1, c1, rfl⟩ := Kd.S_slice HO1.out
  go_enter Try.func13, Try.ntmps13
  go_wp2_with fail
  have hlt0 := Kd.R_lt HO0.out
  have hS1 := Kd.S_mono (ok' := fun k => P1 k ∧ k < w.heap.size) (Kd.S_bound HO1.out) (fun k hk => ⟨hk.1, hk.2.2.1⟩)
  refine (laws_markByteS.calls k1 (fun k => some k = (Value.slice A0 l0.length c0).ownBlock) _ _ _ b1 b2 w0 _ (below_allocB HB.out HB.out.size _) (Kd.R_alloc (Kd.R_tight rfl HO0.out) _) H1.out).mono ?_
  rintro e w1 ⟨rfl, hR, hB1, hK1⟩
  have G0 := blk_kept (blk_new w _) hK1 (fun he => absurd (hlt0 _ he.symm) (Nat.lt_irrefl _))
  have hx := blk_cell G0 1
  have hx1 : w1.cell? ⟨w.heap.size, 1, none⟩ = some (.slice A1 l1.length c1) := hx.trans rfl
  clear hx
  have hR' := Aside0.mk (Kd.R_reok rfl hR (fun k hk => HO0.out.1 k hk))
  have hS' := Aside0.mk (Kd.S_kept (Kd.S_alloc hS1 _) hK1 (fun k hk he => HP.out k (HO0.out.1 k he.symm) hk.1))
  have hz1 := Aside0.mk hK1.1
  have HK1 := Aside0.mk (show Kept w w1 (fun k => P0 k ∨ P1 k) from (Kept.alloc (Kept.refl w _) _).then_ hK1 (fun k hk => .inl (.inl (HO0.out.1 k hk.symm))))
  have HB1 := Aside0.mk hB1
  clear hR hB1 hK1 G0 hlt0 hS1
  go_wp2_with fail
  refine (laws_markPendS.calls k2 (fun k => P1 k ∧ k < w.heap.size) _ _ _ r1 r2 w0 _ HB1.out hS'.out H2.out).mono ?_
  rintro e w2 ⟨rfl, hS, hB2, hK2⟩
  have n0 := Aside0.mk (Kd.R_kept hR'.out hK2 (fun k hk he => HP.out k hk he.1))
  have n1 := Aside0.mk (Kd.S_mono (ok' := fun k => P1 k ∨ w.heap.size ≤ k) hS (fun k hk => hk.imp (fun h => h.1) (fun h => by have := HK1.out.1; omega)))
  have n2 := Aside0.mk hB2
  have n3 := Aside0.mk (HK1.out.then_ hK2 (fun k hk => .inl (.inr hk.1)))
  clear hS hB2 hK2
  go_wp2
  go_ret
  exact ⟨rfl, n0.out, n1.out, n2.out, n3.out⟩

/-! ### laws_markDisk2: a text by hand -/
-- needs laws_markByteS.f
theorem laws_markByteS.own (k lo hi : Nat) (v : Value) (l : List Int) (m0 m1 : Int) (l' : List Int) (w0 w : World) {ok : Nat → Prop} (hle : w0.heap.size ≤ lo) (hB : Below w0.heap.size w0 w)
    (ho : Kd.R (Kd.int .u8) 5 w w0.heap.size (fun k => (lo ≤ k ∧ k < hi) ∧ ok k) v l) (h : laws_markByteS.f k l m0 = some (m1, l')) :
    Calls Try.prog 22 #[v, .int .i64 m0] w fun e w' => e = .returned (.int .i64 m1) ∧ Kd.R (Kd.int .u8) 5 w' w0.heap.size (fun k => (lo ≤ k ∧ k < hi) ∧ ok k) v l' ∧ Below w0.heap.size w0 w' ∧ Kept w w' (fun k => lo ≤ k ∧ k < hi) :=
  (laws_markByteS.calls k (fun k => (lo ≤ k ∧ k < hi) ∧ ok k) v l m0 m1 l' w0 w hB ho h).mono fun e w' hh => ⟨hh.1, Kd.R_reok rfl hh.2.1 (fun k hk => ho.1 k hk), hh.2.2.1, hh.2.2.2.mono (fun k hk => hk.1)⟩
theorem laws_markDisk.own (k1 k2 lo hi : Nat) (v0 v1 : Value) (a2 : Int) (a3 : Bool) (l0 : List Int) (l1 : List S60) (m0 m1 m2 : Int) (l0' : List Int) (l1' : List S60) (w0 w : World) {ok0 : Nat → Prop} (hle : w0.heap.size ≤ lo) (hB : Below w0.heap.size w0 w)
    (ho0 : Kd.R (Kd.int .u8) 5 w w0.heap.size (fun k => (lo ≤ k ∧ k < hi) ∧ ok0 k) v0 l0) (ho1 : Kd.S k60 60 w w0.heap.size (fun k => (lo ≤ k ∧ k < hi) ∧ some k ≠ v0.ownBlock) v1 l1)
    (h1 : laws_markByteS.f k1 l0 m0 = some (m1, l0')) (h2 : laws_markPendS.f k2 l1 m1 = some (m2, l1')) :
    Calls Try.prog 13 #[.agg #[v0, v1, .int .i64 a2, .bool a3], .int .i64 m0] w fun e w' => e = .returned (.int .i64 m2) ∧ Kd.R (Kd.int .u8) 5 w' w0.heap.size (fun k => (lo ≤ k ∧ k < hi) ∧ some k = v0.ownBlock) v0 l0' ∧
      Kd.S k60 60 w' w0.heap.size (fun k => ((lo ≤ k ∧ k < hi) ∧ some k ≠ v0.ownBlock) ∨ w.heap.size ≤ k) v1 l1' ∧ Below w0.heap.size w0 w' ∧ Kept w w' (fun k => lo ≤ k ∧ k < hi) :=
  (laws_markDisk.calls k1 k2 (fun k => (lo ≤ k ∧ k < hi) ∧ some k = v0.ownBlock) (fun k => (lo ≤ k ∧ k < hi) ∧ some k ≠ v0.ownBlock) v0 v1 l0 l1 a2 a3 m0 m1 l0' m2 l1' w0 w hB (Kd.R_reok rfl ho0 (fun k hk => ⟨(ho0.1 k hk).1, hk.symm⟩)) ho1 (fun k a b => b.2 a.2) h1 h2).mono
    fun e w' hh => ⟨hh.1, hh.2.1, hh.2.2.1, hh.2.2.2.1, hh.2.2.2.2.mono (fun k hk => hk.elim (fun h => h.1) (fun h => h.1))⟩

/-! ### zwalk_DiskNew: a text by hand -/
-- needs impl_DiskNew.f laws_eqDisk.f laws_heldDisk.f spec_DiskNew.f
set_option maxHeartbeats 4000000 in
set_option maxRecDepth 100000 in
theorem walk_FnExactDiskNew (a0 : Int) (r1 : List Int) (r2 : List S60) (r3 : Int) (r4 : Bool) (m10 : Int) (l11 : List Int) (m13 : Int) (l14 : List S60) (w : World)
    
    (E5 : Ev (fun k => spec_DiskNew.f k a0) (r1, r2, r3, r4)) (E7 : impl_DiskNew.f a0 = some (r1, r2, r3, r4)) (E9 : Ev (fun k => laws_eqDisk.f k r1 r2 r3 r4 r1 r2 r3 r4) true) (E12 : Ev (fun k => laws_markByteS.f k r1 1) (m10, l11)) (E15 : Ev (fun k => laws_markPendS.f k r2 m10) (m13, l14)) (Pm13 : 0 ≤ m13) (E16 : Ev (fun k => laws_heldDisk.f k l11 l14 r3 r4 1) m13) :
    Calls Try.prog 3 #[.int .i64 a0] w fun e w' => e = .returned (.bool true) ∧ Below w.heap.size w w' := by
  obtain ⟨k_E5, h_E5⟩ := E5.rounds
  have H_E5 := Aside0.mk h_E5
  clear E5 h_E5
  have h_E7 := E7
  have H_E7 := Aside0.mk h_E7
  clear E7 h_E7
  obtain ⟨k_E9, h_E9⟩ := E9.rounds
  have H_E9 := Aside0.mk h_E9
  clear E9 h_E9
  obtain ⟨k_E12, h_E12⟩ := E12.rounds
  have H_E12 := Aside0.mk h_E12
  clear E12 h_E12
  obtain ⟨k_E15, h_E15⟩ := E15.rounds
  have H_E15 := Aside0.mk h_E15
  clear E15 h_E15
  obtain ⟨k_E16, h_E16⟩ := E16.rounds
  have H_E16 := Aside0.mk h_E16
  clear E16 h_E16
  have Pm13b : decide (m13 < 0) = false := decide_eq_false (by omega)
  have hu25 := Try.underlying25
  have HB := Aside0.mk (Below.refl w.heap.size w)
  go_enter Try.func3, Try.ntmps3
  go_wp2_with fail
  refine (spec_DiskNew.calls k_E5 a0 r1 r2 r3 r4 _  H_E5.out).mono ?_
  rintro e w1 ⟨q6u0, q6u1, rfl, q6g0, q6g1, gb⟩
  have q6X0 := Aside0.mk (R_iv q6g0 w.heap.size (w.heap.size) (by have := HB.out.size; first | (simp; done) | (simp; omega) | omega) (by simp))
  clear q6g0
  obtain ⟨q6A0, q6c0, rfl⟩ := Kd.R_slice q6X0.out
  have q6X1 := Aside0.mk (S_iv q6g1 w.heap.size (w.heap.size) (by have := HB.out.size; first | (simp; done) | (simp; omega) | omega) (by simp))
  clear q6g1
  obtain ⟨q6A1, q6c1, rfl⟩ := Kd.S_slice q6X1.out
  have hz1 : w.heap.size + 0 ≤ w1.heap.size := by have := gb.size; first | omega | (simp at this; omega)
  have N_HB := Aside0.mk (below_step HB.out gb)
  clear HB
  have HB := N_HB
  clear N_HB
  clear gb
  go_wp2_with fail
  refine (impl_DiskNew.calls a0 r1 r2 r3 r4 _  H_E7.out).mono ?_
  rintro e w2 ⟨q8u0, q8u1, rfl, q8g0, q8g1, gb⟩
  have q8X0 := Aside0.mk (R_iv q8g0 w.heap.size (w1.heap.size + 1) (by have := HB.out.size; first | (simp; done) | (simp; omega) | omega) (by simp))
  clear q8g0
  obtain ⟨q8A0, q8c0, rfl⟩ := Kd.R_slice q8X0.out
  have q8X1 := Aside0.mk (S_iv q8g1 w.heap.size (w1.heap.size + 1) (by have := HB.out.size; first | (simp; done) | (simp; omega) | omega) (by simp))
  clear q8g1
  obtain ⟨q8A1, q8c1, rfl⟩ := Kd.S_slice q8X1.out
  have hz2 : w1.heap.size + 1 ≤ w2.heap.size := by have := gb.size; first | omega | (simp at this; omega)
  have N_HB := Aside0.mk (below_step (below_alloc HB.out _) gb)
  have N_q6X0 := Aside0.mk (Kd.R_below (Kd.R_alloc q6X0.out _) gb)
  have N_q6X1 := Aside0.mk (Kd.S_below (Kd.S_alloc q6X1.out _) gb)
  have K3 := Aside0.mk (show w2.heap[w1.heap.size]? = some (.cells #[.slice q6A0 r1.length q6c0, .slice q6A1 r2.length q6c1, .int .i64 r3, .bool r4] 25 (0, 0)) from by have := blk_below (blk_new _ _) gb; simpa using this)
  clear HB q6X0 q6X1
  have HB := N_HB
  have q6X0 := N_q6X0
  have q6X1 := N_q6X1
  clear N_HB N_q6X0 N_q6X1
  clear gb
  have y3 : w1.heap.size < w2.heap.size := by omega
  have z3_0 : w2.cell? ⟨w1.heap.size, 0, none⟩ = some (.slice q6A0 r1.length q6c0) := (blk_cell K3.out 0).trans rfl
  have z3_1 : w2.cell? ⟨w1.heap.size, 1, none⟩ = some (.slice q6A1 r2.length q6c1) := (blk_cell K3.out 1).trans rfl
  have z3_2 : w2.cell? ⟨w1.heap.size, 2, none⟩ = some (.int .i64 r3) := (blk_cell K3.out 2).trans rfl
  have z3_3 : w2.cell? ⟨w1.heap.size, 3, none⟩ = some (.bool r4) := (blk_cell K3.out 3).trans rfl
  go_wp2_with fail
  clear y3 z3_0 z3_1 z3_2 z3_3
  refine (laws_eqDisk.calls k_E9 _ _ r1 _ _ r2 r3 r4 _ _ r1 _ _ r2 r3 r4 true _ (Kd.C_alloc (Kd.R_reads' q8X0.out).2.2 _) (Kd.R_reads' q8X0.out).2.1 (Kd.C_alloc (Kd.S_reads' q8X1.out).2.2 _) (Kd.S_reads' q8X1.out).2.1 (Kd.C_alloc (Kd.R_reads' q6X0.out).2.2 _) (Kd.R_reads' q6X0.out).2.1 (Kd.C_alloc (Kd.S_reads' q6X1.out).2.2 _) (Kd.S_reads' q6X1.out).2.1 H_E9.out).mono ?_
  rintro e w3 ⟨rfl, gb⟩
  have hz3 : w2.heap.size + 1 ≤ w3.heap.size := by have := gb.size; first | omega | (simp at this; omega)
  have N_HB := Aside0.mk (below_step (below_alloc HB.out _) gb)
  have N_q6X0 := Aside0.mk (Kd.R_below (Kd.R_alloc q6X0.out _) gb)
  have N_q6X1 := Aside0.mk (Kd.S_below (Kd.S_alloc q6X1.out _) gb)
  have N_q8X0 := Aside0.mk (Kd.R_below (Kd.R_alloc q8X0.out _) gb)
  have N_q8X1 := Aside0.mk (Kd.S_below (Kd.S_alloc q8X1.out _) gb)
  have N_K3 := Aside0.mk (blk_below (blk_alloc K3.out _) gb)
  have K4 := Aside0.mk (show w3.heap[w2.heap.size]? = some (.cells #[.slice q8A0 r1.length q8c0, .slice q8A1 r2.length q8c1, .int .i64 r3, .bool r4] 25 (0, 0)) from by have := blk_below (blk_new _ _) gb; simpa using this)
  clear HB q6X0 q6X1 q8X0 q8X1 K3
  have HB := N_HB
  have q6X0 := N_q6X0
  have q6X1 := N_q6X1
  have q8X0 := N_q8X0
  have q8X1 := N_q8X1
  have K3 := N_K3
  clear N_HB N_q6X0 N_q6X1 N_q8X0 N_q8X1 N_K3
  clear gb
  have y4 : w2.heap.size < w3.heap.size := by omega
  have z4_0 : w3.cell? ⟨w2.heap.size, 0, none⟩ = some (.slice q8A0 r1.length q8c0) := (blk_cell K4.out 0).trans rfl
  have z4_1 : w3.cell? ⟨w2.heap.size, 1, none⟩ = some (.slice q8A1 r2.length q8c1) := (blk_cell K4.out 1).trans rfl
  have z4_2 : w3.cell? ⟨w2.heap.size, 2, none⟩ = some (.int .i64 r3) := (blk_cell K4.out 2).trans rfl
  have z4_3 : w3.cell? ⟨w2.heap.size, 3, none⟩ = some (.bool r4) := (blk_cell K4.out 3).trans rfl
  go_wp2_with fail
  clear y4 z4_0 z4_1 z4_2 z4_3
  refine (laws_markDisk.own k_E12 k_E15 (w1.heap.size + 1) (w2.heap.size) _ _ r3 r4 r1 r2 1 m10 m13 l11 l14 w _ (by have := HB.out.size; omega) HB.out q8X0.out q8X1.out H_E12.out H_E15.out).mono ?_
  rintro e w4 ⟨rfl, g_0, g_1, gB, hk⟩
  have hz4 : w3.heap.size + 0 ≤ w4.heap.size := by have := hk.1; first | omega | (simp at this; omega)
  have N_q6X0 := Aside0.mk (Kd.R_kept q6X0.out hk (fun k hk1 hk2 => by have := hk1.1; omega))
  have N_q6X1 := Aside0.mk (Kd.S_kept q6X1.out hk (fun k hk1 hk2 => by have := hk1.1; omega))
  have N_K3 := Aside0.mk (blk_kept K3.out hk (fun hk2 => by omega))
  have N_K4 := Aside0.mk (blk_kept K4.out hk (fun hk2 => by omega))
  clear q6X0 q6X1 K3 K4
  have q6X0 := N_q6X0
  have q6X1 := N_q6X1
  have K3 := N_K3
  have K4 := N_K4
  clear N_q6X0 N_q6X1 N_K3 N_K4
  clear HB hk
  have HB := Aside0.mk gB
  clear gB
  clear q8X0
  have q8X0 := Aside0.mk g_0
  clear g_0
  clear q8X1
  have q8X1 := Aside0.mk g_1
  clear g_1
  have ev_ : (.slice q8A0 r1.length q8c0 : Value) = .slice q8A0 l11.length q8c0 := by rw [(Kd.R_reads' q8X0.out).1]
  try rw [ev_] at q8X0
  try rw [ev_] at q8X1
  try rw [ev_] at K4
  try rw [ev_]
  clear ev_
  have ev_ : (.slice q8A1 r2.length q8c1 : Value) = .slice q8A1 l14.length q8c1 := by rw [(Kd.S_reads' q8X1.out).1]
  try rw [ev_] at q8X0
  try rw [ev_] at q8X1
  try rw [ev_] at K4
  try rw [ev_]
  clear ev_
  have y4 : w2.heap.size < w4.heap.size := by omega
  have z4_0 : w4.cell? ⟨w2.heap.size, 0, none⟩ = some (.slice q8A0 l11.length q8c0) := (blk_cell K4.out 0).trans rfl
  have z4_1 : w4.cell? ⟨w2.heap.size, 1, none⟩ = some (.slice q8A1 l14.length q8c1) := (blk_cell K4.out 1).trans rfl
  have z4_2 : w4.cell? ⟨w2.heap.size, 2, none⟩ = some (.int .i64 r3) := (blk_cell K4.out 2).trans rfl
  have z4_3 : w4.cell? ⟨w2.heap.size, 3, none⟩ = some (.bool r4) := (blk_cell K4.out 3).trans rfl
  go_wp2_with fail
  clear y4 z4_0 z4_1 z4_2 z4_3
  refine (laws_heldDisk.calls k_E16 _ _ l11 _ _ l14 r3 r4 1 m13 _ (Kd.R_reads' q8X0.out).2.2 (Kd.R_reads' q8X0.out).2.1 (Kd.S_reads' q8X1.out).2.2 (Kd.S_reads' q8X1.out).2.1 H_E16.out).mono ?_
  rintro e w5 ⟨rfl, gb⟩
  have hz5 : w4.heap.size + 0 ≤ w5.heap.size := by have := gb.size; first | omega | (simp at this; omega)
  have N_HB := Aside0.mk (below_step HB.out gb)
  have N_q6X0 := Aside0.mk (Kd.R_below q6X0.out gb)
  have N_q6X1 := Aside0.mk (Kd.S_below q6X1.out gb)
  have N_q8X0 := Aside0.mk (Kd.R_below q8X0.out gb)
  have N_q8X1 := Aside0.mk (Kd.S_below q8X1.out gb)
  have N_K3 := Aside0.mk (blk_below K3.out gb)
  have N_K4 := Aside0.mk (blk_below K4.out gb)
  clear HB q6X0 q6X1 q8X0 q8X1 K3 K4
  have HB := N_HB
  have q6X0 := N_q6X0
  have q6X1 := N_q6X1
  have q8X0 := N_q8X0
  have q8X1 := N_q8X1
  have K3 := N_K3
  have K4 := N_K4
  clear N_HB N_q6X0 N_q6X1 N_q8X0 N_q8X1 N_K3 N_K4
  clear gb
  go_wp2_with fail
  refine (impl_DiskNew.calls a0 r1 r2 r3 r4 _  H_E7.out).mono ?_
  rintro e w6 ⟨q17u0, q17u1, rfl, q17g0, q17g1, gb⟩
  have q17X0 := Aside0.mk (R_iv q17g0 w.heap.size (w5.heap.size) (by have := HB.out.size; first | (simp; done) | (simp; omega) | omega) (by simp))
  clear q17g0
  obtain ⟨q17A0, q17c0, rfl⟩ := Kd.R_slice q17X0.out
  have q17X1 := Aside0.mk (S_iv q17g1 w.heap.size (w5.heap.size) (by have := HB.out.size; first | (simp; done) | (simp; omega) | omega) (by simp))
  clear q17g1
  obtain ⟨q17A1, q17c1, rfl⟩ := Kd.S_slice q17X1.out
  have hz6 : w5.heap.size + 0 ≤ w6.heap.size := by have := gb.size; first | omega | (simp at this; omega)
  have N_HB := Aside0.mk (below_step HB.out gb)
  have N_q6X0 := Aside0.mk (Kd.R_below q6X0.out gb)
  have N_q6X1 := Aside0.mk (Kd.S_below q6X1.out gb)
  have N_q8X0 := Aside0.mk (Kd.R_below q8X0.out gb)
  have N_q8X1 := Aside0.mk (Kd.S_below q8X1.out gb)
  have N_K3 := Aside0.mk (blk_below K3.out gb)
  have N_K4 := Aside0.mk (blk_below K4.out gb)
  clear HB q6X0 q6X1 q8X0 q8X1 K3 K4
  have HB := N_HB
  have q6X0 := N_q6X0
  have q6X1 := N_q6X1
  have q8X0 := N_q8X0
  have q8X1 := N_q8X1
  have K3 := N_K3
  have K4 := N_K4
  clear N_HB N_q6X0 N_q6X1 N_q8X0 N_q8X1 N_K3 N_K4
  clear gb
  have y3 : w1.heap.size < w6.heap.size := by omega
  have z3_0 : w6.cell? ⟨w1.heap.size, 0, none⟩ = some (.slice q6A0 r1.length q6c0) := (blk_cell K3.out 0).trans rfl
  have z3_1 : w6.cell? ⟨w1.heap.size, 1, none⟩ = some (.slice q6A1 r2.length q6c1) := (blk_cell K3.out 1).trans rfl
  have z3_2 : w6.cell? ⟨w1.heap.size, 2, none⟩ = some (.int .i64 r3) := (blk_cell K3.out 2).trans rfl
  have z3_3 : w6.cell? ⟨w1.heap.size, 3, none⟩ = some (.bool r4) := (blk_cell K3.out 3).trans rfl
  go_wp2_with fail
  clear y3 z3_0 z3_1 z3_2 z3_3
  refine (laws_eqDisk.calls k_E9 _ _ r1 _ _ r2 r3 r4 _ _ r1 _ _ r2 r3 r4 true _ (Kd.C_alloc (Kd.R_reads' q17X0.out).2.2 _) (Kd.R_reads' q17X0.out).2.1 (Kd.C_alloc (Kd.S_reads' q17X1.out).2.2 _) (Kd.S_reads' q17X1.out).2.1 (Kd.C_alloc (Kd.R_reads' q6X0.out).2.2 _) (Kd.R_reads' q6X0.out).2.1 (Kd.C_alloc (Kd.S_reads' q6X1.out).2.2 _) (Kd.S_reads' q6X1.out).2.1 H_E9.out).mono ?_
  rintro e w7 ⟨rfl, gb⟩
  have hz7 : w6.heap.size + 1 ≤ w7.heap.size := by have := gb.size; first | omega | (simp at this; omega)
  have N_HB := Aside0.mk (below_step (below_alloc HB.out _) gb)
  have N_q6X0 := Aside0.mk (Kd.R_below (Kd.R_alloc q6X0.out _) gb)
  have N_q6X1 := Aside0.mk (Kd.S_below (Kd.S_alloc q6X1.out _) gb)
  have N_q8X0 := Aside0.mk (Kd.R_below (Kd.R_alloc q8X0.out _) gb)
  have N_q8X1 := Aside0.mk (Kd.S_below (Kd.S_alloc q8X1.out _) gb)
  have N_q17X0 := Aside0.mk (Kd.R_below (Kd.R_alloc q17X0.out _) gb)
  have N_q17X1 := Aside0.mk (Kd.S_below (Kd.S_alloc q17X1.out _) gb)
  have N_K3 := Aside0.mk (blk_below (blk_alloc K3.out _) gb)
  have N_K4 := Aside0.mk (blk_below (blk_alloc K4.out _) gb)
  have K7 := Aside0.mk (show w7.heap[w6.heap.size]? = some (.cells #[.slice q17A0 r1.length q17c0, .slice q17A1 r2.length q17c1, .int .i64 r3, .bool r4] 25 (0, 0)) from by have := blk_below (blk_new _ _) gb; simpa using this)
  clear HB q6X0 q6X1 q8X0 q8X1 q17X0 q17X1 K3 K4
  have HB := N_HB
  have q6X0 := N_q6X0
  have q6X1 := N_q6X1
  have q8X0 := N_q8X0
  have q8X1 := N_q8X1
  have q17X0 := N_q17X0
  have q17X1 := N_q17X1
  have K3 := N_K3
  have K4 := N_K4
  clear N_HB N_q6X0 N_q6X1 N_q8X0 N_q8X1 N_q17X0 N_q17X1 N_K3 N_K4
  clear gb
  go_wp2
  go_ret
  exact ⟨rfl, HB.out⟩

/-! ### zmain_DiskNew: a text by hand -/
-- needs spec_DiskNew.f impl_DiskNew.f laws_heldDisk.f
def dNew (a : Int) : List Int × List S60 × Int × Bool := if a < 16 then ([], [], 0, false) else if a > 1024 then ([], [], 0, false) else (List.replicate (wrap64 (a * 64)).toNat 0, [], -1, false)
theorem zeros_loop (n : Int) (hn : n ≤ 65536) : ∀ (d i : Nat), (i : Int) + d = n → Ev (fun k => spec_l1Zeros.l0 k n (List.replicate i 0) (i : Int)) (List.replicate n.toNat 0) := by
  intro d
  induction d with
  | zero => intro i hi; exact Ev.step (fun K => by simp only [spec_l1Zeros.l0]; rw [if_neg (by omega)]) (by rw [show n.toNat = i by omega]; exact Ev.now _)
  | succ d ih =>
    intro i hi
    have ih' := ih (i + 1) (by omega)
    exact Ev.step (fun K => by simp only [spec_l1Zeros.l0]; rw [if_pos (by omega), if_pos (by rw [List.length_replicate]; omega), show List.replicate i (0 : Int) ++ [0] = List.replicate (i + 1) 0 from List.replicate_succ'.symm, show wrap64 ((i : Int) + 1) = ((i + 1 : Nat) : Int) by unfold wrap64; omega]) ih'
theorem specNew_ev (a : Int) : Ev (fun k => spec_DiskNew.f k a) (dNew a) := by
  unfold spec_DiskNew.f dNew
  by_cases c1 : a < 16
  · exact Ev.congr (fun K => by rw [if_pos c1]) (by rw [if_pos c1]; exact Ev.now _)
  refine Ev.congr (fun K => by rw [if_neg c1]) ?_
  rw [if_neg c1]
  by_cases c2 : a > 1024
  · exact Ev.congr (fun K => by rw [if_pos c2]) (by rw [if_pos c2]; exact Ev.now _)
  refine Ev.congr (fun K => by rw [if_neg c2]) ?_
  rw [if_neg c2]
  have hw : wrap64 (a * 64) = a * 64 := by unfold wrap64; omega
  have h := zeros_loop (wrap64 (a * 64)) (by omega) (wrap64 (a * 64)).toNat 0 (by omega)
  exact Ev.bind h (Ev.now _)
theorem implNew_eq (a : Int) : impl_DiskNew.f a = some (dNew a) := by
  unfold impl_DiskNew.f dNew
  by_cases c1 : a < 16
  · rw [if_pos c1, if_pos c1]
  rw [if_neg c1, if_neg c1]
  by_cases c2 : a > 1024
  · rw [if_pos c2, if_pos c2]
  have hw : wrap64 (a * 64) = a * 64 := by unfold wrap64; omega
  rw [if_neg c2, if_neg c2, if_pos (by omega), if_pos (by omega)]
theorem dNew_ok (a : Int) : (dNew a).1.length ≤ 65536 ∧ (dNew a).2.1 = [] := by
  unfold dNew
  by_cases c1 : a < 16
  · rw [if_pos c1]; exact ⟨by simp, rfl⟩
  rw [if_neg c1]
  by_cases c2 : a > 1024
  · rw [if_pos c2]; exact ⟨by simp, rfl⟩
  rw [if_neg c2]
  have hw : wrap64 (a * 64) = a * 64 := by unfold wrap64; omega
  exact ⟨by simp only [List.length_replicate]; omega, rfl⟩
theorem main_DiskNew (a0 : Int) (_F : (Lit.int .i64 a0).wf = true) (w : World) :
    Calls Try.prog 3 #[.int .i64 a0] w fun e w' => e = .returned (.bool true) ∧ Below w.heap.size w w' := by
  have hs := specNew_ev a0
  have hi := implNew_eq a0
  obtain ⟨h0, h1⟩ := dNew_ok a0
  generalize dNew a0 = d at hs hi h0 h1
  obtain ⟨r1, r2, r3, r4⟩ := d
  simp only at h0 h1
  have ok : okPendS r2 := by rw [h1]; exact ⟨by simp, by simp⟩
  have hb := mkP_bd r2 ok.2 (1 + r1.length)
  have o1 := ok.1
  exact walk_FnExactDiskNew a0 r1 r2 r3 r4 (1 + r1.length) (mkB 1 r1) _ _ w hs hi (eqDisk_ev r1 r2 r3 r4 (by omega) ok) (markByteS_ev r1 1 (by omega) (by omega)) (markPendS_ev r2 ok.2 _ (by omega) (by omega)) (by omega) (heldDisk_ev r1 r2 r3 r4 (by omega) ok)
end Go.Proofs.Ytbimdcekcemcoaa.PD
