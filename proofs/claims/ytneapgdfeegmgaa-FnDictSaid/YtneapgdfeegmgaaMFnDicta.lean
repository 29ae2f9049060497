-- Made by this session's programs out of the translation and of its own texts.
import Derived.Test.YtneapgdfeegmgaaVIx0
import Derived.Deep.RegionLaw
import Derived.Deep.RegionWith
import Derived.Maps.OwnSet
import Derived.Maps.RangeWalk
import Derived.Shelf.SlSortCmp.NoneTotal
import Derived.Sort.MapsRangeIn
import Derived.Sort.OwnSorted
import Derived.StillTailTactics
import Derived.WalkLawsBesides
import Derived.WideKeyEntry
namespace Go.Proofs.Ytneapgdfeegmgaa.PI
open Go.RowKit Go.Proofs.YtneapgdfeegmgaaW.PrintWords Go.Proofs.YtneapgdfeegmgaaW.PrintLast Go.Proofs.YtneapgdfeegmgaaW.PrintMore
attribute [local go_sem] max2_int min2_int max_two min_two max_three min_three max_four min_four   -- for this text's walks alone
set_option linter.unusedVariables false
set_option linter.unusedSimpArgs false

theorem eqA51 (d : Nat) (w : World) (x0 y0 : Int) (x1 y1 : ByteArray) (x2 y2 : Int) :
    (Op.equalIn (d + 2) 51 (.agg #[.int .i64 x0, .string x1, .int .i64 x2]) (.agg #[.int .i64 y0, .string y1, .int .i64 y2])).run Try.prog w = .ok (x0 == y0 && (x1.toList == y1.toList && (x2 == y2))) w := by
  refine eqA_of Try.underlying51 (by kernel_rfl) ?_
  refine eqf_cons (by rfl) (by go_simp; rfl) (by go_simp; rfl) (by go_simp) ?_
  refine eqf_cons (by rfl) (by go_simp; rfl) (by go_simp; rfl) (by go_simp) ?_
  exact eqf_last (by rfl) (by go_simp; rfl) (by go_simp; rfl) (by go_simp)

/-! ### spec_l2Number: function 31 -/
def spec_l2Number.f (a0 : Int) : Option (Bool) := if a0 ≥ 1 then (some (decide (a0 ≤ 2000000000))) else (some false)
set_option maxHeartbeats 8000000 in
set_option maxRecDepth 100000 in
theorem spec_l2Number.calls (a0 : Int) (r : Bool) (w : World) (h : spec_l2Number.f a0 = some r) :
    Calls Try.prog 31 #[.int .i64 a0] w fun e w' => e = .returned (.bool r) ∧ Drawn0 w w' := by
  have H : (if a0 ≥ 1 then (some (decide (a0 ≤ 2000000000))) else (some false)) = some r := h
  clear h
  by_cases c2 : a0 ≥ 1
  · rw [if_pos c2] at H
    have c2b0 : decide (1 ≤ a0) = true := decide_eq_true c2
    clear c2
    obtain rfl := Option.some.inj H
    go_enter Try.func31, Try.ntmps31
    go_wp2
    go_ret
    exact ⟨by first | rfl | (simp; done) | (simp [*]; done), by repeat (first | exact Drawn0.refl _ | apply Drawn0.step)⟩
  · rw [if_neg c2] at H
    have c2b0 : decide (1 ≤ a0) = false := decide_eq_false c2
    clear c2
    obtain rfl := Option.some.inj H
    go_enter Try.func31, Try.ntmps31
    go_wp2
    go_ret
    exact ⟨by first | rfl | (simp; done) | (simp [*]; done), by repeat (first | exact Drawn0.refl _ | apply Drawn0.step)⟩

/-! ### spec_ValidDict: function 10 -/
mutual
def spec_ValidDict.j0 : Nat → Bool → Int → List (S51) → Option (Bool)
  | 0, _, _, _ => none
  | k + 1, x15, x132000, x132001 => if x15 = true then (some false) else (spec_ValidDict.l0 k 0 x132000 x132001)
def spec_ValidDict.l0 : Nat → Int → Int → List (S51) → Option (Bool)
  | 0, _, _, _ => none
  | k + 1, x3, x132000, x132001 => if x3 < (x132001.length : Int) then (if 0 ≤ x3 then (if (((rd_T51 x132001 x3).f1).size : Int) < 1 then (spec_ValidDict.j2 k x3 true x132000 x132001 ((rd_T51 x132001 x3).f0) ((rd_T51 x132001 x3).f1) ((rd_T51 x132001 x3).f2)) else (if (((rd_T51 x132001 x3).f1).size : Int) > 30 then (spec_ValidDict.j2 k x3 true x132000 x132001 ((rd_T51 x132001 x3).f0) ((rd_T51 x132001 x3).f1) ((rd_T51 x132001 x3).f2)) else (if ((rd_T51 x132001 x3).f0) < 1 then (spec_ValidDict.j2 k x3 true x132000 x132001 ((rd_T51 x132001 x3).f0) ((rd_T51 x132001 x3).f1) ((rd_T51 x132001 x3).f2)) else (if ((rd_T51 x132001 x3).f0) ≥ x132000 then (spec_ValidDict.j2 k x3 true x132000 x132001 ((rd_T51 x132001 x3).f0) ((rd_T51 x132001 x3).f1) ((rd_T51 x132001 x3).f2)) else (if ((rd_T51 x132001 x3).f2) < 1 then (spec_ValidDict.j2 k x3 true x132000 x132001 ((rd_T51 x132001 x3).f0) ((rd_T51 x132001 x3).f1) ((rd_T51 x132001 x3).f2)) else (if ((rd_T51 x132001 x3).f2) > 2000000000 then (spec_ValidDict.j2 k x3 true x132000 x132001 ((rd_T51 x132001 x3).f0) ((rd_T51 x132001 x3).f1) ((rd_T51 x132001 x3).f2)) else (if x3 > 0 then (if 0 ≤ (wrap64 (x3 - 1)) then (if (wrap64 (x3 - 1)) < (x132001.length : Int) then (spec_ValidDict.j2 k x3 (!(Op.bytesLess (((rd_T51 x132001 (wrap64 (x3 - 1))).f1).toList) (((rd_T51 x132001 x3).f1).toList))) x132000 x132001 ((rd_T51 x132001 x3).f0) ((rd_T51 x132001 x3).f1) ((rd_T51 x132001 x3).f2)) else (none)) else (none)) else (spec_ValidDict.j2 k x3 false x132000 x132001 ((rd_T51 x132001 x3).f0) ((rd_T51 x132001 x3).f1) ((rd_T51 x132001 x3).f2))))))))) else (none)) else (some true)
def spec_ValidDict.j2 : Nat → Int → Bool → Int → List (S51) → Int → ByteArray → Int → Option (Bool)
  | 0, _, _, _, _, _, _, _ => none
  | k + 1, x3, x75, x132000, x132001, x135000, x135001, x135002 => if x75 = true then (some false) else (spec_ValidDict.l1 k x3 0 x132000 x132001 x135000 x135001 x135002)
def spec_ValidDict.l1 : Nat → Int → Int → Int → List (S51) → Int → ByteArray → Int → Option (Bool)
  | 0, _, _, _, _, _, _, _ => none
  | k + 1, x3, x5, x132000, x132001, x135000, x135001, x135002 => if x5 < x3 then (if 0 ≤ x5 then (if x5 < (x132001.length : Int) then (if ((rd_T51 x132001 x5).f0) = x135000 then (some false) else (spec_ValidDict.l1 k x3 (wrap64 (x5 + 1)) x132000 x132001 x135000 x135001 x135002)) else (none)) else (none)) else (spec_ValidDict.l0 k (wrap64 (x3 + 1)) x132000 x132001)
end
def spec_ValidDict.f (k : Nat) (a0_0 : Int) (l0_1 : List (S51)) : Option (Bool) := (spec_l2Number.f a0_0).bind fun t132 => (if t132 = true then (spec_ValidDict.j0 k (decide ((l0_1.length : Int) > 1200)) a0_0 l0_1) else (spec_ValidDict.j0 k true a0_0 l0_1))
theorem spec_ValidDict.mono_l : ∀ k, (∀ y0 y1 y2, LeO (spec_ValidDict.j0 k y0 y1 y2) (spec_ValidDict.j0 (k + 1) y0 y1 y2)) ∧ (∀ y0 y1 y2, LeO (spec_ValidDict.l0 k y0 y1 y2) (spec_ValidDict.l0 (k + 1) y0 y1 y2)) ∧ (∀ y0 y1 y2 y3 y4 y5 y6, LeO (spec_ValidDict.j2 k y0 y1 y2 y3 y4 y5 y6) (spec_ValidDict.j2 (k + 1) y0 y1 y2 y3 y4 y5 y6)) ∧ (∀ y0 y1 y2 y3 y4 y5 y6, LeO (spec_ValidDict.l1 k y0 y1 y2 y3 y4 y5 y6) (spec_ValidDict.l1 (k + 1) y0 y1 y2 y3 y4 y5 y6))
  | 0 => ⟨fun _ _ _ r h => by simp [spec_ValidDict.j0] at h, fun _ _ _ r h => by simp [spec_ValidDict.l0] at h, fun _ _ _ _ _ _ _ r h => by simp [spec_ValidDict.j2] at h, fun _ _ _ _ _ _ _ r h => by simp [spec_ValidDict.l1] at h⟩
  | k + 1 => by
    obtain ⟨ih0, ih1, ih2, ih3⟩ := spec_ValidDict.mono_l k
    refine ⟨?_, ?_, ?_, ?_⟩
    · intro y0 y1 y2
      unfold spec_ValidDict.j0
      repeat' first
      | (with_reducible exact ih0 _ _ _)
      | (with_reducible exact ih1 _ _ _)
      | (with_reducible exact ih2 _ _ _ _ _ _ _)
      | (with_reducible exact ih3 _ _ _ _ _ _ _)
      | (with_reducible exact LeO.refl _)
      | (with_reducible exact LeO.none _)
      | (with_reducible refine LeO.ite ?_ ?_)
      | (with_reducible refine LeO.bind ?_ (fun _ => ?_))
      | exact ih0 _ _ _
      | exact ih1 _ _ _
      | exact ih2 _ _ _ _ _ _ _
      | exact ih3 _ _ _ _ _ _ _
      | exact LeO.none _
      | refine LeO.ite ?_ ?_
      | refine LeO.bind ?_ (fun _ => ?_)
    · intro y0 y1 y2
      unfold spec_ValidDict.l0
      repeat' first
      | (with_reducible exact ih0 _ _ _)
      | (with_reducible exact ih1 _ _ _)
      | (with_reducible exact ih2 _ _ _ _ _ _ _)
      | (with_reducible exact ih3 _ _ _ _ _ _ _)
      | (with_reducible exact LeO.refl _)
      | (with_reducible exact LeO.none _)
      | (with_reducible refine LeO.ite ?_ ?_)
      | (with_reducible refine LeO.bind ?_ (fun _ => ?_))
      | exact ih0 _ _ _
      | exact ih1 _ _ _
      | exact ih2 _ _ _ _ _ _ _
      | exact ih3 _ _ _ _ _ _ _
      | exact LeO.none _
      | refine LeO.ite ?_ ?_
      | refine LeO.bind ?_ (fun _ => ?_)
    · intro y0 y1 y2 y3 y4 y5 y6
      unfold spec_ValidDict.j2
      repeat' first
      | (with_reducible exact ih0 _ _ _)
      | (with_reducible exact ih1 _ _ _)
      | (with_reducible exact ih2 _ _ _ _ _ _ _)
      | (with_reducible exact ih3 _ _ _ _ _ _ _)
      | (with_reducible exact LeO.refl _)
      | (with_reducible exact LeO.none _)
      | (with_reducible refine LeO.ite ?_ ?_)
      | (with_reducible refine LeO.bind ?_ (fun _ => ?_))
      | exact ih0 _ _ _
      | exact ih1 _ _ _
      | exact ih2 _ _ _ _ _ _ _
      | exact ih3 _ _ _ _ _ _ _
      | exact LeO.none _
      | refine LeO.ite ?_ ?_
      | refine LeO.bind ?_ (fun _ => ?_)
    · intro y0 y1 y2 y3 y4 y5 y6
      unfold spec_ValidDict.l1
      repeat' first
      | (with_reducible exact ih0 _ _ _)
      | (with_reducible exact ih1 _ _ _)
      | (with_reducible exact ih2 _ _ _ _ _ _ _)
      | (with_reducible exact ih3 _ _ _ _ _ _ _)
      | (with_reducible exact LeO.refl _)
      | (with_reducible exact LeO.none _)
      | (with_reducible refine LeO.ite ?_ ?_)
      | (with_reducible refine LeO.bind ?_ (fun _ => ?_))
      | exact ih0 _ _ _
      | exact ih1 _ _ _
      | exact ih2 _ _ _ _ _ _ _
      | exact ih3 _ _ _ _ _ _ _
      | exact LeO.none _
      | refine LeO.ite ?_ ?_
      | refine LeO.bind ?_ (fun _ => ?_)
theorem spec_ValidDict.mono : ∀ a0 a1 k, LeO (spec_ValidDict.f k a0 a1) (spec_ValidDict.f (k + 1) a0 a1) := by
  intro a0 a1 k
  obtain ⟨ih0, ih1, ih2, ih3⟩ := spec_ValidDict.mono_l k
  unfold spec_ValidDict.f
  repeat' first
      | (with_reducible exact ih0 _ _ _)
      | (with_reducible exact ih1 _ _ _)
      | (with_reducible exact ih2 _ _ _ _ _ _ _)
      | (with_reducible exact ih3 _ _ _ _ _ _ _)
      | (with_reducible exact LeO.refl _)
      | (with_reducible exact LeO.none _)
      | (with_reducible refine LeO.ite ?_ ?_)
      | (with_reducible refine LeO.bind ?_ (fun _ => ?_))
      | exact ih0 _ _ _
      | exact ih1 _ _ _
      | exact ih2 _ _ _ _ _ _ _
      | exact ih3 _ _ _ _ _ _ _
      | exact LeO.none _
      | refine LeO.ite ?_ ?_
      | refine LeO.bind ?_ (fun _ => ?_)

/-! ### spec_l4ByText: function 36 -/
def spec_l4ByText.l0 : Nat → ByteArray → Int → Int → List (S51) → Option (Int)
  | 0, _, _, _, _ => none
  | k + 1, x1, x5, x138000, x138001 => if x5 < (x138001.length : Int) then (if 0 ≤ x5 then (if ((rd_T51 x138001 x5).f1).toList = x1.toList then (some x5) else (spec_l4ByText.l0 k x1 (wrap64 (x5 + 1)) x138000 x138001)) else (none)) else (some (-1))
def spec_l4ByText.f (k : Nat) (a0_0 : Int) (l0_1 : List (S51)) (a1 : ByteArray) : Option (Int) := spec_l4ByText.l0 k a1 0 a0_0 l0_1
theorem spec_l4ByText.mono_l : ∀ k, (∀ y0 y1 y2 y3, LeO (spec_l4ByText.l0 k y0 y1 y2 y3) (spec_l4ByText.l0 (k + 1) y0 y1 y2 y3))
  | 0 => fun _ _ _ _ r h => by simp [spec_l4ByText.l0] at h
  | k + 1 => by
    have ih0 := spec_l4ByText.mono_l k
    · intro y0 y1 y2 y3
      unfold spec_l4ByText.l0
      repeat' first
      | (with_reducible exact ih0 _ _ _ _)
      | (with_reducible exact LeO.refl _)
      | (with_reducible exact LeO.none _)
      | (with_reducible refine LeO.ite ?_ ?_)
      | (with_reducible refine LeO.bind ?_ (fun _ => ?_))
      | exact ih0 _ _ _ _
      | exact LeO.none _
      | refine LeO.ite ?_ ?_
      | refine LeO.bind ?_ (fun _ => ?_)
theorem spec_l4ByText.mono : ∀ a0 a1 a2 k, LeO (spec_l4ByText.f k a0 a1 a2) (spec_l4ByText.f (k + 1) a0 a1 a2) := by
  intro a0 a1 a2 k
  have ih0 := spec_l4ByText.mono_l k
  unfold spec_l4ByText.f
  repeat' first
      | (with_reducible exact ih0 _ _ _ _)
      | (with_reducible exact LeO.refl _)
      | (with_reducible exact LeO.none _)
      | (with_reducible refine LeO.ite ?_ ?_)
      | (with_reducible refine LeO.bind ?_ (fun _ => ?_))
      | exact ih0 _ _ _ _
      | exact LeO.none _
      | refine LeO.ite ?_ ?_
      | refine LeO.bind ?_ (fun _ => ?_)
set_option maxHeartbeats 8000000 in
set_option maxRecDepth 100000 in
theorem spec_l4ByText.calls (k : Nat) (a0_0 : Int) (A0_1 : Option Addr) (c0_1 : Nat) (l0_1 : List (S51)) (a1 : ByteArray) (r : Int) (w : World) (hr0_1 : Kd.C k51 w A0_1 l0_1.length l0_1) (hc0_1 : l0_1.length ≤ c0_1) (h : spec_l4ByText.f k a0_0 l0_1 a1 = some r) :
    Calls Try.prog 36 #[.agg #[.int .i64 a0_0, .slice A0_1 l0_1.length c0_1], .string a1] w fun e w' => e = .returned (.int .i64 r) ∧ Below w.heap.size w w' := by
  have hu29 := Try.underlying29
  have HR0_1 := Aside0.mk hr0_1
  have HC0_1 := Aside0.mk hc0_1
  clear hr0_1 hc0_1
  have HB := Aside0.mk (Below.refl w.heap.size w)
  have H : (spec_l4ByText.l0 k a1 0 a0_0 l0_1) = some r := h
  clear h
  have H' := Aside0.mk H
  clear H
  go_enter Try.func36, Try.ntmps36
  go_wp2_with (first | ((with_reducible refine gate_dst (N := 2) rfl ?_); refine box_event ?hg (N := 2) ?hd (cs := #[.int .i64 a0_0, .slice A0_1 l0_1.length c0_1]) (t := 29) ?hr ?_; (case hd => rfl); (case hg => rfl); (case hr => first | (go_simp; done) | (go_simp; rfl)); intro gb137 hg w3 hbox hb; have n0_ := Aside0.mk (below_step (by repeat (first | (with_reducible first | exact HB.out | apply below_alloc | apply pw_below_drewN | apply below_drew1) | exact HB.out)) hb); have n1_ := Aside0.mk (hbox); have n2_ := Aside0.mk ((by rw [hg]; exact (below_size (by repeat (first | (with_reducible first | exact HB.out | apply below_alloc | apply pw_below_drewN | apply below_drew1) | exact HB.out))) : w.heap.size ≤ gb137)); have n3_ := Aside0.mk ((by rw [hg]; exact (below_size (by repeat (first | (with_reducible first | exact HB.out | apply below_alloc | apply pw_below_drewN | apply below_drew1) | exact HB.out))) : w.heap.size ≤ gb137)); clear HB; have HB := n0_; have BK137 := n1_; have GW137 := n2_; have GE137 := n3_; clear n0_ n1_ n2_ n3_; clear hb hbox hg))
  go_loopg [5] k (fun kq v5 w' => ∃ (x5_1 : Int), v5 = .int .i64 x5_1 ∧ Aside0 (spec_l4ByText.l0 kq a1 x5_1 a0_0 l0_1 = some r) ∧ Aside0 (kq ≤ k) ∧ Aside0 (w'.heap[gb137]? = some (.cells #[.int .i64 a0_0, (.slice A0_1 l0_1.length c0_1)] 29 (0, 0))) ∧ Aside0 (Below w.heap.size w w'))
  case atStart => exact ⟨(0), (by first | rfl | (simp; done) | (simp [*]; done)), H', ⟨Nat.le_refl _⟩, ⟨by (with_reducible repeat (first | refine blk_drewN ?_ _ | refine blk_drew ?_ | refine blk_alloc ?_ _)); exact BK137.out⟩, ⟨by repeat (first | (with_reducible first | exact HB.out | apply below_alloc | apply pw_below_drewN | apply below_drew1 | refine below_set ?_ GE137.out) | exact HB.out)⟩⟩
  case round =>
    clear H'
    try clear p2
    try clear c3
    obtain ⟨x5_1, rfl, HA, HK1, BK137, HB⟩ := hrel
    cases gk with
    | zero => exact absurd HA.out (by simp [spec_l4ByText.l0])
    | succ k1 =>
      have H := HA.out
      clear HA
      simp only [spec_l4ByText.l0] at H
      by_cases c4 : x5_1 < (l0_1.length : Int)
      · rw [if_pos c4] at H
        have c4b0 : decide (x5_1 < (l0_1.length : Int)) = true := decide_eq_true c4
        clear c4
        by_cases c5 : 0 ≤ x5_1
        · rw [if_pos c5] at H
          have c5b0 : decide (0 ≤ x5_1) = true := decide_eq_true c5
          clear c5
          by_cases c6 : ((rd_T51 l0_1 x5_1).f1).toList = a1.toList
          · rw [if_pos c6] at H
            have c6b0 : (((rd_T51 l0_1 x5_1).f1).toList == a1.toList) = true := beq_iff_eq.mpr c6
            have c6b1 : (((rd_T51 l0_1 x5_1).f1).toList != a1.toList) = false := bne_eq_false_iff_eq.mpr c6
            clear c6
            obtain rfl := Option.some.inj H
            have hcz7_0 : wr.cell? ⟨gb137, 0, none⟩ = some (.int .i64 a0_0) := (blk_cell BK137.out 0).trans rfl
            have hcz7_1 : wr.cell? ⟨gb137, 1, none⟩ = some (.slice A0_1 l0_1.length c0_1) := (blk_cell BK137.out 1).trans rfl
            have hfz7_0 := blk_frozen BK137.out 0
            have hfz7_1 := blk_frozen BK137.out 1
            have p138 : 0 ≤ (x5_1 : Int) := of_decide_eq_true (by first | (with_reducible assumption) | assumption)
            have q138 : x5_1 < (l0_1.length : Int) := of_decide_eq_true (by first | (with_reducible assumption) | assumption)
            obtain ⟨ad138, e138, hx138_0, hx138_1, hx138_2⟩ := at_T51 HR0_1.out x5_1 p138 q138
            cases e138
            replace hx138_0 := (HB.out.cell (World.block_lt_of_cell? w _ hx138_0)).trans hx138_0
            replace hx138_1 := (HB.out.cell (World.block_lt_of_cell? w _ hx138_1)).trans hx138_1
            replace hx138_2 := (HB.out.cell (World.block_lt_of_cell? w _ hx138_2)).trans hx138_2
            replace p138 := eq_true p138
            replace q138 := eq_true q138
            go_wp2
            go_ret
            exact ⟨by first | rfl | (simp [errW_none, errW_some] <;> rfl) | (simp [*, errW_none, errW_some] <;> rfl), by repeat (first | (with_reducible first | exact HB.out | apply below_alloc | apply pw_below_drewN | apply below_drew1 | refine below_set ?_ GE137.out) | exact HB.out)⟩
          · rw [if_neg c6] at H
            have c6b0 : (((rd_T51 l0_1 x5_1).f1).toList == a1.toList) = false := beq_eq_false_iff_ne.mpr c6
            have c6b1 : (((rd_T51 l0_1 x5_1).f1).toList != a1.toList) = true := bne_iff_ne.mpr c6
            have H' := Aside0.mk H
            clear H
            have hcz8_0 : wr.cell? ⟨gb137, 0, none⟩ = some (.int .i64 a0_0) := (blk_cell BK137.out 0).trans rfl
            have hcz8_1 : wr.cell? ⟨gb137, 1, none⟩ = some (.slice A0_1 l0_1.length c0_1) := (blk_cell BK137.out 1).trans rfl
            have hfz8_0 := blk_frozen BK137.out 0
            have hfz8_1 := blk_frozen BK137.out 1
            have p138 : 0 ≤ (x5_1 : Int) := of_decide_eq_true (by first | (with_reducible assumption) | assumption)
            have q138 : x5_1 < (l0_1.length : Int) := of_decide_eq_true (by first | (with_reducible assumption) | assumption)
            obtain ⟨ad138, e138, hx138_0, hx138_1, hx138_2⟩ := at_T51 HR0_1.out x5_1 p138 q138
            cases e138
            replace hx138_0 := (HB.out.cell (World.block_lt_of_cell? w _ hx138_0)).trans hx138_0
            replace hx138_1 := (HB.out.cell (World.block_lt_of_cell? w _ hx138_1)).trans hx138_1
            replace hx138_2 := (HB.out.cell (World.block_lt_of_cell? w _ hx138_2)).trans hx138_2
            replace p138 := eq_true p138
            replace q138 := eq_true q138
            go_wp2
            go_roundg k1
            case measure => have := HK1.out; omega
            case rel => exact ⟨(wrap64 (x5_1 + 1)), (by first | rfl | (simp; done) | (simp [*]; done)), H', ⟨by have := HK1.out; omega⟩, ⟨by (with_reducible repeat (first | refine blk_drewN ?_ _ | refine blk_drew ?_ | refine blk_alloc ?_ _)); exact BK137.out⟩, ⟨by repeat (first | (with_reducible first | exact HB.out | apply below_alloc | apply pw_below_drewN | apply below_drew1 | refine below_set ?_ GE137.out) | exact HB.out)⟩⟩
        · rw [if_neg c5] at H
          exact absurd H (by simp)
      · rw [if_neg c4] at H
        have c4b0 : decide (x5_1 < (l0_1.length : Int)) = false := decide_eq_false c4
        clear c4
        obtain rfl := Option.some.inj H
        have hcz9_0 : wr.cell? ⟨gb137, 0, none⟩ = some (.int .i64 a0_0) := (blk_cell BK137.out 0).trans rfl
        have hcz9_1 : wr.cell? ⟨gb137, 1, none⟩ = some (.slice A0_1 l0_1.length c0_1) := (blk_cell BK137.out 1).trans rfl
        have hfz9_0 := blk_frozen BK137.out 0
        have hfz9_1 := blk_frozen BK137.out 1
        go_wp2
        go_ret
        exact ⟨by first | rfl | (simp [errW_none, errW_some] <;> rfl) | (simp [*, errW_none, errW_some] <;> rfl), by repeat (first | (with_reducible first | exact HB.out | apply below_alloc | apply pw_below_drewN | apply below_drew1 | refine below_set ?_ GE137.out) | exact HB.out)⟩

/-! ### spec_l4Copy: function 38 -/
def spec_l4Copy.f (a0_0 : Int) (l0_1 : List (S51)) : Option (Int × (List (S51))) := (some (([] : List (S51)) : List (S51))).bind fun y141 => (if y141.length + l0_1.length < 4398046511104 then (some (a0_0, (y141 ++ l0_1))) else (none))
def spec_l4Copy.T1 : Bool × List (List Nat × List Nat) := (true, [([], []), ([0], [0]), ([], []), ([], []), ([3], [3]), ([2, 4], [2, 4]), ([1, 5], [1, 5]), ([6, 5, 0, 1, 2, 3, 4, 5, 6], [6])])
def spec_l4Copy.B1 : List Nat := [0, 1, 0, 0, 8, 28, 63, 127]
theorem spec_l4Copy.tab1 : rtab .any (opsOf Try.f38 1) = spec_l4Copy.T1 := by kernel_rfl
theorem spec_l4Copy.bits1 : waitsOk spec_l4Copy.T1.2 spec_l4Copy.B1 = true := by kernel_rfl
set_option maxHeartbeats 8000000 in
set_option maxRecDepth 100000 in
theorem spec_l4Copy.calls (a0_0 : Int) (A0_1 : Option Addr) (c0_1 : Nat) (l0_1 : List (S51)) (r1 : Int) (r2 : List (S51)) (w : World) (hr0_1 : Kd.C k51 w A0_1 l0_1.length l0_1) (hc0_1 : l0_1.length ≤ c0_1) (h : spec_l4Copy.f a0_0 l0_1 = some (r1, r2)) :
    Calls Try.prog 38 #[.agg #[.int .i64 a0_0, .slice A0_1 l0_1.length c0_1]] w fun e w' => ∃ v1_ : Value, e = .returned (.agg #[.int .i64 r1, v1_]) ∧ Kd.R k51 51 w' w.heap.size (fun _ => True) v1_ r2 ∧ Below w.heap.size w w' := by
  have hu29 := Try.underlying29
  have HR0_1 := Aside0.mk hr0_1
  have HC0_1 := Aside0.mk hc0_1
  clear hr0_1 hc0_1
  have HB := Aside0.mk (Below.refl w.heap.size w)
  have H : ((some (([] : List (S51)) : List (S51))).bind fun y141 => (if y141.length + l0_1.length < 4398046511104 then (some (a0_0, (y141 ++ l0_1))) else (none))) = some (r1, r2) := h
  clear h
  obtain ⟨y141, hy141⟩ : ∃ y_ : List (S51), y_ = (([] : List (S51))) := ⟨_, rfl⟩
  replace H : (if y141.length + l0_1.length < 4398046511104 then (some (a0_0, (y141 ++ l0_1))) else (none)) = some (r1, r2) := by first | (rw [hy141]; with_reducible exact H) | (have H2_ := (Option.bind_some _ _).symm.trans H; rw [hy141]; with_reducible exact H2_) | (have H2_ := (Option.bind_some _ _).symm.trans H; with_reducible exact H2_) | with_reducible exact H | (rw [hy141]; exact H) | exact H
  have Ny141 := Aside0.mk hy141
  clear hy141
  by_cases c2 : y141.length + l0_1.length < 4398046511104
  · rw [if_pos c2] at H
    have LMc2 := Aside0.mk c2
    clear c2
    obtain ⟨y144, hy144⟩ : ∃ y_ : List (S51), y_ = (y141 ++ l0_1) := ⟨_, rfl⟩
    replace H : (some (a0_0, y144)) = some (r1, r2) := by first | (rw [hy144]; with_reducible exact H) | (have H2_ := (Option.bind_some _ _).symm.trans H; rw [hy144]; with_reducible exact H2_) | (have H2_ := (Option.bind_some _ _).symm.trans H; with_reducible exact H2_) | with_reducible exact H | (rw [hy144]; exact H) | exact H
    have Ny144 := Aside0.mk hy144
    clear hy144
    simp only [Option.some.injEq, Prod.mk.injEq] at H
    obtain ⟨rfl, rfl⟩ := H
    go_enter Try.func38, Try.ntmps38
    try go_wp2_with (first | ((with_reducible refine gate_dst (N := 1) rfl ?_); refine box_event ?hg (N := 1) ?hd (cs := #[.int .i64 a0_0, .slice A0_1 l0_1.length c0_1]) (t := 29) ?hr ?_; (case hd => rfl); (case hg => rfl); (case hr => first | (go_simp; done) | (go_simp; rfl)); intro gb139 hg w3 hbox hb; have n0_ := Aside0.mk (below_step (by repeat (first | (with_reducible first | exact HB.out | apply below_alloc | apply pw_below_drewN | apply below_drew1) | exact HB.out)) hb); have n1_ := Aside0.mk (hbox); have n2_ := Aside0.mk ((by rw [hg]; exact (below_size (by repeat (first | (with_reducible first | exact HB.out | apply below_alloc | apply pw_below_drewN | apply below_drew1) | exact HB.out))) : w.heap.size ≤ gb139)); have n3_ := Aside0.mk ((by rw [hg]; exact (below_size (by repeat (first | (with_reducible first | exact HB.out | apply below_alloc | apply pw_below_drewN | apply below_drew1) | exact HB.out))) : w.heap.size ≤ gb139)); clear HB; have HB := n0_; have BK139 := n1_; have GW139 := n2_; have GE139 := n3_; clear n0_ n1_ n2_ n3_; clear hb hbox hg) | ((with_reducible refine gate_dst (N := 2) rfl ?_); refine box_event ?hg (N := 2) ?hd (cs := #[.int .i64 0, .slice none 0 0]) (t := 29) ?hr ?_; (case hd => rfl); (case hg => rfl); (case hr => first | (go_simp; done) | (go_simp; rfl)); intro gb140 hg w4 hbox hb; have n0_ := Aside0.mk (blk_below (g := gb139) (o := .cells #[.int .i64 a0_0, .slice A0_1 l0_1.length c0_1] 29 (0, 0)) (by (with_reducible repeat (first | refine blk_drewN ?_ _ | refine blk_drew ?_ | refine blk_alloc ?_ _)); exact BK139.out) hb); have n1_ := Aside0.mk (below_step (by repeat (first | (with_reducible first | exact HB.out | apply below_alloc | apply pw_below_drewN | apply below_drew1 | refine below_set ?_ GE139.out) | exact HB.out)) hb); have n2_ := Aside0.mk (hbox); have n3_ := Aside0.mk ((by rw [hg]; exact (below_size (by repeat (first | (with_reducible first | exact HB.out | apply below_alloc | apply pw_below_drewN | apply below_drew1 | refine below_set ?_ GE139.out) | exact HB.out))) : w.heap.size ≤ gb140)); have n4_ := Aside0.mk ((by rw [hg]; exact (below_size (by repeat (first | (with_reducible first | exact HB.out | apply below_alloc | apply pw_below_drewN | apply below_drew1 | refine below_set ?_ GE139.out) | exact HB.out))) : w.heap.size ≤ gb140)); have n5_ := Aside0.mk ((by rw [hg]; exact Nat.ne_of_lt (blk_lt (g := gb139) (o := .cells #[.int .i64 a0_0, .slice A0_1 l0_1.length c0_1] 29 (0, 0)) (by (with_reducible repeat (first | refine blk_drewN ?_ _ | refine blk_drew ?_ | refine blk_alloc ?_ _)); exact BK139.out)) : gb139 ≠ gb140)); have n6_ := Aside0.mk ((by rw [hg]; exact Nat.ne_of_gt (blk_lt (g := gb139) (o := .cells #[.int .i64 a0_0, .slice A0_1 l0_1.length c0_1] 29 (0, 0)) (by (with_reducible repeat (first | refine blk_drewN ?_ _ | refine blk_drew ?_ | refine blk_alloc ?_ _)); exact BK139.out)) : gb140 ≠ gb139)); clear BK139; clear HB; have BK139 := n0_; have HB := n1_; have BK140 := n2_; have GW140 := n3_; have GE140 := n4_; have NB139_140 := n5_; have NB140_139 := n6_; clear n0_ n1_ n2_ n3_ n4_ n5_ n6_; clear hb hbox hg))
    have n0_ := Aside0.mk (blk_drew BK139.out)
    have n1_ := Aside0.mk (blk_drew BK140.out)
    have n2_ := Aside0.mk (below_drew1 HB.out)
    clear BK139
    clear BK140
    clear HB
    have BK139 := n0_
    have BK140 := n1_
    have HB := n2_
    clear n0_ n1_ n2_
    refine start_ (n := 8) (S := fun w' => w'.cell? ⟨gb139, 0, none⟩ = some (.int .i64 a0_0) ∧ w'.cell? ⟨gb139, 1, none⟩ = some (.slice A0_1 l0_1.length c0_1)) (ds := []) #[false, false, false, false, false, false, false, false] (by kernel_rfl) rfl rfl ⟨(blk_cell BK139.out 0).trans rfl, (blk_cell BK139.out 1).trans rfl⟩ (fun hHeld => ?_); refine with_tabW spec_l4Copy.tab1 spec_l4Copy.bits1 (fun HT_ HW_ => ?_)
    generalize w4.drew = w5 at BK139 BK140 HB hHeld ⊢
    refine pure_ (i := 0) (N := some 3) (v := ?_) (a' := ?_) #[true, false, false, false, false, false, false, false] rfl rfl (any_of HT_.out (by kernel_rfl)) (fun _ _ _ h => h) (Or.inl ⟨by rfl, ?_⟩) ?_ ?_
    rotate_left
    · intro w'
      go_simp
      with_reducible rfl
    rotate_left
    · simp only [Act.put, List.setIfInBounds_toArray, List.set_cons_zero, List.set_cons_succ, i64_w, i32_w]
      rfl
    refine pure_ (i := 3) (N := some 6) (v := ?_) (a' := ?_) #[true, false, false, true, false, false, false, false] rfl rfl (any_of HT_.out (by kernel_rfl)) (fun _ _ _ h => h) (Or.inl ⟨by rfl, ?_⟩) ?_ ?_
    rotate_left
    · intro w'
      go_simp
      with_reducible rfl
    rotate_left
    · simp only [Act.put, List.setIfInBounds_toArray, List.set_cons_zero, List.set_cons_succ, i64_w, i32_w]
      rfl
    refine take_ (i := 1) (N := some 4) (v := ?_) (a' := ?_) #[true, true, false, true, false, false, false, false] rfl rfl (take_ofW HT_.out HW_.out (by kernel_rfl)) (fun _ _ _ h => h) (Or.inl ⟨by rfl, ?_⟩) hHeld ?_ ?_
    rotate_left
    · rintro w' ⟨s0, s1⟩
      go_simp
      with_reducible rfl
    rotate_left
    · simp only [Act.put, List.setIfInBounds_toArray, List.set_cons_zero, List.set_cons_succ, i64_w, i32_w]
      rfl
    refine take_ (i := 4) (N := some 7) (v := ?_) (a' := ?_) #[true, true, false, true, true, false, false, false] rfl rfl (take_ofW HT_.out HW_.out (by kernel_rfl)) (fun _ _ _ h => h) (Or.inl ⟨by rfl, ?_⟩) hHeld ?_ ?_
    rotate_left
    · rintro w' ⟨s0, s1⟩
      go_simp
      with_reducible rfl
    rotate_left
    · simp only [Act.put, List.setIfInBounds_toArray, List.set_cons_zero, List.set_cons_succ, i64_w, i32_w]
      rfl
    refine one_ (i := 2) (N := some 5) #[true, true, true, true, true, false, false, false] rfl rfl (one_of HT_.out (by kernel_rfl)) (by decide) (fun K hK => ?_)
    refine Kd.R_lit_step k51 _ 51 ?hg (N := 5) ?hd (xs := ([] : List (S51))) (inner := []) (ok := fun _ => True) (okp := fun _ => True) ?hr ?hp (fun _ hk => hk) trivial (Below.refl _ _) (Nat.le_refl _) (by simp) ?_; (case hd => rfl); (case hg => rfl); (case hr => first | (go_simp; done) | (go_simp; rfl)); (case hp => exact (Reps.none _ _))
    intro v142 w6 ho7 hb hg_ hnew_
    clear hg_ hnew_
    (first | rw [← Ny141.out] at ho7 | (simp only [Int.reduceToNat] at ho7; rw [← Ny141.out] at ho7))
    have n0_ := Aside0.mk (Kd.R_lower ho7 (below_size (by repeat (first | (with_reducible first | exact HB.out | apply below_alloc | apply pw_below_drewN | apply below_drew1 | refine below_set ?_ GE139.out | refine below_set ?_ GE140.out) | exact HB.out))))
    have n1_ := Aside0.mk (blk_below (g := gb139) (o := .cells #[.int .i64 a0_0, .slice A0_1 l0_1.length c0_1] 29 (0, 0)) (by (with_reducible repeat (first | refine blk_drewN ?_ _ | refine blk_drew ?_ | refine blk_alloc ?_ _)); exact BK139.out) hb)
    have n2_ := Aside0.mk (blk_below (g := gb140) (o := .cells #[.int .i64 0, .slice none 0 0] 29 (0, 0)) (by (with_reducible repeat (first | refine blk_drewN ?_ _ | refine blk_drew ?_ | refine blk_alloc ?_ _)); exact BK140.out) hb)
    have n3_ := Aside0.mk (below_step (by repeat (first | (with_reducible first | exact HB.out | apply below_alloc | apply pw_below_drewN | apply below_drew1 | refine below_set ?_ GE139.out | refine below_set ?_ GE140.out) | exact HB.out)) hb)
    clear BK139
    clear BK140
    clear HB
    have HO143 := n0_
    have BK139 := n1_
    have BK140 := n2_
    have HB := n3_
    clear n0_ n1_ n2_ n3_
    clear hb ho7
    refine hK.out _ _ ⟨(blk_cell BK139.out 0).trans rfl, (blk_cell BK139.out 1).trans rfl⟩ (fun hHeld => ?_)
    clear hK K
    refine norm_ (a' := ?_) ?_ ?_
    rotate_left
    · show Act.put _ (some 5) _ = _
      simp only [Act.put, List.setIfInBounds_toArray, List.set_cons_zero, List.set_cons_succ, i64_w, i32_w]
      rfl
    refine one_ (i := 5) (N := some 8) #[true, true, true, true, true, true, false, false] rfl rfl (one_of HT_.out (by kernel_rfl)) (by decide) (fun K hK => ?_)
    refine Kd.R_append_rows_step k51 (w0 := w) w.heap.size (by rfl) (.tmp 5) (.tmp 7) 27 51 (.agg #[(.int .i64 0), (.string ⟨#[]⟩), (.int .i64 0)]) 32 rfl Try.underlying27 info51 rfl (by decide) (by omega) v142 y141 l0_1 _ _ _ (fun _ => True) (fun _ => False) rfl rfl ?aO ?aR (fun _ _ h => h) (fun _ h => h.elim) ?aF ?aB ?aS ?aL ?_
    (case aR => repeat (first | exact (Kd.C_below HR0_1.out HB.out) | (with_reducible refine Kd.C_alloc ?_ _) | (with_reducible refine Kd.C_drewN ?_ _) | (with_reducible refine Kd.C_drew ?_)))
    (case aB => exact (by repeat (first | (with_reducible first | exact HB.out | apply below_alloc | apply pw_below_drewN | apply below_drew1 | refine below_set ?_ GE139.out | refine below_set ?_ GE140.out) | exact HB.out)))
    (case aF => exact (fun _ _ => trivial))
    (case aO => exact (by (with_reducible repeat (first | apply Kd.R_alloc | apply Kd.R_drewN | apply Kd.R_drew)); exact HO143.out))
    (case aS => exact (below_size (by repeat (first | (with_reducible first | exact HB.out | apply below_alloc | apply pw_below_drewN | apply below_drew1 | refine below_set ?_ GE139.out | refine below_set ?_ GE140.out) | exact HB.out))))
    (case aL => have := LMc2.out; omega)
    intro v145 w8 ho hb hg hat
    rw [← Ny144.out] at ho
    have n0_ := Aside0.mk (blk_grown (g := gb139) (o := .cells #[.int .i64 a0_0, .slice A0_1 l0_1.length c0_1] 29 (0, 0)) (by (with_reducible repeat (first | refine blk_drewN ?_ _ | refine blk_drew ?_ | refine blk_alloc ?_ _)); exact BK139.out) hg (Kd.R_ne HO143.out BK139.out (by decide)))
    have n1_ := Aside0.mk (blk_grown (g := gb140) (o := .cells #[.int .i64 0, .slice none 0 0] 29 (0, 0)) (by (with_reducible repeat (first | refine blk_drewN ?_ _ | refine blk_drew ?_ | refine blk_alloc ?_ _)); exact BK140.out) hg (Kd.R_ne HO143.out BK140.out (by decide)))
    have n2_ := Aside0.mk (hb)
    have n3_ := Aside0.mk (ho)
    clear BK139
    clear BK140
    clear HB
    clear HO143
    have BK139 := n0_
    have BK140 := n1_
    have HB := n2_
    have HO146 := n3_
    clear n0_ n1_ n2_ n3_
    clear ho hb hg hat
    obtain ⟨Ao9, co9, eo9⟩ := Kd.R_slice HO146.out
    (first | subst eo9 | (injection eo9 with f1_ f2_ f3_; have f4_ := f1_.symm; have f5_ := f3_.symm; clear f1_ f2_ f3_; subst f4_; subst f5_))
    refine hK.out _ _ ⟨(blk_cell BK139.out 0).trans rfl, (blk_cell BK139.out 1).trans rfl⟩ (fun hHeld => ?_)
    clear hK K
    refine norm_ (a' := ?_) ?_ ?_
    rotate_left
    · show Act.put _ (some 8) _ = _
      simp only [Act.put, List.setIfInBounds_toArray, List.set_cons_zero, List.set_cons_succ, i64_w, i32_w]
      rfl
    refine pure_ (i := 6) (N := some 9) (v := ?_) (a' := ?_) #[true, true, true, true, true, true, true, false] rfl rfl (any_of HT_.out (by kernel_rfl)) (fun _ _ _ h => h) (Or.inl ⟨by rfl, ?_⟩) ?_ ?_
    rotate_left
    · intro w'
      go_simp
      with_reducible rfl
    rotate_left
    · simp only [Act.put, List.setIfInBounds_toArray, List.set_cons_zero, List.set_cons_succ, i64_w, i32_w]
      rfl
    refine one_ (i := 7) (N := none) #[true, true, true, true, true, true, true, true] rfl rfl (one_of HT_.out (by kernel_rfl)) (by decide) (fun K hK => ?_)
    have hs10 : w8.cell? ⟨gb140, 0, none⟩ = some (.int .i64 0) := (blk_cell BK140.out 0).trans rfl
    have hfs10 := blk_frozen BK140.out 0
    have hns10_0 := NB139_140.out
    have hms10_0 := NB140_139.out
    have hs11 : w8.cell? ⟨gb140, 1, none⟩ = some (.slice none 0 0) := (blk_cell BK140.out 1).trans rfl
    have hfs11 := blk_frozen BK140.out 1
    have hns11_0 := NB139_140.out
    have hms11_0 := NB140_139.out
    refine skip_ (w1 := ?_) (by rfl) rfl ?_ ?_
    rotate_left
    · go_simp
      rfl
    refine hK.out _ _ ⟨((cell_far (p := ⟨gb140, _, none⟩) NB139_140.out _).trans (((cell_far (p := ⟨gb140, _, none⟩) NB139_140.out _).trans (hHeld.1)))), ((cell_far (p := ⟨gb140, _, none⟩) NB139_140.out _).trans (((cell_far (p := ⟨gb140, _, none⟩) NB139_140.out _).trans (hHeld.2))))⟩ (fun hHeld => ?_)
    clear hK K
    refine done_ (done_of HT_.out (by kernel_rfl)) ?_
    try go_wp2
    refine bodyPost_ret (results_cell_row rfl _ _ gb140 29 #[.int .i64 a0_0, .slice Ao9 y144.length co9] (0, 0) _ rfl (by (with_reducible repeat (first | refine blk_drewN ?_ _ | refine blk_drew ?_ | refine blk_alloc ?_ _)); refine blk_put (cs := #[.int .i64 a0_0, .slice none 0 0]) ?_ 1 _ rfl; (with_reducible repeat (first | refine blk_drewN ?_ _ | refine blk_drew ?_ | refine blk_alloc ?_ _)); refine blk_put (cs := #[.int .i64 0, .slice none 0 0]) ?_ 0 _ rfl; (with_reducible repeat (first | refine blk_drewN ?_ _ | refine blk_drew ?_ | refine blk_alloc ?_ _)); exact BK140.out) Try.underlying29 rfl (by kernel_rfl)) rfl ?_
    exact ⟨_, by first | rfl | (simp [errW_none, errW_some] <;> rfl) | (simp [*, errW_none, errW_some] <;> rfl), by (with_reducible repeat (first | apply Kd.R_alloc | apply Kd.R_drewN | apply Kd.R_drew)); exact Kd.R_mono (Kd.R_far (p := ⟨gb140, 1, none⟩) (Kd.R_far (p := ⟨gb140, 0, none⟩) (Kd.R_types HO146.out BK140.out (by decide)) (fun _ hk => hk.2) (.int .i64 a0_0)) (fun _ hk => hk.2) (.slice Ao9 y144.length co9)) (fun _ hk => trivial), by repeat (first | (with_reducible first | exact HB.out | apply below_alloc | apply pw_below_drewN | apply below_drew1 | refine below_set ?_ GE139.out | refine below_set ?_ GE140.out) | exact HB.out)⟩
  · rw [if_neg c2] at H
    exact absurd H (by simp)

/-! ### L_dict: a text by hand -/
theorem ev_eq {α : Type} {g : Nat → Option α} {r r' : α} (hg : ∀ k, LeO (g k) (g (k + 1))) (h : Ev g r) {k : Nat} (h' : g k = some r') : r' = r := by
  obtain ⟨K, h⟩ := h
  have h1 := at_rounds hg (Nat.le_max_left k K) h'
  rw [h (max k K) (Nat.le_max_right _ _)] at h1
  exact (Option.some.inj h1).symm
def gT (l : List S51) (i : Nat) : S51 := l.getD i z51
theorem gT_rd (l : List S51) (i : Nat) : rd_T51 l (i : Int) = gT l i := by unfold rd_T51 gT; rw [Int.toNat_natCast]
theorem gT_at (l : List S51) (i : Nat) (h : i < l.length) : gT l i = l[i] := by unfold gT; rw [List.getD_eq_getElem?_getD, List.getElem?_eq_getElem h]; rfl
def noId (l : List S51) (id : Int) : Nat → Nat → Bool
  | _, 0 => true
  | j, e + 1 => if (gT l j).f0 = id then false else noId l id (j + 1) e
def tOrd (l : List S51) (i : Nat) : Bool := decide (i = 0) || Op.bytesLess (gT l (i - 1)).f1.toList (gT l i).f1.toList
def tPre (next : Int) (l : List S51) (i : Nat) : Bool :=
  decide (1 ≤ ((gT l i).f1.size : Int)) && decide (((gT l i).f1.size : Int) ≤ 30) && decide (1 ≤ (gT l i).f0) && decide ((gT l i).f0 < next) && decide (1 ≤ (gT l i).f2) && decide ((gT l i).f2 ≤ 2000000000) && tOrd l i
def vFrom (next : Int) (l : List S51) : Nat → Nat → Bool
  | _, 0 => true
  | i, d + 1 => tPre next l i && noId l (gT l i).f0 0 i && vFrom next l (i + 1) d
def vT (next : Int) (l : List S51) : Bool := decide (1 ≤ next) && decide (next ≤ 2000000000) && decide (l.length ≤ 1200) && vFrom next l 0 l.length
theorem tPre_cases (next : Int) (l : List S51) (i : Nat) : (tPre next l i = true ↔ 1 ≤ ((gT l i).f1.size : Int) ∧ ((gT l i).f1.size : Int) ≤ 30 ∧ 1 ≤ (gT l i).f0 ∧ (gT l i).f0 < next ∧ 1 ≤ (gT l i).f2 ∧ (gT l i).f2 ≤ 2000000000 ∧ tOrd l i = true) := by
  unfold tPre
  simp only [Bool.and_eq_true, decide_eq_true_eq, and_assoc]
theorem vl1_ev (next : Int) (l : List S51) (i : Nat) (hi : i < l.length) (hl : l.length ≤ 1200) (a b : Int) (c : ByteArray) (R : Bool) (h : Ev (fun k => spec_ValidDict.l0 k (wrap64 ((i : Int) + 1)) next l) R) :
    ∀ (e j : Nat), j + e = i → Ev (fun k => spec_ValidDict.l1 k (i : Int) (j : Int) next l a c b) (noId l a j e && R) := by
  intro e
  induction e with
  | zero => intro j hj; exact Ev.step (fun K => by simp only [spec_ValidDict.l1]; rw [if_neg (by omega)]) (by simpa [noId] using h)
  | succ e ih =>
    intro j hj
    have ih' := ih (j + 1) (by omega)
    unfold noId
    by_cases c1 : (gT l j).f0 = a
    · rw [if_pos c1, Bool.false_and]
      exact Ev.step (fun K => by simp only [spec_ValidDict.l1]; rw [if_pos (by omega), if_pos (by omega), if_pos (by omega), gT_rd, if_pos c1]) (Ev.now _)
    · rw [if_neg c1]
      exact Ev.step (fun K => by simp only [spec_ValidDict.l1]; rw [if_pos (by omega), if_pos (by omega), if_pos (by omega), gT_rd, if_neg c1, show wrap64 ((j : Int) + 1) = ((j + 1 : Nat) : Int) by unfold wrap64; omega]) ih'
theorem vl0_ev (next : Int) (l : List S51) (hl : l.length ≤ 1200) : ∀ (d i : Nat), i + d = l.length → Ev (fun k => spec_ValidDict.l0 k (i : Int) next l) (vFrom next l i d) := by
  intro d
  induction d with
  | zero => intro i hi; exact Ev.step (f := fun _ => some true) (fun K => by simp only [spec_ValidDict.l0]; rw [if_neg (by omega)]) (Ev.now _)
  | succ d ih =>
    intro i hi
    have ih' := ih (i + 1) (by omega)
    rw [show ((i + 1 : Nat) : Int) = wrap64 ((i : Int) + 1) by unfold wrap64; omega] at ih'
    unfold vFrom
    have jt : Ev (fun k => spec_ValidDict.j2 k (i : Int) true next l (gT l i).f0 (gT l i).f1 (gT l i).f2) false := Ev.step (fun K => by simp only [spec_ValidDict.j2]; rw [if_true]) (Ev.now _)
    have jf : Ev (fun k => spec_ValidDict.j2 k (i : Int) false next l (gT l i).f0 (gT l i).f1 (gT l i).f2) (noId l (gT l i).f0 0 i && vFrom next l (i + 1) d) :=
      Ev.step (fun K => by simp only [spec_ValidDict.j2]; rw [if_neg (by decide)]; rfl) (vl1_ev next l i (by omega) hl (gT l i).f0 (gT l i).f2 (gT l i).f1 _ ih' i 0 (by omega))
    rw [Bool.and_assoc]
    have st : ∀ {g : Nat → Option Bool} {R : Bool}, Ev g R → (∀ K, spec_ValidDict.l0 (K + 1) (i : Int) next l = g K) → Ev (fun k => spec_ValidDict.l0 k (i : Int) next l) R := fun h1 h2 => Ev.step h2 h1
    by_cases c1 : ((gT l i).f1.size : Int) < 1
    · rw [show tPre next l i = false by cases h : tPre next l i; rfl; exact absurd ((tPre_cases _ _ _).1 h).1 (by omega), Bool.false_and]
      exact st jt (fun K => by simp only [spec_ValidDict.l0]; rw [if_pos (by omega), if_pos (by omega), gT_rd, if_pos c1])
    by_cases c2 : ((gT l i).f1.size : Int) > 30
    · rw [show tPre next l i = false by cases h : tPre next l i; rfl; exact absurd ((tPre_cases _ _ _).1 h).2.1 (by omega), Bool.false_and]
      exact st jt (fun K => by simp only [spec_ValidDict.l0]; rw [if_pos (by omega), if_pos (by omega), gT_rd, if_neg c1, if_pos c2])
    by_cases c3 : (gT l i).f0 < 1
    · rw [show tPre next l i = false by cases h : tPre next l i; rfl; exact absurd ((tPre_cases _ _ _).1 h).2.2.1 (by omega), Bool.false_and]
      exact st jt (fun K => by simp only [spec_ValidDict.l0]; rw [if_pos (by omega), if_pos (by omega), gT_rd, if_neg c1, if_neg c2, if_pos c3])
    by_cases c4 : (gT l i).f0 ≥ next
    · rw [show tPre next l i = false by cases h : tPre next l i; rfl; exact absurd ((tPre_cases _ _ _).1 h).2.2.2.1 (by omega), Bool.false_and]
      exact st jt (fun K => by simp only [spec_ValidDict.l0]; rw [if_pos (by omega), if_pos (by omega), gT_rd, if_neg c1, if_neg c2, if_neg c3, if_pos c4])
    by_cases c5 : (gT l i).f2 < 1
    · rw [show tPre next l i = false by cases h : tPre next l i; rfl; exact absurd ((tPre_cases _ _ _).1 h).2.2.2.2.1 (by omega), Bool.false_and]
      exact st jt (fun K => by simp only [spec_ValidDict.l0]; rw [if_pos (by omega), if_pos (by omega), gT_rd, if_neg c1, if_neg c2, if_neg c3, if_neg c4, if_pos c5])
    by_cases c6 : (gT l i).f2 > 2000000000
    · rw [show tPre next l i = false by cases h : tPre next l i; rfl; exact absurd ((tPre_cases _ _ _).1 h).2.2.2.2.2.1 (by omega), Bool.false_and]
      exact st jt (fun K => by simp only [spec_ValidDict.l0]; rw [if_pos (by omega), if_pos (by omega), gT_rd, if_neg c1, if_neg c2, if_neg c3, if_neg c4, if_neg c5, if_pos c6])
    have hpre : tPre next l i = tOrd l i := by
      unfold tPre
      rw [decide_eq_true (show 1 ≤ ((gT l i).f1.size : Int) by omega), decide_eq_true (show ((gT l i).f1.size : Int) ≤ 30 by omega), decide_eq_true (show 1 ≤ (gT l i).f0 by omega), decide_eq_true (show (gT l i).f0 < next by omega), decide_eq_true (show 1 ≤ (gT l i).f2 by omega), decide_eq_true (show (gT l i).f2 ≤ 2000000000 by omega)]
      rfl
    rw [hpre]
    by_cases c7 : (i : Int) > 0
    · have hw : wrap64 ((i : Int) - 1) = ((i - 1 : Nat) : Int) := by unfold wrap64; omega
      have ho : tOrd l i = Op.bytesLess (gT l (i - 1)).f1.toList (gT l i).f1.toList := by unfold tOrd; rw [decide_eq_false (by omega), Bool.false_or]
      rw [ho]
      cases hb : Op.bytesLess (gT l (i - 1)).f1.toList (gT l i).f1.toList with
      | false =>
        rw [Bool.false_and]
        exact st jt (fun K => by simp only [spec_ValidDict.l0]; rw [if_pos (by omega), if_pos (by omega), gT_rd, if_neg c1, if_neg c2, if_neg c3, if_neg c4, if_neg c5, if_neg c6, if_pos c7, hw, if_pos (by omega), if_pos (by omega), gT_rd, hb]; rfl)
      | true =>
        rw [Bool.true_and]
        exact st jf (fun K => by simp only [spec_ValidDict.l0]; rw [if_pos (by omega), if_pos (by omega), gT_rd, if_neg c1, if_neg c2, if_neg c3, if_neg c4, if_neg c5, if_neg c6, if_pos c7, hw, if_pos (by omega), if_pos (by omega), gT_rd, hb]; rfl)
    · rw [show tOrd l i = true by unfold tOrd; rw [decide_eq_true (by omega), Bool.true_or], Bool.true_and]
      exact st jf (fun K => by simp only [spec_ValidDict.l0]; rw [if_pos (by omega), if_pos (by omega), gT_rd, if_neg c1, if_neg c2, if_neg c3, if_neg c4, if_neg c5, if_neg c6, if_neg c7])
theorem specValid_ev (next : Int) (l : List S51) : Ev (fun k => spec_ValidDict.f k next l) (vT next l) := by
  have jt : Ev (fun k => spec_ValidDict.j0 k true next l) false := Ev.step (fun K => by simp only [spec_ValidDict.j0]; rw [if_true]) (Ev.now _)
  unfold spec_ValidDict.f spec_l2Number.f vT
  by_cases c1 : next ≥ 1
  · rw [if_pos c1, decide_eq_true (show 1 ≤ next from c1), Bool.true_and]
    refine Ev.congr (fun K => by rw [Option.bind_some]) ?_
    by_cases c2 : next ≤ 2000000000
    · rw [decide_eq_true c2, Bool.true_and]
      by_cases c3 : l.length ≤ 1200
      · rw [decide_eq_true c3, Bool.true_and]
        exact Ev.congr (fun K => by rw [if_pos rfl, decide_eq_false (by omega)]) (Ev.step (fun K => by simp only [spec_ValidDict.j0]; rw [if_neg (by decide)]; rfl) (vl0_ev next l c3 l.length 0 (by omega)))
      · rw [decide_eq_false c3, Bool.false_and]
        exact Ev.congr (fun K => by rw [if_pos rfl, decide_eq_true (by omega)]) jt
    · rw [decide_eq_false c2, Bool.false_and, Bool.false_and]
      exact Ev.congr (fun K => by rw [if_neg (by decide)]) jt
  · rw [if_neg c1, decide_eq_false (show ¬ 1 ≤ next from c1), Bool.false_and, Bool.false_and, Bool.false_and]
    exact Ev.congr (fun K => by rw [Option.bind_some, if_neg (by decide)]) jt
theorem vT_facts {next : Int} {l : List S51} (h : vT next l = true) : 1 ≤ next ∧ next ≤ 2000000000 ∧ l.length ≤ 1200 ∧ vFrom next l 0 l.length = true := by
  unfold vT at h
  simp only [Bool.and_eq_true, decide_eq_true_eq] at h
  exact ⟨h.1.1.1, h.1.1.2, h.1.2, h.2⟩

/-! ### spec_ValidDictCalls: its contract, by hand -/
-- import Derived.WalkLawsBesides
set_option maxHeartbeats 4000000 in
set_option maxRecDepth 100000 in
theorem spec_ValidDict.calls (k : Nat) (a0_0 : Int) (A0_1 : Option Addr) (c0_1 : Nat) (l0_1 : List (S51)) (r : Bool) (w : World) (hr0_1 : Kd.C k51 w A0_1 l0_1.length l0_1) (hc0_1 : l0_1.length ≤ c0_1) (h : spec_ValidDict.f k a0_0 l0_1 = some r) :
    Calls Try.prog 10 #[.agg #[.int .i64 a0_0, .slice A0_1 l0_1.length c0_1]] w fun e w' => e = .returned (.bool r) ∧ Below w.heap.size w w' := by
  obtain rfl := ev_eq (spec_ValidDict.mono _ _) (specValid_ev a0_0 l0_1) h
  clear h
  have HR := Aside0.mk hr0_1
  have HC := Aside0.mk hc0_1
  clear hr0_1 hc0_1
  have hu29 := Try.underlying29
  have hu51 := Try.underlying51
  have HB := Aside0.mk (Below.refl w.heap.size w)
  go_enter Try.func10, Try.ntmps10
  go_wp2_with fail
  by_cases c1 : 1 ≤ a0_0 ∧ a0_0 ≤ 2000000000
  case neg =>
    refine (spec_l2Number.calls a0_0 false _ (by unfold spec_l2Number.f; by_cases c : a0_0 ≥ 1; rw [if_pos c, decide_eq_false (by omega)]; rw [if_neg c])).mono ?_
    rintro e w1 ⟨rfl, hd⟩
    have HV := Aside0.mk (show vT a0_0 l0_1 = false by cases hv : vT a0_0 l0_1; rfl; exact absurd ⟨(vT_facts hv).1, (vT_facts hv).2.1⟩ c1)
    go_wp2_with fail
    go_ret
    exact ⟨by rw [HV.out]; rfl, below_step (below_alloc HB.out _) hd.below⟩
  refine (spec_l2Number.calls a0_0 true _ (by unfold spec_l2Number.f; rw [if_pos (show a0_0 ≥ 1 from c1.1), decide_eq_true c1.2])).mono ?_
  rintro e w1 ⟨rfl, hd⟩
  have K1 := Aside0.mk (show w1.heap[w.heap.size]? = some (.cells #[.int .i64 a0_0, .slice A0_1 l0_1.length c0_1] 29 (0, 0)) from blk_below (blk_new _ _) hd.below)
  have N_HB := Aside0.mk (below_step (below_alloc HB.out _) hd.below)
  clear HB hd
  have HB := N_HB
  clear N_HB
  have z0 : w1.cell? ⟨w.heap.size, 0, none⟩ = some (.int .i64 a0_0) := (blk_cell K1.out 0).trans rfl
  have z1 : w1.cell? ⟨w.heap.size, 1, none⟩ = some (.slice A0_1 l0_1.length c0_1) := (blk_cell K1.out 1).trans rfl
  have yl := blk_lt K1.out
  have C1 := Aside0.mk c1
  clear c1
  by_cases c3 : (1200 : Int) < (l0_1.length : Int)
  case pos =>
    have HV := Aside0.mk (show vT a0_0 l0_1 = false by cases hv : vT a0_0 l0_1; rfl; have := (vT_facts hv).2.2.1; omega)
    go_wp2_with fail
    go_ret
    exact ⟨by rw [HV.out]; rfl, HB.out⟩
  have C3 := Aside0.mk (show l0_1.length ≤ 1200 by omega)
  have HV := Aside0.mk (show vT a0_0 l0_1 = vFrom a0_0 l0_1 0 l0_1.length by unfold vT; rw [decide_eq_true C1.out.1, decide_eq_true C1.out.2, decide_eq_true C3.out]; rfl)
  have c3b : decide ((1200 : Int) < (l0_1.length : Int)) = false := decide_eq_false c3
  clear c3
  go_wp2_with fail
  clear z0 z1 yl
  go_loopg [3] l0_1.length (fun kq v3 w' => ∃ (i : Nat), v3 = .int .i64 i ∧ Aside0 (i ≤ l0_1.length ∧ kq = l0_1.length - i) ∧ Aside0 (vT a0_0 l0_1 = vFrom a0_0 l0_1 i (l0_1.length - i)) ∧ Aside0 (w'.heap[w.heap.size]? = some (.cells #[.int .i64 a0_0, .slice A0_1 l0_1.length c0_1] 29 (0, 0))) ∧ Aside0 (Below w.heap.size w w'))
  case atStart => exact ⟨0, rfl, ⟨by omega, rfl⟩, ⟨HV.out⟩, ⟨K1.out⟩, ⟨HB.out⟩⟩
  case round =>
    clear K1 HB HV
    obtain ⟨i, rfl, HI, HV, K1, HB⟩ := hrel
    have z0 : wr.cell? ⟨w.heap.size, 0, none⟩ = some (.int .i64 a0_0) := (blk_cell K1.out 0).trans rfl
    have z1 : wr.cell? ⟨w.heap.size, 1, none⟩ = some (.slice A0_1 l0_1.length c0_1) := (blk_cell K1.out 1).trans rfl
    have yl := blk_lt K1.out
    by_cases ci : (i : Int) < (l0_1.length : Int)
    case neg =>
      have hi : i = l0_1.length := by have := HI.out; omega
      have HV2 := Aside0.mk (show vT a0_0 l0_1 = true by rw [HV.out, hi, Nat.sub_self]; rfl)
      clear hi
      go_wp2_with fail
      go_ret
      exact ⟨by rw [HV2.out]; rfl, HB.out⟩
    have hl : l0_1.length ≤ 1200 := C3.out
    obtain ⟨ad, e_, hx0, hx1, hx2⟩ := at_T51 (Kd.C_below HR.out HB.out) (i : Int) (by omega) (by omega)
    cases e_
    rw [gT_rd, Int.toNat_natCast] at hx0 hx1 hx2
    have HVs := Aside0.mk (show vT a0_0 l0_1 = (tPre a0_0 l0_1 i && noId l0_1 (gT l0_1 i).f0 0 i && vFrom a0_0 l0_1 (i + 1) (l0_1.length - (i + 1))) by rw [HV.out, show l0_1.length - i = (l0_1.length - (i + 1)) + 1 by omega]; rfl)
    clear HV
    go_wp2_with fail
    have N_K1 := Aside0.mk (blk_alloc K1.out (.cells #[.int .i64 (gT l0_1 i).f0, .string (gT l0_1 i).f1, .int .i64 (gT l0_1 i).f2] 51))
    have N_HB := Aside0.mk (below_alloc HB.out (.cells #[.int .i64 (gT l0_1 i).f0, .string (gT l0_1 i).f1, .int .i64 (gT l0_1 i).f2] 51))
    have KT := Aside0.mk (blk_new wr (.cells #[.int .i64 (gT l0_1 i).f0, .string (gT l0_1 i).f1, .int .i64 (gT l0_1 i).f2] 51))
    generalize wr.alloc (.cells #[.int .i64 (gT l0_1 i).f0, .string (gT l0_1 i).f1, .int .i64 (gT l0_1 i).f2] 51) = ww at *
    generalize wr.heap.size = g at *
    clear K1 HB hx0 hx1 hx2 z0 z1 yl
    have z0 : ww.cell? ⟨w.heap.size, 0, none⟩ = some (.int .i64 a0_0) := (blk_cell N_K1.out 0).trans rfl
    have z1 : ww.cell? ⟨w.heap.size, 1, none⟩ = some (.slice (some ad) l0_1.length c0_1) := (blk_cell N_K1.out 1).trans rfl
    have t0 : ww.cell? ⟨g, 0, none⟩ = some (.int .i64 (gT l0_1 i).f0) := (blk_cell KT.out 0).trans rfl
    have t1 : ww.cell? ⟨g, 1, none⟩ = some (.string (gT l0_1 i).f1) := (blk_cell KT.out 1).trans rfl
    have t2 : ww.cell? ⟨g, 2, none⟩ = some (.int .i64 (gT l0_1 i).f2) := (blk_cell KT.out 2).trans rfl
    have yl := blk_lt N_K1.out
    have tl := blk_lt KT.out
    have fin : ∀ n : Nat, Below w.heap.size w (ww.drewN n) := fun n => pw_below_drewN N_HB.out n
    have FIN := Aside0.mk fin
    clear fin
    by_cases d1 : ((gT l0_1 i).f1.size : Int) < 1
    case pos =>
      have HVf := Aside0.mk (show vT a0_0 l0_1 = false by rw [HVs.out, show tPre a0_0 l0_1 i = false by cases h : tPre a0_0 l0_1 i; rfl; exact absurd ((tPre_cases _ _ _).1 h).1 (by omega)]; rfl)
      go_quiet (fail)
      go_wp2_with fail
      go_ret
      exact ⟨by rw [HVf.out]; rfl, FIN.out _⟩
    by_cases d2 : 30 < ((gT l0_1 i).f1.size : Int)
    case pos =>
      have HVf := Aside0.mk (show vT a0_0 l0_1 = false by rw [HVs.out, show tPre a0_0 l0_1 i = false by cases h : tPre a0_0 l0_1 i; rfl; exact absurd ((tPre_cases _ _ _).1 h).2.1 (by omega)]; rfl)
      go_quiet (fail)
      go_wp2_with fail
      go_ret
      exact ⟨by rw [HVf.out]; rfl, FIN.out _⟩
    by_cases d3 : (gT l0_1 i).f0 < 1
    case pos =>
      have HVf := Aside0.mk (show vT a0_0 l0_1 = false by rw [HVs.out, show tPre a0_0 l0_1 i = false by cases h : tPre a0_0 l0_1 i; rfl; exact absurd ((tPre_cases _ _ _).1 h).2.2.1 (by omega)]; rfl)
      go_quiet (fail)
      go_wp2_with fail
      go_ret
      exact ⟨by rw [HVf.out]; rfl, FIN.out _⟩
    by_cases d4 : a0_0 ≤ (gT l0_1 i).f0
    case pos =>
      have HVf := Aside0.mk (show vT a0_0 l0_1 = false by rw [HVs.out, show tPre a0_0 l0_1 i = false by cases h : tPre a0_0 l0_1 i; rfl; exact absurd ((tPre_cases _ _ _).1 h).2.2.2.1 (by omega)]; rfl)
      go_quiet (fail)
      go_wp2_with fail
      go_ret
      exact ⟨by rw [HVf.out]; rfl, FIN.out _⟩
    by_cases d5 : (gT l0_1 i).f2 < 1
    case pos =>
      have HVf := Aside0.mk (show vT a0_0 l0_1 = false by rw [HVs.out, show tPre a0_0 l0_1 i = false by cases h : tPre a0_0 l0_1 i; rfl; exact absurd ((tPre_cases _ _ _).1 h).2.2.2.2.1 (by omega)]; rfl)
      go_quiet (fail)
      go_wp2_with fail
      go_ret
      exact ⟨by rw [HVf.out]; rfl, FIN.out _⟩
    by_cases d6 : 2000000000 < (gT l0_1 i).f2
    case pos =>
      have HVf := Aside0.mk (show vT a0_0 l0_1 = false by rw [HVs.out, show tPre a0_0 l0_1 i = false by cases h : tPre a0_0 l0_1 i; rfl; exact absurd ((tPre_cases _ _ _).1 h).2.2.2.2.2.1 (by omega)]; rfl)
      go_quiet (fail)
      go_wp2_with fail
      go_ret
      exact ⟨by rw [HVf.out]; rfl, FIN.out _⟩
    have HP := Aside0.mk (show tPre a0_0 l0_1 i = tOrd l0_1 i by
      unfold tPre
      rw [decide_eq_true (show 1 ≤ ((gT l0_1 i).f1.size : Int) by omega), decide_eq_true (show ((gT l0_1 i).f1.size : Int) ≤ 30 by omega), decide_eq_true (show 1 ≤ (gT l0_1 i).f0 by omega), decide_eq_true (show (gT l0_1 i).f0 < a0_0 by omega), decide_eq_true (show 1 ≤ (gT l0_1 i).f2 by omega), decide_eq_true (show (gT l0_1 i).f2 ≤ 2000000000 by omega)]
      rfl)
    have hjoin : ∀ b : Bool, tOrd l0_1 i = b → tPre a0_0 l0_1 i = b := fun b hb => HP.out.trans hb
    have HJ := Aside0.mk hjoin
    clear hjoin
    by_cases ip : (0 : Int) < (i : Int)
    case' pos =>
      obtain ⟨ad', e2_, hx0, hx1, hx2⟩ := at_T51 (Kd.C_below HR.out N_HB.out) ((i - 1 : Nat) : Int) (by omega) (by omega)
      cases e2_
      rw [gT_rd, Int.toNat_natCast] at hx0 hx1 hx2
      have HO := Aside0.mk (show tOrd l0_1 i = Op.bytesLess (gT l0_1 (i - 1)).f1.toList (gT l0_1 i).f1.toList by unfold tOrd; rw [decide_eq_false (by omega), Bool.false_or])
      have ipn : 0 < i := by omega
      have ipb : decide ((0 : Int) < (i : Int)) = true := decide_eq_true ip
      have ipc : decide (0 < i) = true := decide_eq_true ipn
      have s1 : IntKind.i64.wrap ((i : Int) - 1) = (i : Int) - 1 := by rw [i64_w]; unfold wrap64; omega
      have s2 : 1 ≤ (i : Int) := by omega
      have s3 : ((i : Int) - 1).toNat = i - 1 := by omega
      have s4 : (i : Int) - 1 < (l0_1.length : Int) := by omega
      cases hb : Op.bytesLess (gT l0_1 (i - 1)).f1.toList (gT l0_1 i).f1.toList
      case' false =>
        have HVf := Aside0.mk (show vT a0_0 l0_1 = false by rw [HVs.out, HJ.out false (HO.out.trans hb)]; rfl)
        go_quiet (fail)
        go_wp2_with fail
        go_ret
        exact ⟨by rw [HVf.out]; rfl, FIN.out _⟩
      case' true =>
        have HVt := Aside0.mk (show vT a0_0 l0_1 = (noId l0_1 (gT l0_1 i).f0 0 i && vFrom a0_0 l0_1 (i + 1) (l0_1.length - (i + 1))) by rw [HVs.out, HJ.out true (HO.out.trans hb), Bool.true_and])
        go_quiet (fail)
        clear s1 s2 s3 s4 hb hx0 hx1 hx2 ipn ipb ipc HO
        go_wp2_with fail
    case' neg =>
      have HVt := Aside0.mk (show vT a0_0 l0_1 = (noId l0_1 (gT l0_1 i).f0 0 i && vFrom a0_0 l0_1 (i + 1) (l0_1.length - (i + 1))) by rw [HVs.out, HJ.out true (by unfold tOrd; rw [decide_eq_true (by omega), Bool.true_or]), Bool.true_and])
      have ib : decide ((0 : Int) < (i : Int)) = false := decide_eq_false ip
      have ic : decide (0 < i) = false := decide_eq_false (by omega)
      go_quiet (fail)
      clear ib ic
      go_wp2_with fail
    all_goals
      clear d1 d2 d3 d4 d5 d6 ip HVs HP HJ FIN t1 t2 z0 z1 yl tl t0
      go_loopg [5] i (fun kq v5 w' => ∃ (j : Nat), v5 = .int .i64 j ∧ Aside0 (j ≤ i ∧ kq = i - j) ∧ Aside0 (vT a0_0 l0_1 = (noId l0_1 (gT l0_1 i).f0 j (i - j) && vFrom a0_0 l0_1 (i + 1) (l0_1.length - (i + 1)))) ∧ Aside0 (w'.heap[w.heap.size]? = some (.cells #[.int .i64 a0_0, .slice (some ad) l0_1.length c0_1] 29 (0, 0))) ∧ Aside0 (w'.heap[g]? = some (.cells #[.int .i64 (gT l0_1 i).f0, .string (gT l0_1 i).f1, .int .i64 (gT l0_1 i).f2] 51 (0, 0))) ∧ Aside0 (Below w.heap.size w w'))
      case atStart => exact ⟨0, rfl, ⟨by omega, rfl⟩, ⟨HVt.out⟩, ⟨N_K1.out⟩, ⟨KT.out⟩, ⟨pw_below_drewN N_HB.out _⟩⟩
      case round =>
        clear N_K1 KT N_HB HVt
        obtain ⟨j, rfl, HIj, HVj, K1, KT, HB⟩ := hrel
        rename World => wj
        have z1 : wj.cell? ⟨w.heap.size, 1, none⟩ = some (.slice (some ad) l0_1.length c0_1) := (blk_cell K1.out 1).trans rfl
        have t0 : wj.cell? ⟨g, 0, none⟩ = some (.int .i64 (gT l0_1 i).f0) := (blk_cell KT.out 0).trans rfl
        have yl := blk_lt K1.out
        have tl := blk_lt KT.out
        by_cases cj : (j : Int) < (i : Int)
        · obtain ⟨ad', e2_, hx0, hx1, hx2⟩ := at_T51 (Kd.C_below HR.out HB.out) (j : Int) (by omega) (by omega)
          cases e2_
          rw [gT_rd, Int.toNat_natCast] at hx0 hx1 hx2
          have j2 : (j : Int) < (l0_1.length : Int) := by omega
          have HN := Aside0.mk (show noId l0_1 (gT l0_1 i).f0 j (i - j) = if (gT l0_1 j).f0 = (gT l0_1 i).f0 then false else noId l0_1 (gT l0_1 i).f0 (j + 1) (i - (j + 1)) by rw [show i - j = (i - (j + 1)) + 1 by omega]; rfl)
          by_cases ce : (gT l0_1 j).f0 = (gT l0_1 i).f0
          · have HVf := Aside0.mk (show vT a0_0 l0_1 = false by rw [HVj.out, HN.out, if_pos ce]; rfl)
            have ceb : ((gT l0_1 j).f0 == (gT l0_1 i).f0) = true := beq_iff_eq.2 ce
            clear ce
            go_wp2_with fail
            go_quiet (fail)
            go_wp2_with fail
            go_ret
            exact ⟨by rw [HVf.out]; rfl, pw_below_drewN HB.out _⟩
          · have HV2 := Aside0.mk (show vT a0_0 l0_1 = (noId l0_1 (gT l0_1 i).f0 (j + 1) (i - (j + 1)) && vFrom a0_0 l0_1 (i + 1) (l0_1.length - (i + 1))) by rw [HVj.out, HN.out, if_neg ce])
            have ceb : ((gT l0_1 j).f0 == (gT l0_1 i).f0) = false := beq_eq_false_iff_ne.2 ce
            clear ce
            go_wp2_with fail
            go_quiet (fail)
            go_wp2_with fail
            go_roundg (i - (j + 1))
            case measure => have := HIj.out; omega
            case rel => exact ⟨j + 1, by first | rfl | simp, ⟨by omega, rfl⟩, ⟨HV2.out⟩, ⟨K1.out⟩, ⟨KT.out⟩, ⟨pw_below_drewN HB.out _⟩⟩
        · have hj : j = i := by have := HIj.out; omega
          subst hj
          have HV2 := Aside0.mk (show vT a0_0 l0_1 = vFrom a0_0 l0_1 (j + 1) (l0_1.length - (j + 1)) by rw [HVj.out, Nat.sub_self]; rfl)
          go_wp2_with fail
          go_roundg (l0_1.length - (j + 1))
          case measure => have := HI.out; omega
          case rel => exact ⟨j + 1, by first | rfl | simp, ⟨by omega, rfl⟩, ⟨HV2.out⟩, ⟨K1.out⟩, ⟨HB.out⟩⟩
end Go.Proofs.Ytneapgdfeegmgaa.PI
