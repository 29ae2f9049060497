-- Made by this session's programs out of the translation and of its own texts.
import Derived.Test.YtfjcfklgnlmjjaaMFnExactTreeRangeb
namespace Go.Proofs.Ytfjcfklgnlmjjaa.PB
open Go.RowKit Go.Proofs.YtfjcfklgnlmjjaaW.PrintWords Go.Proofs.YtfjcfklgnlmjjaaW.PrintLast Go.Proofs.YtfjcfklgnlmjjaaW.PrintMore
attribute [local go_sem] max2_int min2_int max_two min_two max_three min_three max_four min_four   -- for this text's walks alone
set_option linter.unusedVariables false
set_option linter.unusedSimpArgs false

/-! ### laws_toTree: function 17 -/
def laws_toTree.f (k : Nat) (l0_0 : List (S98)) : Option ((List (S90))) := (laws_toTNodeS.f k l0_0).bind fun t270 => (some t270)
set_option maxHeartbeats 8000000 in
set_option maxRecDepth 100000 in
theorem laws_toTree.calls (k : Nat) (A0_0 : Option Addr) (c0_0 : Nat) (l0_0 : List (S98)) (r : List (S90)) (w : World) (hr0_0 : Kd.C k98 w A0_0 l0_0.length l0_0) (hc0_0 : l0_0.length ≤ c0_0) (h : laws_toTree.f k l0_0 = some r) :
  Calls Try.prog 17 #[.agg #[.slice A0_0 l0_0.length c0_0]] w fun e w' => ∃ v0_ : Value, e = .returned (.agg #[v0_]) ∧ Kd.S k90 90 w' w.heap.size (fun _ => True) v0_ r ∧ Below w.heap.size w w' := by
 have hu31 := Try.underlying31
 have hu24 := Try.underlying24
 have HR0_0 := Aside0.mk hr0_0
 have HC0_0 := Aside0.mk hc0_0
 clear hr0_0 hc0_0
 have HB := Aside0.mk (Below.refl w.heap.size w)
 have H : ((laws_toTNodeS.f k l0_0).bind fun t270 => (some t270)) = some r := h
 clear h
 replace H := Option.bind_eq_some_iff.mp H
 obtain ⟨t270, A20, H⟩ := H
 replace H : (some t270) = some r := H
 have A2 := Aside0.mk A20
 clear A20
 obtain rfl := Option.some.inj H
 go_enter Try.func17, Try.ntmps17
 go_wp2_with (first | ((with_reducible refine gate_dst (N := 1) rfl ?_); refine box_event ?hg (N := 1) ?hd (cs := #[.slice A0_0 l0_0.length c0_0]) (t := 31) ?hr ?_; (case hd => rfl); (case hg => rfl); (case hr => first | (go_simp; done) | (go_simp; rfl)); intro gb267 hg w3 hbox hb; have n0_ := Aside0.mk (below_step (by repeat (first | (with_reducible first | exact HB.out | apply below_alloc | apply pw_below_drewN | apply below_drew1) | exact HB.out)) hb); have n1_ := Aside0.mk (hbox); have n2_ := Aside0.mk ((by rw [hg]; exact (below_size (by repeat (first | (with_reducible first | exact HB.out | apply below_alloc | apply pw_below_drewN | apply below_drew1) | exact HB.out))) : w.heap.size ≤ gb267)); have n3_ := Aside0.mk ((by rw [hg]; exact (below_size (by repeat (first | (with_reducible first | exact HB.out | apply below_alloc | apply pw_below_drewN | apply below_drew1) | exact HB.out))) : w.heap.size ≤ gb267)); clear HB; have HB := n0_; have BK267 := n1_; have GW267 := n2_; have GE267 := n3_; clear n0_ n1_ n2_ n3_; clear hb hbox hg) | ((with_reducible refine gate_dst (N := 2) rfl ?_); refine box_event ?hg (N := 2) ?hd (cs := #[.slice none 0 0]) (t := 24) ?hr ?_; (case hd => rfl); (case hg => rfl); (case hr => first | (go_simp; done) | (go_simp; rfl)); intro gb268 hg w4 hbox hb; have n0_ := Aside0.mk (blk_below (g := gb267) (o := .cells #[.slice A0_0 l0_0.length c0_0] 31 (0, 0)) (by (with_reducible repeat (first | refine blk_drewN ?_ _ | refine blk_drew ?_ | refine blk_alloc ?_ _)); exact BK267.out) hb); have n1_ := Aside0.mk (below_step (by repeat (first | (with_reducible first | exact HB.out | apply below_alloc | apply pw_below_drewN | apply below_drew1 | refine below_set ?_ GE267.out) | exact HB.out)) hb); have n2_ := Aside0.mk (hbox); have n3_ := Aside0.mk ((by rw [hg]; exact (below_size (by repeat (first | (with_reducible first | exact HB.out | apply below_alloc | apply pw_below_drewN | apply below_drew1 | refine below_set ?_ GE267.out) | exact HB.out))) : w.heap.size ≤ gb268)); have n4_ := Aside0.mk ((by rw [hg]; exact (below_size (by repeat (first | (with_reducible first | exact HB.out | apply below_alloc | apply pw_below_drewN | apply below_drew1 | refine below_set ?_ GE267.out) | exact HB.out))) : w.heap.size ≤ gb268)); have n5_ := Aside0.mk ((by rw [hg]; exact Nat.ne_of_lt (blk_lt (g := gb267) (o := .cells #[.slice A0_0 l0_0.length c0_0] 31 (0, 0)) (by (with_reducible repeat (first | refine blk_drewN ?_ _ | refine blk_drew ?_ | refine blk_alloc ?_ _)); exact BK267.out)) : gb267 ≠ gb268)); have n6_ := Aside0.mk ((by rw [hg]; exact Nat.ne_of_gt (blk_lt (g := gb267) (o := .cells #[.slice A0_0 l0_0.length c0_0] 31 (0, 0)) (by (with_reducible repeat (first | refine blk_drewN ?_ _ | refine blk_drew ?_ | refine blk_alloc ?_ _)); exact BK267.out)) : gb268 ≠ gb267)); clear BK267; clear HB; have BK267 := n0_; have HB := n1_; have BK268 := n2_; have GW268 := n3_; have GE268 := n4_; have NB267_268 := n5_; have NB268_267 := n6_; clear n0_ n1_ n2_ n3_ n4_ n5_ n6_; clear hb hbox hg) | ((with_reducible refine gate_dst (N := 3) rfl ?_); refine box_event ?hg (N := 3) ?hd (cs := #[.slice none 0 0]) (t := 24) ?hr ?_; (case hd => rfl); (case hg => rfl); (case hr => first | (go_simp; done) | (go_simp; rfl)); intro gb269 hg w5 hbox hb; have n0_ := Aside0.mk (blk_below (g := gb267) (o := .cells #[.slice A0_0 l0_0.length c0_0] 31 (0, 0)) (by (with_reducible repeat (first | refine blk_drewN ?_ _ | refine blk_drew ?_ | refine blk_alloc ?_ _)); exact BK267.out) hb); have n1_ := Aside0.mk (blk_below (g := gb268) (o := .cells #[.slice none 0 0] 24 (0, 0)) (by (with_reducible repeat (first | refine blk_drewN ?_ _ | refine blk_drew ?_ | refine blk_alloc ?_ _)); exact BK268.out) hb); have n2_ := Aside0.mk (below_step (by repeat (first | (with_reducible first | exact HB.out | apply below_alloc | apply pw_below_drewN | apply below_drew1 | refine below_set ?_ GE267.out | refine below_set ?_ GE268.out) | exact HB.out)) hb); have n3_ := Aside0.mk (hbox); have n4_ := Aside0.mk ((by rw [hg]; exact (below_size (by repeat (first | (with_reducible first | exact HB.out | apply below_alloc | apply pw_below_drewN | apply below_drew1 | refine below_set ?_ GE267.out | refine below_set ?_ GE268.out) | exact HB.out))) : w.heap.size ≤ gb269)); have n5_ := Aside0.mk ((by rw [hg]; exact (below_size (by repeat (first | (with_reducible first | exact HB.out | apply below_alloc | apply pw_below_drewN | apply below_drew1 | refine below_set ?_ GE267.out | refine below_set ?_ GE268.out) | exact HB.out))) : w.heap.size ≤ gb269)); have n6_ := Aside0.mk ((by rw [hg]; exact Nat.ne_of_lt (blk_lt (g := gb267) (o := .cells #[.slice A0_0 l0_0.length c0_0] 31 (0, 0)) (by (with_reducible repeat (first | refine blk_drewN ?_ _ | refine blk_drew ?_ | refine blk_alloc ?_ _)); exact BK267.out)) : gb267 ≠ gb269)); have n7_ := Aside0.mk ((by rw [hg]; exact Nat.ne_of_gt (blk_lt (g := gb267) (o := .cells #[.slice A0_0 l0_0.length c0_0] 31 (0, 0)) (by (with_reducible repeat (first | refine blk_drewN ?_ _ | refine blk_drew ?_ | refine blk_alloc ?_ _)); exact BK267.out)) : gb269 ≠ gb267)); have n8_ := Aside0.mk ((by rw [hg]; exact Nat.ne_of_lt (blk_lt (g := gb268) (o := .cells #[.slice none 0 0] 24 (0, 0)) (by (with_reducible repeat (first | refine blk_drewN ?_ _ | refine blk_drew ?_ | refine blk_alloc ?_ _)); exact BK268.out)) : gb268 ≠ gb269)); have n9_ := Aside0.mk ((by rw [hg]; exact Nat.ne_of_gt (blk_lt (g := gb268) (o := .cells #[.slice none 0 0] 24 (0, 0)) (by (with_reducible repeat (first | refine blk_drewN ?_ _ | refine blk_drew ?_ | refine blk_alloc ?_ _)); exact BK268.out)) : gb269 ≠ gb268)); clear BK267; clear BK268; clear HB; have BK267 := n0_; have BK268 := n1_; have HB := n2_; have BK269 := n3_; have GW269 := n4_; have GE269 := n5_; have NB267_269 := n6_; have NB269_267 := n7_; have NB268_269 := n8_; have NB269_268 := n9_; clear n0_ n1_ n2_ n3_ n4_ n5_ n6_ n7_ n8_ n9_; clear hb hbox hg; have hnb6 := NB267_268.out; have hnc6 := NB268_267.out; have hnb7 := NB267_269.out; have hnc7 := NB269_267.out; have hcz8_0 : w5.cell? ⟨gb267, 0, none⟩ = some (.slice A0_0 l0_0.length c0_0) := (blk_cell BK267.out 0).trans rfl; have hfz8_0 := blk_frozen BK267.out 0) | ((with_reducible refine gate_callee (f := 45) rfl ?_); refine goesL_ (some 6) rfl rfl Try.func45 (by kernel_rfl) rfl #[.slice A0_0 l0_0.length c0_0] rfl (by (try simp only [List.map_toArray, List.map_cons, List.map_nil]); first | done | rfl | (simp only [List.length_drop, List.length_take]; rfl)) ?_; (with_reducible refine (laws_toTNodeS.calls k _ _ l0_0 t270 _ ?side1 ?side2 A2.out).mono ?_); (case side1 => repeat (first | exact (Kd.C_below HR0_0.out HB.out) | (with_reducible refine Kd.C_alloc ?_ _) | (with_reducible refine Kd.C_drewN ?_ _) | (with_reducible refine Kd.C_drew ?_))); (case side2 => exact HC0_0.out); rintro e w9 ⟨v271, rfl, ho0, hb⟩; refine ⟨_, rfl, ?_⟩; have n0_ := Aside0.mk (Kd.S_lower ho0 (below_size (by repeat (first | (with_reducible first | exact HB.out | apply below_alloc | apply pw_below_drewN | apply below_drew1 | refine below_set ?_ GE267.out | refine below_set ?_ GE268.out | refine below_set ?_ GE269.out) | exact HB.out)))); have n1_ := Aside0.mk (blk_below (g := gb267) (o := .cells #[.slice A0_0 l0_0.length c0_0] 31 (0, 0)) (by (with_reducible repeat (first | refine blk_drewN ?_ _ | refine blk_drew ?_ | refine blk_alloc ?_ _)); exact BK267.out) hb); have n2_ := Aside0.mk (blk_below (g := gb268) (o := .cells #[.slice none 0 0] 24 (0, 0)) (by (with_reducible repeat (first | refine blk_drewN ?_ _ | refine blk_drew ?_ | refine blk_alloc ?_ _)); exact BK268.out) hb); have n3_ := Aside0.mk (blk_below (g := gb269) (o := .cells #[.slice none 0 0] 24 (0, 0)) (by (with_reducible repeat (first | refine blk_drewN ?_ _ | refine blk_drew ?_ | refine blk_alloc ?_ _)); exact BK269.out) hb); have n4_ := Aside0.mk (below_step (by repeat (first | (with_reducible first | exact HB.out | apply below_alloc | apply pw_below_drewN | apply below_drew1 | refine below_set ?_ GE267.out | refine below_set ?_ GE268.out | refine below_set ?_ GE269.out) | exact HB.out)) hb); clear BK267; clear BK268; clear BK269; clear HB; have HO272 := n0_; have BK267 := n1_; have BK268 := n2_; have BK269 := n3_; have HB := n4_; clear n0_ n1_ n2_ n3_ n4_; (try clear hb); (try clear hb2); (try clear hk); (try clear hi); (try clear ho0); obtain ⟨Ao10, co10, eo10⟩ := Kd.S_slice HO272.out; subst eo10; have hnb11 := NB269_268.out; have hnc11 := NB268_269.out; have hcz12_0 : w9.cell? ⟨gb269, 0, none⟩ = some (.slice none 0 0) := (blk_cell BK269.out 0).trans rfl; have hfz12_0 := blk_frozen BK269.out 0; have hcz13_0 : w9.cell? ⟨gb268, 0, none⟩ = some (.slice none 0 0) := (blk_cell BK268.out 0).trans rfl; have hfz13_0 := blk_frozen BK268.out 0))
 refine bodyPost_ret (results_cell_row rfl _ _ gb268 24 #[.slice Ao10 t270.length co10] (0, 0) _ rfl (by (with_reducible repeat (first | refine blk_drewN ?_ _ | refine blk_drew ?_ | refine blk_alloc ?_ _)); refine blk_put (cs := #[.slice none 0 0]) ?_ 0 _ rfl; (with_reducible repeat (first | refine blk_drewN ?_ _ | refine blk_drew ?_ | refine blk_alloc ?_ _)); refine blk_far ?_ NB268_269.out _; (with_reducible repeat (first | refine blk_drewN ?_ _ | refine blk_drew ?_ | refine blk_alloc ?_ _)); exact BK268.out) Try.underlying24 rfl (by kernel_rfl)) rfl ?_
 exact ⟨_, by first | rfl | (simp [errW_none, errW_some] <;> rfl) | (simp [*, errW_none, errW_some] <;> rfl), by (with_reducible repeat (first | apply Kd.S_alloc | apply Kd.S_drewN | apply Kd.S_drew)); exact Kd.S_mono (Kd.S_far (p := ⟨gb268, 0, none⟩) (Kd.S_far (p := ⟨gb269, 0, none⟩) (Kd.S_types (Kd.S_types HO272.out BK269.out (by decide)) BK268.out (by decide)) (fun _ hk => hk.1.2) (.slice Ao10 t270.length co10)) (fun _ hk => hk.2) (.slice Ao10 t270.length co10)) (fun _ hk => trivial), by repeat (first | (with_reducible first | exact HB.out | apply below_alloc | apply pw_below_drewN | apply below_drew1 | refine below_set ?_ GE267.out | refine below_set ?_ GE268.out | refine below_set ?_ GE269.out) | exact HB.out)⟩

/-! ### cmp_isNaN_string: function 102 -/
def cmp_isNaN_string.f (a0 : ByteArray) : Option (Bool) := some (a0.toList != a0.toList)

/-! ### cmp_Less_string: function 92 -/
def cmp_Less_string.f (a0 : ByteArray) (a1 : ByteArray) : Option (Bool) := (cmp_isNaN_string.f a0).bind fun t281 => (if t281 = true then ((cmp_isNaN_string.f a1).bind fun t282 => (if t282 = true then (some (Op.bytesLess a0.toList a1.toList)) else (some true))) else (some (Op.bytesLess a0.toList a1.toList)))

/-! ### slices_isNaN_string: function 93 -/
def slices_isNaN_string.f (a0 : ByteArray) : Option (Bool) := some (a0.toList != a0.toList)

/-! ### slices_BinarySearch_string_string: function 72 -/
def slices_BinarySearch_string_string.l0 : Nat → List ByteArray → ByteArray → Int → Int → Int → Option (Int × Bool)
 | 0, _, _, _, _, _ => none
 | k + 1, x0, x1, x6, x7, x8 => if x7 < x8 then (if 0 ≤ (wrap64 ((IntKind.u64.wrap (wrap64 (x7 + x8))) / 2)) then (if (wrap64 ((IntKind.u64.wrap (wrap64 (x7 + x8))) / 2)) < (x0.length : Int) then ((cmp_Less_string.f (rdOf ByteArray.empty x0 (wrap64 ((IntKind.u64.wrap (wrap64 (x7 + x8))) / 2))) x1).bind fun t284 => (if t284 = true then (slices_BinarySearch_string_string.l0 k x0 x1 x6 (wrap64 ((wrap64 ((IntKind.u64.wrap (wrap64 (x7 + x8))) / 2)) + 1)) x8) else (slices_BinarySearch_string_string.l0 k x0 x1 x6 x7 (wrap64 ((IntKind.u64.wrap (wrap64 (x7 + x8))) / 2))))) else (none)) else (none)) else (if x7 < x6 then (if 0 ≤ x7 then (if x7 < (x0.length : Int) then (if (rdOf ByteArray.empty x0 x7).toList = x1.toList then (some (x7, true)) else ((slices_isNaN_string.f (rdOf ByteArray.empty x0 x7)).bind fun t287 => (if t287 = true then ((slices_isNaN_string.f x1).bind fun t288 => (some (x7, t288))) else (some (x7, false))))) else (none)) else (none)) else (some (x7, false)))
def slices_BinarySearch_string_string.f (k : Nat) (l0 : List ByteArray) (a1 : ByteArray) : Option (Int × Bool) := slices_BinarySearch_string_string.l0 k l0 a1 (l0.length : Int) 0 (l0.length : Int)

/-! ### laws_markText: function 51 -/
def laws_markText.l0 : Nat → Int → ByteArray → Option (ByteArray)
 | 0, _, _ => none
 | k + 1, x0, x3 => if x0 > 0 then ((some (([(wrap64 (48 + (Int.tmod x0 10))) % 256] : List Int) : List Int)).bind fun y295 => (if (strOfNums y295).size + x3.size ≤ 9223372036854775807 then (laws_markText.l0 k (wrap64 (Int.tdiv x0 10)) ((strOfNums y295) ++ x3)) else (none))) else (if 1 + x3.size ≤ 9223372036854775807 then (some ((⟨#[109]⟩ : ByteArray) ++ x3)) else (none))
def laws_markText.f (k : Nat) (a0 : Int) : Option (ByteArray) := if a0 ≤ 0 then (some (⟨#[109, 48]⟩ : ByteArray)) else (laws_markText.l0 k a0 (⟨#[]⟩ : ByteArray))
set_option maxHeartbeats 8000000 in
set_option maxRecDepth 100000 in
theorem laws_markText.calls (k : Nat) (a0 : Int) (r : ByteArray) (w : World) (h : laws_markText.f k a0 = some r) :
  Calls Try.prog 51 #[.int .i64 a0] w fun e w' => e = .returned (.string r) ∧ Below w.heap.size w w' := by
 have HB := Aside0.mk (Below.refl w.heap.size w)
 have H : (if a0 ≤ 0 then (some (⟨#[109, 48]⟩ : ByteArray)) else (laws_markText.l0 k a0 (⟨#[]⟩ : ByteArray))) = some r := h
 clear h
 by_cases c2 : a0 ≤ 0
 ·rw [if_pos c2] at H
  have c2b0 : decide (a0 ≤ 0) = true := decide_eq_true c2
  clear c2
  obtain rfl := Option.some.inj H
  go_enter Try.func51, Try.ntmps51
  go_wp2
  go_ret
  exact ⟨by first | rfl | (simp [errW_none, errW_some] <;> rfl) | (simp [*, errW_none, errW_some] <;> rfl), by repeat (first | (with_reducible first | exact HB.out | apply below_alloc | apply pw_below_drewN | apply below_drew1) | exact HB.out)⟩
 ·rw [if_neg c2] at H
  have c2b0 : decide (a0 ≤ 0) = false := decide_eq_false c2
  clear c2
  have H' := Aside0.mk H
  clear H
  go_enter Try.func51, Try.ntmps51
  go_wp2
  go_loopg [0, 3] k (fun kq v0 v3 w' => ∃ (x0_1 : Int) (x3_1 : ByteArray), v0 = .int .i64 x0_1 ∧ v3 = .string x3_1 ∧ Aside0 (laws_markText.l0 kq x0_1 x3_1 = some r) ∧ Aside0 (kq ≤ k) ∧ Aside0 (Below w.heap.size w w'))
  case atStart => exact ⟨(a0), ((⟨#[]⟩ : ByteArray)), (by first | rfl | (simp; done) | (simp [*]; done)), (by first | rfl | (simp; done) | (simp [*]; done)), H', ⟨Nat.le_refl _⟩, ⟨by repeat (first | (with_reducible first | exact HB.out | apply below_alloc | apply pw_below_drewN | apply below_drew1) | exact HB.out)⟩⟩
  case round =>
   clear H'
   try clear c2
   try clear c2b0
   try clear p2
   obtain ⟨x0_1, x3_1, rfl, rfl, HA, HK1, HB⟩ := hrel
   cases gk with
   | zero => exact absurd HA.out (by simp [laws_markText.l0])
   | succ k1 =>
     have H := HA.out
     clear HA
     simp only [laws_markText.l0] at H
     by_cases c3 : x0_1 > 0
     ·rw [if_pos c3] at H
      have c3b0 : decide (0 < x0_1) = true := decide_eq_true c3
      clear c3
      obtain ⟨y295, hy295⟩ : ∃ y_ : List Int, y_ = (([(wrap64 (48 + (Int.tmod x0_1 10))) % 256] : List Int)) := ⟨_, rfl⟩
      replace H : (if (strOfNums y295).size + x3_1.size ≤ 9223372036854775807 then (laws_markText.l0 k1 (wrap64 (Int.tdiv x0_1 10)) ((strOfNums y295) ++ x3_1)) else (none)) = some r := by first | (rw [hy295]; with_reducible exact H) | (have H2_ := (Option.bind_some _ _).symm.trans H; rw [hy295]; with_reducible exact H2_) | (have H2_ := (Option.bind_some _ _).symm.trans H; with_reducible exact H2_) | with_reducible exact H | (rw [hy295]; exact H) | exact H
      have Ny295 := Aside0.mk hy295
      clear hy295
      by_cases c4 : (strOfNums y295).size + x3_1.size ≤ 9223372036854775807
      ·rw [if_pos c4] at H
       have c4b0 := eq_true c4
       have c4b1 : decide ((strOfNums y295).size + x3_1.size ≤ 9223372036854775807) = true := decide_eq_true c4
       try have c4b2 : (9223372036854775807 < (strOfNums y295).size + x3_1.size) = False := eq_false (Nat.not_lt.2 c4)
       have H' := Aside0.mk H
       clear H
       go_wp2_with (first | ((with_reducible refine gate_dst (N := 12) rfl ?_); refine Kd.R_lit (Kd.int .u8) _ 5 ?hg (N := 12) ?hd (xs := ([(wrap64 (48 + (Int.tmod x0_1 10))) % 256] : List Int)) (inner := [.int .u8 ((wrap64 (48 + (Int.tmod x0_1 10))) % 256)]) (ok := fun _ => True) (okp := fun _ => True) ?hr ?hp (fun _ hk => hk) trivial (Below.refl _ _) (Nat.le_refl _) (by simp) ?_; (case hd => rfl); (case hg => rfl); (case hr => first | (go_simp; done) | (go_simp; rfl)); (case hp => exact (Reps.one (show Kd.M (Kd.int .u8) _ _ _ ((wrap64 (48 + (Int.tmod x0_1 10))) % 256) [.int .u8 ((wrap64 (48 + (Int.tmod x0_1 10))) % 256)] from rfl) (Reps.none _ _))); intro v296 w5 ho6 hb hg_ hnew_; clear hg_ hnew_; (first | rw [← Ny295.out] at ho6 | (simp only [Int.reduceToNat] at ho6; rw [← Ny295.out] at ho6)); have n0_ := Aside0.mk (Kd.R_lower ho6 (below_size (by repeat (first | (with_reducible first | exact HB.out | apply below_alloc | apply pw_below_drewN | apply below_drew1) | exact HB.out)))); have n1_ := Aside0.mk (below_step (by repeat (first | (with_reducible first | exact HB.out | apply below_alloc | apply pw_below_drewN | apply below_drew1) | exact HB.out)) hb); clear HB; have HO297 := n0_; have HB := n1_; clear n0_ n1_; clear hb ho6; have hcv7 := own_string (P := Try.prog) Try.underlying48 Try.underlying5 Try.underlying9 (Kd.own_of_R HO297.out)))
       go_roundg k1
       case measure => have := HK1.out; omega
       case rel => exact ⟨(wrap64 (Int.tdiv x0_1 10)), ((strOfNums y295) ++ x3_1), (by first | rfl | (simp; done) | (simp [*]; done)), (by first | rfl | (simp; done) | (simp [*]; done)), H', ⟨by have := HK1.out; omega⟩, ⟨by repeat (first | (with_reducible first | exact HB.out | apply below_alloc | apply pw_below_drewN | apply below_drew1) | exact HB.out)⟩⟩
      ·rw [if_neg c4] at H
       exact absurd H (by simp)
     ·rw [if_neg c3] at H
      have c3b0 : decide (0 < x0_1) = false := decide_eq_false c3
      clear c3
      by_cases c8 : 1 + x3_1.size ≤ 9223372036854775807
      ·rw [if_pos c8] at H
       have c8b0 := eq_true c8
       have c8b1 : decide (1 + x3_1.size ≤ 9223372036854775807) = true := decide_eq_true c8
       try have c8b2 : (9223372036854775807 < 1 + x3_1.size) = False := eq_false (Nat.not_lt.2 c8)
       obtain rfl := Option.some.inj H
       go_wp2
       go_ret
       exact ⟨by first | rfl | (simp [errW_none, errW_some] <;> rfl) | (simp [*, errW_none, errW_some] <;> rfl), by repeat (first | (with_reducible first | exact HB.out | apply below_alloc | apply pw_below_drewN | apply below_drew1) | exact HB.out)⟩
      ·rw [if_neg c8] at H
       exact absurd H (by simp)

/-! ### laws_markStringS: function 24 -/
def laws_markStringS.l0 : Nat → List ByteArray → Int → Int → Option (Int × List ByteArray)
 | 0, _, _, _ => none
 | k + 1, x0, x1, x5 => if x5 < (x0.length : Int) then ((laws_markText.f k x1).bind fun t298 => (if 0 ≤ x5 then (laws_markStringS.l0 k (x0.set (x5 : Int).toNat t298) (wrap64 (x1 + 1)) (wrap64 (x5 + 1))) else (none))) else (some (x1, x0))
def laws_markStringS.f (k : Nat) (l0 : List ByteArray) (a1 : Int) : Option (Int × List ByteArray) := laws_markStringS.l0 k l0 a1 0
set_option maxHeartbeats 8000000 in
set_option maxRecDepth 100000 in
theorem laws_markStringS.calls (k : Nat) (P0_ : Nat → Prop) (u9000_ : Value) (l0 : List ByteArray) (a1 : Int) (r1 : Int) (r2 : List ByteArray) (w0 w : World) (hB : Below w0.heap.size w0 w) (ho0 : Kd.R Kd.string 9 w w0.heap.size P0_ u9000_ l0) (h : laws_markStringS.f k l0 a1 = some (r1, r2)) :
  Calls Try.prog 24 #[u9000_, .int .i64 a1] w fun e w' => e = .returned (.int .i64 r1) ∧ Kd.R Kd.string 9 w' w0.heap.size (fun k_ => (P0_ k_ ∨ w.heap.size ≤ k_)) u9000_ r2 ∧ Below w0.heap.size w0 w' ∧ Kept w w' (fun k_ => P0_ k_) := by
 have HO0 := Aside0.mk (show Kd.R Kd.string 9 w w0.heap.size (fun k_ => (P0_ k_ ∨ w.heap.size ≤ k_)) u9000_ l0 from Kd.R_mono ho0 (fun k_ hk => (.inl hk)))
 have HK := Aside0.mk (Kept.refl w (fun k_ => P0_ k_))
 have HW0 := Aside0.mk hB.size
 have HB := Aside0.mk hB
 clear hB
 have H : (laws_markStringS.l0 k l0 a1 0) = some (r1, r2) := h
 clear h
 have H' := Aside0.mk H
 clear H
 go_enter Try.func24, Try.ntmps24
 go_wp2
 go_loopg [1, 5] k (fun kq v1 v5 w' => ∃ (x0_1 : List ByteArray) (x1_1 : Int) (x5_1 : Int), v1 = .int .i64 x1_1 ∧ v5 = .int .i64 x5_1 ∧ Aside0 (laws_markStringS.l0 kq x0_1 x1_1 x5_1 = some (r1, r2)) ∧ Aside0 (kq ≤ k) ∧ Aside0 (Kd.R Kd.string 9 w' w0.heap.size (fun k_ => (P0_ k_ ∨ w.heap.size ≤ k_)) u9000_ x0_1) ∧ Aside0 (Kept w w' (fun k_ => P0_ k_)) ∧ Aside0 (Below w0.heap.size w0 w'))
 case atStart => exact ⟨(l0), (a1), (0), (by first | rfl | (simp; done) | (simp [*]; done)), (by first | rfl | (simp; done) | (simp [*]; done)), H', ⟨Nat.le_refl _⟩, ⟨by (with_reducible repeat (first | apply Kd.R_alloc | apply Kd.R_drewN | apply Kd.R_drew)); exact HO0.out⟩, ⟨by repeat (first | (with_reducible first | exact HK.out | apply Kept.alloc | apply Kept.drewN | apply Kept.drew) | exact HK.out)⟩, ⟨by repeat (first | (with_reducible first | exact HB.out | apply below_alloc | apply pw_below_drewN | apply below_drew1) | exact HB.out)⟩⟩
 case round =>
  clear H'
  try clear c2
  try clear p2
  obtain ⟨x0_1, x1_1, x5_1, rfl, rfl, HA, HK1, HO_0, HK, HB⟩ := hrel
  cases gk with
  | zero => exact absurd HA.out (by simp [laws_markStringS.l0])
  | succ k1 =>
    have H := HA.out
    clear HA
    simp only [laws_markStringS.l0] at H
    by_cases c3 : x5_1 < (x0_1.length : Int)
    ·rw [if_pos c3] at H
     have c3b0 : decide (x5_1 < (x0_1.length : Int)) = true := decide_eq_true c3
     clear c3
     replace H := Option.bind_eq_some_iff.mp H
     obtain ⟨t298, A40, H⟩ := H
     replace H : (if 0 ≤ x5_1 then (laws_markStringS.l0 k1 (x0_1.set (x5_1 : Int).toNat t298) (wrap64 (x1_1 + 1)) (wrap64 (x5_1 + 1))) else (none)) = some (r1, r2) := H
     have A4 := Aside0.mk A40
     clear A40
     by_cases c5 : 0 ≤ x5_1
     ·rw [if_pos c5] at H
      have c5b0 : decide (0 ≤ x5_1) = true := decide_eq_true c5
      clear c5
      obtain ⟨y299, hy299⟩ : ∃ y_ : List ByteArray, y_ = (x0_1.set (x5_1 : Int).toNat t298) := ⟨_, rfl⟩
      replace H : (laws_markStringS.l0 k1 y299 (wrap64 (x1_1 + 1)) (wrap64 (x5_1 + 1))) = some (r1, r2) := by first | (rw [hy299]; with_reducible exact H) | (have H2_ := (Option.bind_some _ _).symm.trans H; rw [hy299]; with_reducible exact H2_) | (have H2_ := (Option.bind_some _ _).symm.trans H; with_reducible exact H2_) | with_reducible exact H | (rw [hy299]; exact H) | exact H
      have Ny299 := Aside0.mk hy299
      clear hy299
      have H' := Aside0.mk H
      clear H
      obtain ⟨Ao7, co7, eo7⟩ := Kd.R_slice HO_0.out
      subst eo7
      go_wp2_with (first | ((with_reducible refine gate_callee (f := 51) rfl ?_); refine goesL_ (some 15) rfl rfl Try.func51 (by kernel_rfl) rfl #[.int .i64 x1_1] rfl (by (try simp only [List.map_toArray, List.map_cons, List.map_nil]); first | done | rfl | (simp only [List.length_drop, List.length_take]; rfl)) ?_; (with_reducible refine (laws_markText.calls k1 x1_1 t298 _ A4.out).mono ?_); rintro e w8 ⟨rfl, hb⟩; refine ⟨_, rfl, ?_⟩; have n0_ := Aside0.mk (Kd.R_below (by (with_reducible repeat (first | apply Kd.R_alloc | apply Kd.R_drewN | apply Kd.R_drew)); exact HO_0.out) hb); have n1_ := Aside0.mk (Kept.below (S := (fun k_ => P0_ k_)) (by repeat (first | (with_reducible first | exact HK.out | apply Kept.alloc | apply Kept.drewN | apply Kept.drew) | exact HK.out)) hb); have n2_ := Aside0.mk (below_step (by repeat (first | (with_reducible first | exact HB.out | apply below_alloc | apply pw_below_drewN | apply below_drew1) | exact HB.out)) hb); clear HO_0; clear HK; clear HB; have HO_0 := n0_; have HK := n1_; have HB := n2_; clear n0_ n1_ n2_; (try clear hb); (try clear hb2); (try clear hk); (try clear hi); have p6 : 0 ≤ (x5_1 : Int) := of_decide_eq_true (by first | (with_reducible assumption) | assumption); have q6 : (x5_1 : Int) < ((x0_1.length : Int) : Int) := of_decide_eq_true (by first | (with_reducible assumption) | assumption); obtain ⟨go6, co6, eo6, gb6, gl6, cl6, HG6⟩ := Kd.R_form HO_0.out (by omega); (first | cases eo6 | (injection eo6 with ea_ en_ ec_; (first | subst ea_ | (injection ea_ with ea_; subst ea_)); subst ec_; clear en_)); have GB6 := Aside0.mk gb6; have GG6 := Aside0.mk HG6; clear gb6 gl6 HG6; have HMgo6 := Aside0.mk (show (P0_ go6 ∨ w.heap.size ≤ go6) from (HO_0.out.1 _ rfl)); obtain ⟨hx6_0, hf6_0⟩ := Kd.R_celln (⟨#[]⟩ : ByteArray) HO_0.out (x5_1 : Int) p6 q6; replace p6 := eq_true p6; replace q6 := eq_true q6; obtain ⟨hy9_, hz9_⟩ := Kd.R_celln (⟨#[]⟩ : ByteArray) HO_0.out (x5_1 : Int) (of_decide_eq_true (by first | (with_reducible assumption) | assumption)) (of_decide_eq_true (by first | (with_reducible assumption) | assumption)); have HP9 := Kd.R_putg HO_0.out (x5_1 : Int) t298) | ((with_reducible refine gate_store (t := 9) (p := 16) rfl ?_); refine store_event (t := 9) (p := 16) (v := ?vo_w10) (w1 := (w8.setCell ⟨go6, (x5_1 : Int).toNat, none⟩ (.string t298))) ?hg ?ho ?hn ?hr ?_; (case ho => rfl); (case hg => rfl); (case hn => rfl); (case hr => first | (go_simp; done) | (go_simp; rfl)); intro w10 hw; have hg : w8.grownBy w10 (some go6) := (by rw [hw]; exact HP9.2); have hp_ : Kd.R Kd.string 9 w10 w0.heap.size (fun k_ => (P0_ k_ ∨ w.heap.size ≤ k_)) (.slice (some ⟨go6, 0, none⟩) x0_1.length co7) y299 := (by rw [hw, Ny299.out]; exact HP9.1); clear HP9; have n0_ := Aside0.mk (hp_); have n1_ := Aside0.mk ((by rw [hw]; exact below_set (HB.out) GB6.out : Below w0.heap.size w0 w10)); have n2_ := Aside0.mk (Kept.of_grown (S := (fun k_ => P0_ k_)) hg (by repeat (first | (with_reducible first | exact HK.out | apply Kept.alloc | apply Kept.drewN | apply Kept.drew) | exact HK.out)) (fun k_ e_ => (HO_0.out.1 k_ e_))); clear HO_0; clear HB; clear HK; have HO_0 := n0_; have HB := n1_; have HK := n2_; clear n0_ n1_ n2_; clear hg hw hp_))
      go_roundg k1
      case measure => have := HK1.out; omega
      case rel => exact ⟨(y299), (wrap64 (x1_1 + 1)), (wrap64 (x5_1 + 1)), (by first | rfl | (simp; done) | (simp [*]; done)), (by first | rfl | (simp; done) | (simp [*]; done)), H', ⟨by have := HK1.out; omega⟩, ⟨by (with_reducible repeat (first | apply Kd.R_alloc | apply Kd.R_drewN | apply Kd.R_drew)); exact HO_0.out⟩, ⟨by repeat (first | (with_reducible first | exact HK.out | apply Kept.alloc | apply Kept.drewN | apply Kept.drew) | exact HK.out)⟩, ⟨by repeat (first | (with_reducible first | exact HB.out | apply below_alloc | apply pw_below_drewN | apply below_drew1) | exact HB.out)⟩⟩
     ·rw [if_neg c5] at H
      exact absurd H (by simp)
    ·rw [if_neg c3] at H
     have c3b0 : decide (x5_1 < (x0_1.length : Int)) = false := decide_eq_false c3
     clear c3
     simp only [Option.some.injEq, Prod.mk.injEq] at H
     obtain ⟨rfl, rfl⟩ := H
     obtain ⟨Ao11, co11, eo11⟩ := Kd.R_slice HO_0.out
     subst eo11
     go_wp2
     go_ret
     exact ⟨by first | rfl | (simp [errW_none, errW_some] <;> rfl) | (simp [*, errW_none, errW_some] <;> rfl), by (with_reducible repeat (first | apply Kd.R_alloc | apply Kd.R_drewN | apply Kd.R_drew)); exact HO_0.out, by repeat (first | (with_reducible first | exact HB.out | apply below_alloc | apply pw_below_drewN | apply below_drew1) | exact HB.out), by repeat (first | (with_reducible first | exact HK.out | apply Kept.alloc | apply Kept.drewN | apply Kept.drew) | exact HK.out)⟩

/-! ### laws_markInt64S: function 63 -/
def laws_markInt64S.l0 : Nat → List Int → Int → Int → Option (Int × List Int)
 | 0, _, _, _ => none
 | k + 1, x0, x1, x5 => if x5 < (x0.length : Int) then (if 0 ≤ x5 then (laws_markInt64S.l0 k (x0.set (x5 : Int).toNat x1) (wrap64 (x1 + 1)) (wrap64 (x5 + 1))) else (none)) else (some (x1, x0))
def laws_markInt64S.f (k : Nat) (l0 : List Int) (a1 : Int) : Option (Int × List Int) := laws_markInt64S.l0 k l0 a1 0
set_option maxHeartbeats 8000000 in
set_option maxRecDepth 100000 in
theorem laws_markInt64S.calls (k : Nat) (P0_ : Nat → Prop) (u9000_ : Value) (l0 : List Int) (a1 : Int) (r1 : Int) (r2 : List Int) (w0 w : World) (hB : Below w0.heap.size w0 w) (ho0 : Kd.R (Kd.int .i64) 2 w w0.heap.size P0_ u9000_ l0) (h : laws_markInt64S.f k l0 a1 = some (r1, r2)) :
  Calls Try.prog 63 #[u9000_, .int .i64 a1] w fun e w' => e = .returned (.int .i64 r1) ∧ Kd.R (Kd.int .i64) 2 w' w0.heap.size (fun k_ => (P0_ k_ ∨ w.heap.size ≤ k_)) u9000_ r2 ∧ Below w0.heap.size w0 w' ∧ Kept w w' (fun k_ => P0_ k_) := by
 have HO0 := Aside0.mk (show Kd.R (Kd.int .i64) 2 w w0.heap.size (fun k_ => (P0_ k_ ∨ w.heap.size ≤ k_)) u9000_ l0 from Kd.R_mono ho0 (fun k_ hk => (.inl hk)))
 have HK := Aside0.mk (Kept.refl w (fun k_ => P0_ k_))
 have HW0 := Aside0.mk hB.size
 have HB := Aside0.mk hB
 clear hB
 have H : (laws_markInt64S.l0 k l0 a1 0) = some (r1, r2) := h
 clear h
 have H' := Aside0.mk H
 clear H
 go_enter Try.func63, Try.ntmps63
 go_wp2
 go_loopg [1, 5] k (fun kq v1 v5 w' => ∃ (x0_1 : List Int) (x1_1 : Int) (x5_1 : Int), v1 = .int .i64 x1_1 ∧ v5 = .int .i64 x5_1 ∧ Aside0 (laws_markInt64S.l0 kq x0_1 x1_1 x5_1 = some (r1, r2)) ∧ Aside0 (kq ≤ k) ∧ Aside0 (Kd.R (Kd.int .i64) 2 w' w0.heap.size (fun k_ => (P0_ k_ ∨ w.heap.size ≤ k_)) u9000_ x0_1) ∧ Aside0 (Kept w w' (fun k_ => P0_ k_)) ∧ Aside0 (Below w0.heap.size w0 w'))
 case atStart => exact ⟨(l0), (a1), (0), (by first | rfl | (simp; done) | (simp [*]; done)), (by first | rfl | (simp; done) | (simp [*]; done)), H', ⟨Nat.le_refl _⟩, ⟨by (with_reducible repeat (first | apply Kd.R_alloc | apply Kd.R_drewN | apply Kd.R_drew)); exact HO0.out⟩, ⟨by repeat (first | (with_reducible first | exact HK.out | apply Kept.alloc | apply Kept.drewN | apply Kept.drew) | exact HK.out)⟩, ⟨by repeat (first | (with_reducible first | exact HB.out | apply below_alloc | apply pw_below_drewN | apply below_drew1) | exact HB.out)⟩⟩
 case round =>
  clear H'
  try clear p2
  obtain ⟨x0_1, x1_1, x5_1, rfl, rfl, HA, HK1, HO_0, HK, HB⟩ := hrel
  cases gk with
  | zero => exact absurd HA.out (by simp [laws_markInt64S.l0])
  | succ k1 =>
    have H := HA.out
    clear HA
    simp only [laws_markInt64S.l0] at H
    by_cases c3 : x5_1 < (x0_1.length : Int)
    ·rw [if_pos c3] at H
     have c3b0 : decide (x5_1 < (x0_1.length : Int)) = true := decide_eq_true c3
     clear c3
     by_cases c4 : 0 ≤ x5_1
     ·rw [if_pos c4] at H
      have c4b0 : decide (0 ≤ x5_1) = true := decide_eq_true c4
      clear c4
      obtain ⟨y300, hy300⟩ : ∃ y_ : List Int, y_ = (x0_1.set (x5_1 : Int).toNat x1_1) := ⟨_, rfl⟩
      replace H : (laws_markInt64S.l0 k1 y300 (wrap64 (x1_1 + 1)) (wrap64 (x5_1 + 1))) = some (r1, r2) := by first | (rw [hy300]; with_reducible exact H) | (have H2_ := (Option.bind_some _ _).symm.trans H; rw [hy300]; with_reducible exact H2_) | (have H2_ := (Option.bind_some _ _).symm.trans H; with_reducible exact H2_) | with_reducible exact H | (rw [hy300]; exact H) | exact H
      have Ny300 := Aside0.mk hy300
      clear hy300
      have H' := Aside0.mk H
      clear H
      obtain ⟨Ao6, co6, eo6⟩ := Kd.R_slice HO_0.out
      subst eo6
      have p5 : 0 ≤ (x5_1 : Int) := of_decide_eq_true (by first | (with_reducible assumption) | assumption)
      have q5 : (x5_1 : Int) < ((x0_1.length : Int) : Int) := of_decide_eq_true (by first | (with_reducible assumption) | assumption)
      obtain ⟨go5, co5, eo5, gb5, gl5, cl5, HG5⟩ := Kd.R_form HO_0.out (by omega)
      (first | cases eo5 | (injection eo5 with ea_ en_ ec_; (first | subst ea_ | (injection ea_ with ea_; subst ea_)); subst ec_; clear en_))
      have GB5 := Aside0.mk gb5
      have GG5 := Aside0.mk HG5
      clear gb5 gl5 HG5
      have HMgo5 := Aside0.mk (show (P0_ go5 ∨ w.heap.size ≤ go5) from (HO_0.out.1 _ rfl))
      obtain ⟨hx5_0, hf5_0⟩ := Kd.R_celln 0 HO_0.out (x5_1 : Int) p5 q5
      replace p5 := eq_true p5
      replace q5 := eq_true q5
      have HP7 := Kd.R_putg HO_0.out (x5_1 : Int) x1_1
      go_wp2_with (first | ((with_reducible refine gate_store (t := 2) (p := 15) rfl ?_); refine store_event (t := 2) (p := 15) (v := ?vo_w8) (w1 := (wr.setCell ⟨go5, (x5_1 : Int).toNat, none⟩ (.int .i64 x1_1))) ?hg ?ho ?hn ?hr ?_; (case ho => rfl); (case hg => rfl); (case hn => rfl); (case hr => first | (go_simp; done) | (go_simp; rfl)); intro w8 hw; have hg : wr.grownBy w8 (some go5) := (by rw [hw]; exact HP7.2); have hp_ : Kd.R (Kd.int .i64) 2 w8 w0.heap.size (fun k_ => (P0_ k_ ∨ w.heap.size ≤ k_)) (.slice (some ⟨go5, 0, none⟩) x0_1.length co6) y300 := (by rw [hw, Ny300.out]; exact HP7.1); clear HP7; have n0_ := Aside0.mk (hp_); have n1_ := Aside0.mk ((by rw [hw]; exact below_set (HB.out) GB5.out : Below w0.heap.size w0 w8)); have n2_ := Aside0.mk (Kept.of_grown (S := (fun k_ => P0_ k_)) hg (by repeat (first | (with_reducible first | exact HK.out | apply Kept.alloc | apply Kept.drewN | apply Kept.drew) | exact HK.out)) (fun k_ e_ => (HO_0.out.1 k_ e_))); clear HO_0; clear HB; clear HK; have HO_0 := n0_; have HB := n1_; have HK := n2_; clear n0_ n1_ n2_; clear hg hw hp_))
      go_roundg k1
      case measure => have := HK1.out; omega
      case rel => exact ⟨(y300), (wrap64 (x1_1 + 1)), (wrap64 (x5_1 + 1)), (by first | rfl | (simp; done) | (simp [*]; done)), (by first | rfl | (simp; done) | (simp [*]; done)), H', ⟨by have := HK1.out; omega⟩, ⟨by (with_reducible repeat (first | apply Kd.R_alloc | apply Kd.R_drewN | apply Kd.R_drew)); exact HO_0.out⟩, ⟨by repeat (first | (with_reducible first | exact HK.out | apply Kept.alloc | apply Kept.drewN | apply Kept.drew) | exact HK.out)⟩, ⟨by repeat (first | (with_reducible first | exact HB.out | apply below_alloc | apply pw_below_drewN | apply below_drew1) | exact HB.out)⟩⟩
     ·rw [if_neg c4] at H
      exact absurd H (by simp)
    ·rw [if_neg c3] at H
     have c3b0 : decide (x5_1 < (x0_1.length : Int)) = false := decide_eq_false c3
     clear c3
     simp only [Option.some.injEq, Prod.mk.injEq] at H
     obtain ⟨rfl, rfl⟩ := H
     obtain ⟨Ao9, co9, eo9⟩ := Kd.R_slice HO_0.out
     subst eo9
     go_wp2
     go_ret
     exact ⟨by first | rfl | (simp [errW_none, errW_some] <;> rfl) | (simp [*, errW_none, errW_some] <;> rfl), by (with_reducible repeat (first | apply Kd.R_alloc | apply Kd.R_drewN | apply Kd.R_drew)); exact HO_0.out, by repeat (first | (with_reducible first | exact HB.out | apply below_alloc | apply pw_below_drewN | apply below_drew1) | exact HB.out), by repeat (first | (with_reducible first | exact HK.out | apply Kept.alloc | apply Kept.drewN | apply Kept.drew) | exact HK.out)⟩

/-! ### laws_heldStringS: function 25 -/
def laws_heldStringS.l0 : Nat → List ByteArray → Int → Int → Option (Int)
 | 0, _, _, _ => none
 | k + 1, x0, x1, x5 => if x5 < (x0.length : Int) then (if 0 ≤ x5 then ((laws_markText.f k x1).bind fun t305 => (if (rdOf ByteArray.empty x0 x5).toList = t305.toList then (laws_heldStringS.l0 k x0 (wrap64 (x1 + 1)) (wrap64 (x5 + 1))) else (some (-1)))) else (none)) else (some x1)
def laws_heldStringS.f (k : Nat) (l0 : List ByteArray) (a1 : Int) : Option (Int) := laws_heldStringS.l0 k l0 a1 0
set_option maxHeartbeats 8000000 in
set_option maxRecDepth 100000 in
theorem laws_heldStringS.calls (k : Nat) (A0 : Option Addr) (c0 : Nat) (l0 : List ByteArray) (a1 : Int) (r : Int) (w : World) (hr0 : Kd.C Kd.string w A0 l0.length l0) (hc0 : l0.length ≤ c0) (h : laws_heldStringS.f k l0 a1 = some r) :
  Calls Try.prog 25 #[.slice A0 l0.length c0, .int .i64 a1] w fun e w' => e = .returned (.int .i64 r) ∧ Below w.heap.size w w' := by
 have HR0 := Aside0.mk hr0
 have HC0 := Aside0.mk hc0
 clear hr0 hc0
 have HB := Aside0.mk (Below.refl w.heap.size w)
 have H : (laws_heldStringS.l0 k l0 a1 0) = some r := h
 clear h
 have H' := Aside0.mk H
 clear H
 go_enter Try.func25, Try.ntmps25
 go_wp2
 go_loopg [1, 5] k (fun kq v1 v5 w' => ∃ (x1_1 : Int) (x5_1 : Int), v1 = .int .i64 x1_1 ∧ v5 = .int .i64 x5_1 ∧ Aside0 (laws_heldStringS.l0 kq l0 x1_1 x5_1 = some r) ∧ Aside0 (kq ≤ k) ∧ Aside0 (Below w.heap.size w w'))
 case atStart => exact ⟨(a1), (0), (by first | rfl | (simp; done) | (simp [*]; done)), (by first | rfl | (simp; done) | (simp [*]; done)), H', ⟨Nat.le_refl _⟩, ⟨by repeat (first | (with_reducible first | exact HB.out | apply below_alloc | apply pw_below_drewN | apply below_drew1) | exact HB.out)⟩⟩
 case round =>
  clear H'
  try clear c2
  try clear p2
  obtain ⟨x1_1, x5_1, rfl, rfl, HA, HK1, HB⟩ := hrel
  cases gk with
  | zero => exact absurd HA.out (by simp [laws_heldStringS.l0])
  | succ k1 =>
    have H := HA.out
    clear HA
    simp only [laws_heldStringS.l0] at H
    by_cases c3 : x5_1 < (l0.length : Int)
    ·rw [if_pos c3] at H
     have c3b0 : decide (x5_1 < (l0.length : Int)) = true := decide_eq_true c3
     clear c3
     by_cases c4 : 0 ≤ x5_1
     ·rw [if_pos c4] at H
      have c4b0 : decide (0 ≤ x5_1) = true := decide_eq_true c4
      clear c4
      replace H := Option.bind_eq_some_iff.mp H
      obtain ⟨t305, A50, H⟩ := H
      replace H : (if (rdOf ByteArray.empty l0 x5_1).toList = t305.toList then (laws_heldStringS.l0 k1 l0 (wrap64 (x1_1 + 1)) (wrap64 (x5_1 + 1))) else (some (-1))) = some r := H
      have A5 := Aside0.mk A50
      clear A50
      by_cases c6 : (rdOf ByteArray.empty l0 x5_1).toList = t305.toList
      ·rw [if_pos c6] at H
       have c6b0 : ((rdOf ByteArray.empty l0 x5_1).toList == t305.toList) = true := beq_iff_eq.mpr c6
       have c6b1 : ((rdOf ByteArray.empty l0 x5_1).toList != t305.toList) = false := bne_eq_false_iff_eq.mpr c6
       clear c6
       have H' := Aside0.mk H
       clear H
       try go_wp2
       have n0_ := Aside0.mk (below_drew1 HB.out)
       clear HB
       have HB := n0_
       clear n0_
       have p304 : 0 ≤ (x5_1 : Int) := of_decide_eq_true (by first | (with_reducible assumption) | assumption)
       have q304 : x5_1 < (l0.length : Int) := of_decide_eq_true (by first | (with_reducible assumption) | assumption)
       obtain ⟨ad304, e304, hx304_0⟩ := Kd.at_string HR0.out x5_1 p304 q304
       have hw304_0 := hx304_0
       cases e304
       replace hx304_0 := (HB.out.cell (World.block_lt_of_cell? w _ hx304_0)).trans hx304_0
       replace p304 := eq_true p304
       replace q304 := eq_true q304
       refine start_ (n := 7) (S := fun w' => w'.cell? (ad304.add (x5_1).toNat) = some (.string (rdOf ByteArray.empty l0 x5_1))) (ds := []) #[false, false, false, false, false, false, false] (by kernel_rfl) rfl rfl (((HB.out.cell (World.block_lt_of_cell? w _ hw304_0)).trans hw304_0)) (fun hHeld => ?_)
       generalize wr.drew = w7 at HB hx304_0 hHeld ⊢
       refine pure_ (i := 0) (N := some 12) (v := ?_) (a' := ?_) #[true, false, false, false, false, false, false] rfl rfl (by kernel_rfl) (fun _ _ _ h => h) (Or.inl ⟨by rfl, ?_⟩) ?_ ?_
       rotate_left
       · intro w'
         go_simp
         with_reducible rfl
       rotate_left
       · simp only [Act.put, List.setIfInBounds_toArray, List.set_cons_zero, List.set_cons_succ, i64_w, i32_w]
         rfl
       refine pure_ (i := 1) (N := some 13) (v := ?_) (a' := ?_) #[true, true, false, false, false, false, false] rfl rfl (by kernel_rfl) (fun _ _ _ h => h) (Or.inl ⟨by rfl, ?_⟩) ?_ ?_
       rotate_left
       · intro w'
         go_simp
         with_reducible rfl
       rotate_left
       · simp only [Act.put, List.setIfInBounds_toArray, List.set_cons_zero, List.set_cons_succ, i64_w, i32_w]
         rfl
       refine pure_ (i := 2) (N := some 14) (v := ?_) (a' := ?_) #[true, true, true, false, false, false, false] rfl rfl (by kernel_rfl) (fun _ _ _ h => h) (Or.inl ⟨by rfl, ?_⟩) ?_ ?_
       rotate_left
       · intro w'
         go_simp
         with_reducible rfl
       rotate_left
       · simp only [Act.put, List.setIfInBounds_toArray, List.set_cons_zero, List.set_cons_succ, i64_w, i32_w]
         rfl
       refine pure_ (i := 4) (N := some 16) (v := ?_) (a' := ?_) #[true, true, true, false, true, false, false] rfl rfl (by kernel_rfl) (fun _ _ _ h => h) (Or.inl ⟨by rfl, ?_⟩) ?_ ?_
       rotate_left
       · intro w'
         go_simp
         with_reducible rfl
       rotate_left
       · simp only [Act.put, List.setIfInBounds_toArray, List.set_cons_zero, List.set_cons_succ, i64_w, i32_w]
         rfl
       refine take_ (i := 3) (N := some 15) (v := ?_) (a' := ?_) #[true, true, true, true, true, false, false] rfl rfl (by kernel_rfl) (fun _ _ _ h => h) (Or.inl ⟨by rfl, ?_⟩) hHeld ?_ ?_
       rotate_left
       · intro w' s0
         go_simp
         with_reducible rfl
       rotate_left
       · simp only [Act.put, List.setIfInBounds_toArray, List.set_cons_zero, List.set_cons_succ, i64_w, i32_w]
         rfl
       refine one_ (i := 5) (N := some 17) #[true, true, true, true, true, true, false] rfl rfl (by kernel_rfl) (by decide) (fun K hK => ?_)
       refine goes_ Try.func51 (by kernel_rfl) rfl #[.int .i64 x1_1] (by rfl) rfl rfl (by (try simp only [List.map_toArray, List.map_cons, List.map_nil]); first | done | rfl | (simp only [List.length_drop, List.length_take]; rfl)) ?_
       with_reducible refine (laws_markText.calls k1 x1_1 t305 _ A5.out).mono ?_
       rintro e w8 ⟨rfl, hb⟩
       refine ⟨_, rfl, ?_⟩
       have n0_ := Aside0.mk (below_step (by repeat (first | (with_reducible first | exact HB.out | apply below_alloc | apply pw_below_drewN | apply below_drew1) | exact HB.out)) hb)
       clear HB
       have HB := n0_
       clear n0_
       (try clear hb)
       (try clear hb2)
       (try clear hk)
       (try clear hi)
       refine hK.out _ _ (((HB.out.cell (World.block_lt_of_cell? w _ hw304_0)).trans hw304_0)) (fun hHeld => ?_)
       clear hK K
       refine norm_ (a' := ?_) ?_ ?_
       rotate_left
       · show Act.put _ (some 17) _ = _
         simp only [Act.put, List.setIfInBounds_toArray, List.set_cons_zero, List.set_cons_succ, i64_w, i32_w]
         rfl
       refine pure_ (i := 6) (N := some 18) (v := ?_) (a' := ?_) #[true, true, true, true, true, true, true] rfl rfl (by kernel_rfl) (fun _ _ _ h => h) (Or.inl ⟨by rfl, ?_⟩) ?_ ?_
       rotate_left
       · intro w'
         go_simp
         with_reducible rfl
       rotate_left
       · simp only [Act.put, List.setIfInBounds_toArray, List.set_cons_zero, List.set_cons_succ, i64_w, i32_w]
         rfl
       refine done_ (by kernel_rfl) ?_
       try go_wp2
       go_roundg k1
       case measure => have := HK1.out; omega
       case rel => exact ⟨(wrap64 (x1_1 + 1)), (wrap64 (x5_1 + 1)), (by first | rfl | (simp; done) | (simp [*]; done)), (by first | rfl | (simp; done) | (simp [*]; done)), H', ⟨by have := HK1.out; omega⟩, ⟨by repeat (first | (with_reducible first | exact HB.out | apply below_alloc | apply pw_below_drewN | apply below_drew1) | exact HB.out)⟩⟩
      ·rw [if_neg c6] at H
       have c6b0 : ((rdOf ByteArray.empty l0 x5_1).toList == t305.toList) = false := beq_eq_false_iff_ne.mpr c6
       have c6b1 : ((rdOf ByteArray.empty l0 x5_1).toList != t305.toList) = true := bne_iff_ne.mpr c6
       obtain rfl := Option.some.inj H
       try go_wp2
       have n0_ := Aside0.mk (below_drew1 HB.out)
       clear HB
       have HB := n0_
       clear n0_
       have p304 : 0 ≤ (x5_1 : Int) := of_decide_eq_true (by first | (with_reducible assumption) | assumption)
       have q304 : x5_1 < (l0.length : Int) := of_decide_eq_true (by first | (with_reducible assumption) | assumption)
       obtain ⟨ad304, e304, hx304_0⟩ := Kd.at_string HR0.out x5_1 p304 q304
       have hw304_0 := hx304_0
       cases e304
       replace hx304_0 := (HB.out.cell (World.block_lt_of_cell? w _ hx304_0)).trans hx304_0
       replace p304 := eq_true p304
       replace q304 := eq_true q304
       refine start_ (n := 7) (S := fun w' => w'.cell? (ad304.add (x5_1).toNat) = some (.string (rdOf ByteArray.empty l0 x5_1))) (ds := []) #[false, false, false, false, false, false, false] (by kernel_rfl) rfl rfl (((HB.out.cell (World.block_lt_of_cell? w _ hw304_0)).trans hw304_0)) (fun hHeld => ?_)
       generalize wr.drew = w9 at HB hx304_0 hHeld ⊢
       refine pure_ (i := 0) (N := some 12) (v := ?_) (a' := ?_) #[true, false, false, false, false, false, false] rfl rfl (by kernel_rfl) (fun _ _ _ h => h) (Or.inl ⟨by rfl, ?_⟩) ?_ ?_
       rotate_left
       · intro w'
         go_simp
         with_reducible rfl
       rotate_left
       · simp only [Act.put, List.setIfInBounds_toArray, List.set_cons_zero, List.set_cons_succ, i64_w, i32_w]
         rfl
       refine pure_ (i := 1) (N := some 13) (v := ?_) (a' := ?_) #[true, true, false, false, false, false, false] rfl rfl (by kernel_rfl) (fun _ _ _ h => h) (Or.inl ⟨by rfl, ?_⟩) ?_ ?_
       rotate_left
       · intro w'
         go_simp
         with_reducible rfl
       rotate_left
       · simp only [Act.put, List.setIfInBounds_toArray, List.set_cons_zero, List.set_cons_succ, i64_w, i32_w]
         rfl
       refine pure_ (i := 2) (N := some 14) (v := ?_) (a' := ?_) #[true, true, true, false, false, false, false] rfl rfl (by kernel_rfl) (fun _ _ _ h => h) (Or.inl ⟨by rfl, ?_⟩) ?_ ?_
       rotate_left
       · intro w'
         go_simp
         with_reducible rfl
       rotate_left
       · simp only [Act.put, List.setIfInBounds_toArray, List.set_cons_zero, List.set_cons_succ, i64_w, i32_w]
         rfl
       refine pure_ (i := 4) (N := some 16) (v := ?_) (a' := ?_) #[true, true, true, false, true, false, false] rfl rfl (by kernel_rfl) (fun _ _ _ h => h) (Or.inl ⟨by rfl, ?_⟩) ?_ ?_
       rotate_left
       · intro w'
         go_simp
         with_reducible rfl
       rotate_left
       · simp only [Act.put, List.setIfInBounds_toArray, List.set_cons_zero, List.set_cons_succ, i64_w, i32_w]
         rfl
       refine take_ (i := 3) (N := some 15) (v := ?_) (a' := ?_) #[true, true, true, true, true, false, false] rfl rfl (by kernel_rfl) (fun _ _ _ h => h) (Or.inl ⟨by rfl, ?_⟩) hHeld ?_ ?_
       rotate_left
       · intro w' s0
         go_simp
         with_reducible rfl
       rotate_left
       · simp only [Act.put, List.setIfInBounds_toArray, List.set_cons_zero, List.set_cons_succ, i64_w, i32_w]
         rfl
       refine one_ (i := 5) (N := some 17) #[true, true, true, true, true, true, false] rfl rfl (by kernel_rfl) (by decide) (fun K hK => ?_)
       refine goes_ Try.func51 (by kernel_rfl) rfl #[.int .i64 x1_1] (by rfl) rfl rfl (by (try simp only [List.map_toArray, List.map_cons, List.map_nil]); first | done | rfl | (simp only [List.length_drop, List.length_take]; rfl)) ?_
       with_reducible refine (laws_markText.calls k1 x1_1 t305 _ A5.out).mono ?_
       rintro e w10 ⟨rfl, hb⟩
       refine ⟨_, rfl, ?_⟩
       have n0_ := Aside0.mk (below_step (by repeat (first | (with_reducible first | exact HB.out | apply below_alloc | apply pw_below_drewN | apply below_drew1) | exact HB.out)) hb)
       clear HB
       have HB := n0_
       clear n0_
       (try clear hb)
       (try clear hb2)
       (try clear hk)
       (try clear hi)
       refine hK.out _ _ (((HB.out.cell (World.block_lt_of_cell? w _ hw304_0)).trans hw304_0)) (fun hHeld => ?_)
       clear hK K
       refine norm_ (a' := ?_) ?_ ?_
       rotate_left
       · show Act.put _ (some 17) _ = _
         simp only [Act.put, List.setIfInBounds_toArray, List.set_cons_zero, List.set_cons_succ, i64_w, i32_w]
         rfl
       refine pure_ (i := 6) (N := some 18) (v := ?_) (a' := ?_) #[true, true, true, true, true, true, true] rfl rfl (by kernel_rfl) (fun _ _ _ h => h) (Or.inl ⟨by rfl, ?_⟩) ?_ ?_
       rotate_left
       · intro w'
         go_simp
         with_reducible rfl
       rotate_left
       · simp only [Act.put, List.setIfInBounds_toArray, List.set_cons_zero, List.set_cons_succ, i64_w, i32_w]
         rfl
       refine done_ (by kernel_rfl) ?_
       try go_wp2
       go_ret
       exact ⟨by first | rfl | (simp [errW_none, errW_some] <;> rfl) | (simp [*, errW_none, errW_some] <;> rfl), by repeat (first | (with_reducible first | exact HB.out | apply below_alloc | apply pw_below_drewN | apply below_drew1) | exact HB.out)⟩
     ·rw [if_neg c4] at H
      exact absurd H (by simp)
    ·rw [if_neg c3] at H
     have c3b0 : decide (x5_1 < (l0.length : Int)) = false := decide_eq_false c3
     clear c3
     obtain rfl := Option.some.inj H
     go_wp2
     go_ret
     exact ⟨by first | rfl | (simp [errW_none, errW_some] <;> rfl) | (simp [*, errW_none, errW_some] <;> rfl), by repeat (first | (with_reducible first | exact HB.out | apply below_alloc | apply pw_below_drewN | apply below_drew1) | exact HB.out)⟩

/-! ### L_base: a text by hand -/
-- words of this session's own: stores into a variable's block that is elder than what is held
theorem below_allocB {B : Nat} {w W : World} (h : Below B w W) (hB : B ≤ W.heap.size) (o : Obj) : Below B w (W.alloc o) := h.alloc hB o
theorem R_iv {α : Type} {d : Kd α} {e b : Nat} {w : World} {ok : Nat → Prop} {v : Value} {xs : List α} (h : d.R e w b ok v xs) (B lo : Nat) (hB : B ≤ b) (hlo : lo ≤ b) : d.R e w B (fun k => (lo ≤ k ∧ k < w.heap.size) ∧ ok k) v xs :=
 Kd.R_mono (Kd.R_lower (Kd.R_bound h) hB) (fun k hk => ⟨⟨Nat.le_trans hlo hk.2.1, hk.2.2.1⟩, hk.1⟩)
theorem S_iv {α : Type} {d : Kd α} {e b : Nat} {w : World} {ok : Nat → Prop} {v : Value} {xs : List α} (h : Kd.S d e w b ok v xs) (B lo : Nat) (hB : B ≤ b) (hlo : lo ≤ b) : Kd.S d e w B (fun k => (lo ≤ k ∧ k < w.heap.size) ∧ ok k) v xs :=
 Kd.S_mono (Kd.S_lower (Kd.S_bound h) hB) (fun k hk => ⟨⟨Nat.le_trans hlo hk.2.1, hk.2.2.1⟩, hk.1⟩)
theorem drawn_below {w w' : World} (h : Drawn0 w w') : Below w.heap.size w w' := h.below

/-! ### L_t3: a text by hand -/
-- import Derived.Laws.ResultCell
-- words of the tree group: trees by depth, what l3Nest answers, blocks of three cells
theorem blk_cells3 {w : World} {g t : Nat} {a b c : Value} (h : w.heap[g]? = some (.cells #[a, b, c] t (0, 0))) : w.cell? ⟨g, 0, none⟩ = some a ∧ w.cell? ⟨g, 1, none⟩ = some b ∧ w.cell? ⟨g, 2, none⟩ = some c ∧
  w.frozen? ⟨g, 0, none⟩ = false ∧ w.frozen? ⟨g, 1, none⟩ = false ∧ w.frozen? ⟨g, 2, none⟩ = false :=
 ⟨(blk_cell h 0).trans rfl, (blk_cell h 1).trans rfl, (blk_cell h 2).trans rfl, blk_frozen h 0, blk_frozen h 1, blk_frozen h 2⟩
theorem blk_cells4 {w : World} {g t : Nat} {a b c d : Value} (h : w.heap[g]? = some (.cells #[a, b, c, d] t (0, 0))) : w.cell? ⟨g, 0, none⟩ = some a ∧ w.cell? ⟨g, 1, none⟩ = some b ∧ w.cell? ⟨g, 2, none⟩ = some c ∧ w.cell? ⟨g, 3, none⟩ = some d ∧
  w.frozen? ⟨g, 0, none⟩ = false ∧ w.frozen? ⟨g, 1, none⟩ = false ∧ w.frozen? ⟨g, 2, none⟩ = false ∧ w.frozen? ⟨g, 3, none⟩ = false :=
 ⟨(blk_cell h 0).trans rfl, (blk_cell h 1).trans rfl, (blk_cell h 2).trans rfl, (blk_cell h 3).trans rfl, blk_frozen h 0, blk_frozen h 1, blk_frozen h 2, blk_frozen h 3⟩
theorem blk_set3 {w : World} {g t : Nat} {a b c a' b' c' : Value} (h : w.heap[g]? = some (.cells #[a, b, c] t (0, 0))) :
  (((w.setCell ⟨g, 0, none⟩ a').setCell ⟨g, 1, none⟩ b').setCell ⟨g, 2, none⟩ c').heap[g]? = some (.cells #[a', b', c'] t (0, 0)) :=
 blk_put (blk_put (blk_put h 0 a' rfl) 1 b' rfl) 2 c' rfl
theorem set3_other {W : World} {g k : Nat} (v0 v1 v2 : Value) (hk : k ≠ g) : (((W.setCell ⟨g, 0, none⟩ v0).setCell ⟨g, 1, none⟩ v1).setCell ⟨g, 2, none⟩ v2).heap[k]? = W.heap[k]? :=
 (Below.heap_setCell _ ⟨g, 2, none⟩ v2 k hk).trans ((Below.heap_setCell _ ⟨g, 1, none⟩ v1 k hk).trans (Below.heap_setCell _ ⟨g, 0, none⟩ v0 k hk))
theorem below_set3 {B g : Nat} {w W : World} (h : Below B w W) (hb : B ≤ g) (v0 v1 v2 : Value) : Below B w (((W.setCell ⟨g, 0, none⟩ v0).setCell ⟨g, 1, none⟩ v1).setCell ⟨g, 2, none⟩ v2) := ((h.setCell hb v0).setCell hb v1).setCell hb v2
theorem results_three {P : Program} {fn : Func} {p u v : Tmp} {ty : TypeId} (h : fn.results = #[.cell p ty, .tmp u, .tmp v]) (tmps : Array Value) (w : World) (g : Nat) (t : TypeId) (cs : Array Value) (fr : Nat × Nat) (d : TypeDesc)
  (hp : tmps.getD p undef = .pointer (some ⟨g, 0, none⟩)) (hg : w.heap[g]? = some (.cells cs t fr))
  (hu : P.underlying ty = some d) (hd : (match d with | .struct _ | .array _ _ => true | _ => false) = true) (hi : (P.info? ty).map (·.size) = some cs.size) :
  (results fn tmps).run P w = .ok (.tuple #[.agg cs, tmps.getD u undef, tmps.getD v undef]) w := by
 have hr : (results fn tmps).run P w = ((asAddr (tmps.getD p undef)).run P w).andThen fun a w₁ => ((loadVar ty a).run P w₁).andThen fun x w₂ => .ok (.tuple #[x, tmps.getD u undef, tmps.getD v undef]) w₂ := by
  simp only [results, h]
  simp [Sem.run_bind, Result.andThen]
 rw [hr, hp]
 simp [asAddr, run_loadVar_row w g t ty cs fr d hg hu hd hi]
theorem results_two {P : Program} {fn : Func} {p u : Tmp} {ty : TypeId} (h : fn.results = #[.cell p ty, .tmp u]) (tmps : Array Value) (w : World) (g : Nat) (t : TypeId) (cs : Array Value) (fr : Nat × Nat) (d : TypeDesc)
  (hp : tmps.getD p undef = .pointer (some ⟨g, 0, none⟩)) (hg : w.heap[g]? = some (.cells cs t fr))
  (hu : P.underlying ty = some d) (hd : (match d with | .struct _ | .array _ _ => true | _ => false) = true) (hi : (P.info? ty).map (·.size) = some cs.size) :
  (results fn tmps).run P w = .ok (.tuple #[.agg cs, tmps.getD u undef]) w := by
 rw [results_cell_tmp h, hp]
 simp [asAddr, run_loadVar_row w g t ty cs fr d hg hu hd hi]
theorem at_F90 {W : World} {A : Option Addr} {n : Nat} {xs : List S90} {ok : Nat → Prop} (h : Kd.F k90 W ok A n xs) (i : Int) (h0 : 0 ≤ i) (h1 : i < n) : ∃ ad A1 c1 A2 c2, A = some ad ∧ W.cell? (ad.add (i.toNat * 4)) = some (.bool (rd_T90 xs i).f0) ∧ W.cell? ⟨(ad.add (i.toNat * 4)).block, (ad.add (i.toNat * 4)).off + 1, none⟩ = some (.slice A1 (rd_T90 xs i).f1.length c1) ∧ W.cell? ⟨(ad.add (i.toNat * 4)).block, (ad.add (i.toNat * 4)).off + 2, none⟩ = some (.slice A2 (rd_T90 xs i).f2.length c2) ∧ W.cell? ⟨(ad.add (i.toNat * 4)).block, (ad.add (i.toNat * 4)).off + 3, none⟩ = some (.int .i64 (rd_T90 xs i).f3) ∧ (rd_T90 xs i).f1.length ≤ c1 ∧ Kd.F Kd.string W ok A1 (rd_T90 xs i).f1.length (rd_T90 xs i).f1 ∧ (rd_T90 xs i).f2.length ≤ c2 ∧ Kd.F (Kd.int .i64) W ok A2 (rd_T90 xs i).f2.length (rd_T90 xs i).f2 := by
 obtain ⟨ad, c, e, _, hK, hc0, _⟩ := Kd.F_get h z90 i h0 h1
 have hc : ∀ j u, c[j]? = some u → W.cell? (ad.add (i.toNat * 4 + j)) = some u := hc0
 obtain ⟨A1, c1, A2, c2, rfl, l1, g1, l2, g2⟩ := k90_openF hK
 exact ⟨ad, A1, c1, A2, c2, e, hc 0 _ rfl, by rw [← add_field _ _ 1 (by omega)]; exact hc 1 _ rfl, by rw [← add_field _ _ 2 (by omega)]; exact hc 2 _ rfl, by rw [← add_field _ _ 3 (by omega)]; exact hc 3 _ rfl, l1, g1, l2, g2⟩
def keysD : Nat → S56 → List ByteArray
 | 0, t => t.f1
 | d + 1, t => (t.f2.map (keysD d)).flatten
def nestL (rec : Int → S56 × Int × Bool) (b : Bool) : List Int → Int → List S56 → S56 × Int × Bool
 | [], next, acc => (⟨false, [], acc⟩, next, b)
 | k :: ks, next, acc => if k = next then (if (rec next).2.2 = true then nestL rec b ks (rec next).2.1 (acc ++ [(rec next).1]) else (⟨false, [], acc⟩, next, false)) else (⟨false, [], acc⟩, next, false)
def nestD (ns : List S90) : Nat → Int → S56 × Int × Bool
 | 0, i => (z56, i, false)
 | d + 1, i => if 0 ≤ i ∧ i < (ns.length : Int) then (if (rd_T90 ns i).f0 = true then (⟨true, (rd_T90 ns i).f1, []⟩, i + 1, decide ((rd_T90 ns i).f2.length = 0)) else nestL (nestD ns d) (decide (0 < (rd_T90 ns i).f2.length)) (rd_T90 ns i).f2 (i + 1) []) else (z56, i, false)
theorem drop_rd (l : List Int) (i : Nat) (h : i < l.length) : l.drop i = rd l (i : Int) :: l.drop (i + 1) := by
 rw [List.drop_eq_getElem_cons h]
 congr 1
 unfold rd
 simp [List.getD_eq_getElem?_getD, h]
theorem below_lo {lo : Nat} {w W W1 : World} (h : Below lo w W) (hb : Below W.heap.size W W1) (hl : lo ≤ W.heap.size) : Below lo w W1 := below_then h hl hb
theorem below_same {lo : Nat} {w W W1 : World} (h : Below lo w W) (hb : Below lo W W1) : Below lo w W1 :=
 ⟨hb.os.trans h.os, hb.tape.trans h.tape, hb.output.trans h.output, Nat.le_trans h.size hb.size, fun k hk => (hb.block k hk).trans (h.block k hk)⟩
theorem below_less {lo hi : Nat} {w W : World} (h : Below hi w W) (hl : lo ≤ hi) : Below lo w W := ⟨h.os, h.tape, h.output, h.size, fun k hk => h.block k (by omega)⟩

/-! ### L_tplain: a text by hand -/
-- plain: good trees by depth, their nodes in order, what l3Nest and (*reader).node answer
def goodD : Nat → Bool → S56 → Prop
 | 0, root, t => t.f0 = true ∧ t.f2 = [] ∧ t.f1.length ≤ 4 ∧ (root = true ∨ 2 ≤ t.f1.length)
 | d + 1, _, t => t.f0 = false ∧ t.f1 = [] ∧ 2 ≤ t.f2.length ∧ t.f2.length ≤ 4 ∧ ∀ k ∈ t.f2, goodD d false k
def flatL (f : S56 → Int → List S90) : List S56 → Int → List S90
 | [], _ => []
 | k :: ks, a => f k a ++ flatL f ks (a + ((f k a).length : Nat))
def noL (f : S56 → Int → List S90) : List S56 → Int → List Int
 | [], _ => []
 | k :: ks, a => a :: noL f ks (a + ((f k a).length : Nat))
def headK (d : Nat) (t : S56) : ByteArray := (keysD d t).getD 0 ByteArray.empty
def sepL (d : Nat) (ks : List S56) : List ByteArray := (ks.drop 1).map (headK d)
def flatD : Nat → S56 → Int → List S90
 | 0, t, _ => [⟨true, t.f1, [], (t.f1.length : Nat)⟩]
 | d + 1, t, a => ⟨false, sepL d t.f2, noL (flatD d) t.f2 (a + 1), ((keysD (d + 1) t).length : Nat)⟩ :: flatL (flatD d) t.f2 (a + 1)
theorem keysD_pos : ∀ {d : Nat} {t : S56}, goodD d false t → 0 < (keysD d t).length
 | 0, t, h => by
   have := h.2.2.2
   simp at this
   simp only [keysD]
   omega
 | d + 1, t, h => by
   obtain ⟨_, _, h2, _, hk⟩ := h
   rcases ht : t.f2 with _ | ⟨k, ks⟩
   ·rw [ht] at h2
    simp at h2
   ·have := keysD_pos (hk k (by rw [ht]; exact List.mem_cons_self))
    simp only [keysD, ht, List.map_cons, List.flatten_cons, List.length_append]
    omega
theorem headK_succ {d : Nat} {t : S56} {k : S56} {ks : List S56} (ht : t.f2 = k :: ks) (hk : goodD d false k) : headK (d + 1) t = headK d k := by
 have := keysD_pos hk
 unfold headK
 simp only [keysD, ht, List.map_cons, List.flatten_cons, List.getD_eq_getElem?_getD]
 rw [List.getElem?_append_left this]
theorem keysD_le : ∀ {d : Nat} {r : Bool} {t : S56}, goodD d r t → (keysD d t).length ≤ 4 ^ (d + 1)
 | 0, r, t, h => by
   have := h.2.2.1
   simp only [keysD]
   omega
 | d + 1, r, t, h => by
   obtain ⟨_, _, _, h3, hk⟩ := h
   have : ∀ ks : List S56, (∀ k ∈ ks, goodD d false k) → ((ks.map (keysD d)).flatten).length ≤ ks.length * 4 ^ (d + 1) := by
    intro ks
    induction ks with
    | nil => intro _; simp
    | cons k ks ih =>
      intro hk
      have h1 := keysD_le (hk k List.mem_cons_self)
      have h2 := ih (fun x hx => hk x (List.mem_cons_of_mem _ hx))
      simp only [List.map_cons, List.flatten_cons, List.length_append, List.length_cons, Nat.add_mul, Nat.one_mul] at h2 ⊢
      omega
   have := this _ hk
   simp only [keysD]
   have h4 : t.f2.length * 4 ^ (d + 1) ≤ 4 * 4 ^ (d + 1) := Nat.mul_le_mul_right _ h3
   rw [Nat.pow_succ]
   omega
theorem flatL_snoc (f : S56 → Int → List S90) : ∀ (ks : List S56) (k : S56) (a : Int), flatL f (ks ++ [k]) a = flatL f ks a ++ f k (a + ((flatL f ks a).length : Nat))
 | [], k, a => by simp [flatL]
 | x :: xs, k, a => by
   simp only [List.cons_append, flatL, flatL_snoc f xs k, List.append_assoc, List.length_append, Int.natCast_add, Int.add_assoc]
theorem noL_snoc (f : S56 → Int → List S90) : ∀ (ks : List S56) (k : S56) (a : Int), noL f (ks ++ [k]) a = noL f ks a ++ [a + ((flatL f ks a).length : Nat)]
 | [], k, a => by simp [flatL, noL]
 | x :: xs, k, a => by
   simp only [List.cons_append, flatL, noL, noL_snoc f xs k, List.length_append, Int.natCast_add, Int.add_assoc]
theorem noL_length (f : S56 → Int → List S90) : ∀ (ks : List S56) (a : Int), (noL f ks a).length = ks.length
 | [], a => rfl
 | x :: xs, a => by simp [noL, noL_length f xs]
theorem sepL_snoc (d : Nat) (ks : List S56) (k : S56) : sepL d (ks ++ [k]) = if ks.length = 0 then [] else sepL d ks ++ [headK d k] := by
 cases ks with
 | nil => simp [sepL]
 | cons x xs => simp [sepL]
/-- How many nodes: at least 2 to the depth, at most 2 * 4 ^ depth. -/
theorem flatD_two : ∀ {d : Nat} {r : Bool} {t : S56} (a : Int), goodD d r t → 2 ^ d ≤ (flatD d t a).length
 | 0, r, t, a, h => by simp [flatD]
 | d + 1, r, t, a, h => by
   obtain ⟨_, _, h2, _, hk⟩ := h
   match ht : t.f2, h2 with
   | x :: y :: ks, _ =>
     have h1 := flatD_two (a + 1) (hk x (by rw [ht]; simp))
     have h3 := flatD_two (a + 1 + ((flatD d x (a + 1)).length : Nat)) (hk y (by rw [ht]; simp))
     simp only [flatD, ht, flatL, List.length_cons, List.length_append, Nat.pow_succ]
     omega
theorem flatD_pos (d : Nat) (t : S56) (a : Int) : 0 < (flatD d t a).length := by
 cases d <;> simp [flatD]
/-- A piece of the nodes from a on. -/
def Seg (ns : List S90) (a : Nat) (l : List S90) : Prop := ∃ r, ns.drop a = l ++ r
theorem Seg.left {ns : List S90} {a : Nat} {l m : List S90} (h : Seg ns a (l ++ m)) : Seg ns a l := by
 obtain ⟨r, h⟩ := h
 exact ⟨m ++ r, by rw [h, List.append_assoc]⟩
theorem Seg.right {ns : List S90} {a : Nat} {l m : List S90} (h : Seg ns a (l ++ m)) : Seg ns (a + l.length) m := by
 obtain ⟨r, h⟩ := h
 refine ⟨r, ?_⟩
 rw [← List.drop_drop, h, List.append_assoc, List.drop_left]
theorem Seg.join {ns : List S90} {a : Nat} {l m : List S90} (h : Seg ns a l) (h2 : Seg ns (a + l.length) m) : Seg ns a (l ++ m) := by
 obtain ⟨r, h⟩ := h
 obtain ⟨s, h2⟩ := h2
 refine ⟨s, ?_⟩
 rw [← List.drop_drop, h, List.drop_left] at h2
 rw [h, h2, List.append_assoc]
theorem Seg.le {ns : List S90} {a : Nat} {l : List S90} (h : Seg ns a l) (hp : 0 < l.length) : a + l.length ≤ ns.length := by
 obtain ⟨r, h⟩ := h
 have := congrArg List.length h
 simp only [List.length_drop, List.length_append] at this
 omega
theorem Seg.rd {ns : List S90} {a : Nat} {x : S90} {l : List S90} (h : Seg ns a (x :: l)) : rd_T90 ns (a : Int) = x ∧ a < ns.length := by
 have hl := h.le (by simp)
 obtain ⟨r, h⟩ := h
 have h2 := congrArg (fun l => l[0]?) h
 simp only [List.getElem?_drop, Nat.add_zero, List.cons_append, List.getElem?_cons_zero] at h2
 refine ⟨?_, by simp at hl; omega⟩
 unfold rd_T90
 simp [List.getD_eq_getElem?_getD, h2]
theorem Seg.one {ns : List S90} {a : Nat} (h : a < ns.length) : Seg ns a [rd_T90 ns (a : Int)] := by
 refine ⟨ns.drop (a + 1), ?_⟩
 rw [List.drop_eq_getElem_cons h]
 unfold rd_T90
 simp [List.getD_eq_getElem?_getD, h]
/-- Where a tree's nodes lie, l3Nest finds it. -/
theorem nestD_of (ns : List S90) : ∀ (d : Nat) (r : Bool) (t : S56) (a fuel : Nat), goodD d r t → d < fuel → Seg ns a (flatD d t (a : Int)) → nestD ns fuel (a : Int) = (t, ((a + (flatD d t (a : Int)).length : Nat) : Int), true)
 | 0, r, t, a, f + 1, hg, hf, hs => by
   obtain ⟨e, hl⟩ := hs.rd
   obtain ⟨g1, g2, _, _⟩ := hg
   unfold nestD
   rw [if_pos ⟨by omega, by omega⟩, e]
   cases t
   simp_all [flatD]
 | d + 1, r, t, a, f + 1, hg, hf, hs => by
   obtain ⟨g1, g2, g3, g4, hk⟩ := hg
   have hs0 := hs
   simp only [flatD] at hs
   obtain ⟨e, hl⟩ := hs.rd
   have hs2 : Seg ns (a + 1) (flatL (flatD d) t.f2 (a + 1 : Int)) := Seg.right (l := [_]) hs
   unfold nestD
   rw [if_pos ⟨by omega, by omega⟩, e]
   simp only [Bool.false_eq_true, if_false, noL_length]
   have key : ∀ (ks acc : List S56) (b : Nat) (B : Bool), (∀ k ∈ ks, goodD d false k) → Seg ns b (flatL (flatD d) ks (b : Int)) → nestL (nestD ns f) B (noL (flatD d) ks (b : Int)) (b : Int) acc = (⟨false, [], acc ++ ks⟩, ((b + (flatL (flatD d) ks (b : Int)).length : Nat) : Int), B) := by
    intro ks
    induction ks with
    | nil => intro acc b B _ _; simp [noL, nestL, flatL]
    | cons k ks ih =>
      intro acc b B hk hs
      simp only [flatL] at hs
      have h1 := nestD_of ns d false k b f (hk k List.mem_cons_self) (by omega) hs.left
      have h2 := ih (acc ++ [k]) (b + (flatD d k (b : Int)).length) B (fun x hx => hk x (List.mem_cons_of_mem _ hx)) (by have := hs.right; simpa using this)
      simp only [noL, nestL, if_true, h1]
      simp only [Int.natCast_add] at h2 ⊢
      rw [h2]
      simp only [List.append_assoc, List.cons_append, List.nil_append, flatL, List.length_append, Int.natCast_add, Int.add_assoc]
   have := key t.f2 [] (a + 1) (decide (0 < t.f2.length)) hk (by simpa using hs2)
   simp only [Int.natCast_add, Int.natCast_one] at this
   rw [this]
   cases t
   simp_all [flatD, Int.add_assoc, Int.add_comm]
   omega
/-- What (*reader).node answers. -/
def readL (rec : Int → Option (S56 × Nat × Int)) (seps : List ByteArray) : List Int → Nat → Nat → Int → List S56 → Option (List S56 × Nat × Int)
 | [], _, level, next, acc => some (acc, level, next)
 | k :: ks, i, level, next, acc => if k = next then (match rec next with
    | none => none
    | some (x, below, after) => if 0 < i ∧ (below ≠ level ∨ headK below x ≠ seps.getD (i - 1) ByteArray.empty) then none else readL rec seps ks (i + 1) below after (acc ++ [x])) else none
def readD (ns : List S90) : Nat → Bool → Int → Option (S56 × Nat × Int)
 | 0, _, _ => none
 | f + 1, root, next => if next < (ns.length : Int) then
    (if (rd_T90 ns next).f0 = true then (if (rd_T90 ns next).f2.length = 0 ∧ (rd_T90 ns next).f1.length ≤ 4 ∧ (rd_T90 ns next).f3 = ((rd_T90 ns next).f1.length : Nat) ∧ (root = true ∨ 2 ≤ (rd_T90 ns next).f1.length) then some (⟨true, (rd_T90 ns next).f1, []⟩, 0, next + 1) else none)
    else (if 2 ≤ (rd_T90 ns next).f2.length ∧ (rd_T90 ns next).f2.length ≤ 4 ∧ (rd_T90 ns next).f1.length + 1 = (rd_T90 ns next).f2.length then
      (match readL (readD ns f false) (rd_T90 ns next).f1 (rd_T90 ns next).f2 0 0 (next + 1) [] with
      | none => none
      | some (xs, level, after) => if (((xs.map (keysD level)).flatten.length : Nat) : Int) = (rd_T90 ns next).f3 then some (⟨false, [], xs⟩, level + 1, after) else none) else none))
    else none
theorem readL_sound {ns : List S90} {f : Nat} (hrec : ∀ (a : Nat) x d after, readD ns f false (a : Int) = some (x, d, after) → goodD d false x ∧ Seg ns a (flatD d x (a : Int)) ∧ after = ((a + (flatD d x (a : Int)).length : Nat) : Int)) (seps : List ByteArray) :
   ∀ (ks : List Int) (i level : Nat) (b : Nat) (acc xs : List S56) (lv : Nat) (after : Int), (∀ j x, 0 < j → acc[j]? = some x → seps[j-1]? = some (headK level x)) → acc.length = i → (∀ x ∈ acc, goodD level false x) → (i + ks.length ≤ seps.length + 1) →
    readL (readD ns f false) seps ks i level (b : Int) acc = some (xs, lv, after) →
    (∃ ys, xs = acc ++ ys ∧ ys.length = ks.length ∧ (0 < ks.length ∨ level = lv) ∧ (0 < i → level = lv) ∧ (∀ x ∈ ys, goodD lv false x) ∧ Seg ns b (flatL (flatD lv) ys (b : Int)) ∧ ks = noL (flatD lv) ys (b : Int) ∧ after = ((b + (flatL (flatD lv) ys (b : Int)).length : Nat) : Int)) ∧ (∀ j x, 0 < j → xs[j]? = some x → seps[j-1]? = some (headK lv x)) := by
 intro ks
 induction ks with
 | nil =>
   intro i level b acc xs lv after hsep hi hacc hle h
   simp only [readL, Option.some.injEq, Prod.mk.injEq] at h
   obtain ⟨rfl, rfl, rfl⟩ := h
   exact ⟨⟨[], by simp, rfl, Or.inr rfl, fun _ => rfl, by simp, ⟨ns.drop b, by simp [flatL]⟩, by simp [noL], by simp [flatL]⟩, hsep⟩
 | cons k ks ih =>
   intro i level b acc xs lv after hsep hi hacc hle h
   unfold readL at h
   by_cases hk : k = (b : Int)
   ·rw [if_pos hk] at h
    rcases hr : readD ns f false (b : Int) with _ | ⟨x, below, aft⟩
    · rw [hr] at h; cases h
    · rw [hr] at h
      obtain ⟨g1, g2, g3⟩ := hrec b x below aft hr
      simp only at h
      by_cases hc : 0 < i ∧ (below ≠ level ∨ headK below x ≠ seps.getD (i - 1) ByteArray.empty)
      ·rw [if_pos hc] at h; cases h
      ·rw [if_neg hc] at h
       have hlv : 0 < i → below = level := fun hi0 => Decidable.byContradiction fun hne => hc ⟨hi0, Or.inl hne⟩
       have hhd : 0 < i → headK below x = seps.getD (i - 1) ByteArray.empty := fun hi0 => Decidable.byContradiction fun hne => hc ⟨hi0, Or.inr hne⟩
       rw [g3] at h
       have h1 : ∀ j y, 0 < j → (acc ++ [x])[j]? = some y → seps[j-1]? = some (headK below y) := by
        intro j y hj hy
        by_cases hjl : j < acc.length
        ·rw [List.getElem?_append_left hjl] at hy
         rw [hlv (by omega)]
         exact hsep j y hj hy
        ·have : j = acc.length := by
          have := (List.getElem?_eq_some_iff.1 hy).1
          simp at this
          omega
         subst this
         rw [List.getElem?_append_right (Nat.le_refl _), Nat.sub_self] at hy
         simp only [List.getElem?_cons_zero, Option.some.injEq] at hy
         subst hy
         rw [hhd (by omega), hi]
         simp only [List.length_cons] at hle
         rw [List.getD_eq_getElem?_getD, List.getElem?_eq_getElem (by omega)]
         rfl
       have h2 : ∀ y ∈ acc ++ [x], goodD below false y := by
        intro y hy
        rcases List.mem_append.1 hy with hy | hy
        ·have : 0 < i := by rw [← hi]; exact List.length_pos_of_mem hy
         rw [hlv this]
         exact hacc y hy
        ·rw [List.mem_singleton.1 hy]; exact g1
       obtain ⟨⟨ys, e1, e2, e3, e4, e5, e6, e7, e8⟩, e9⟩ := ih (i + 1) below (b + (flatD below x (b : Int)).length) (acc ++ [x]) xs lv after h1 (by simp [hi]) h2 (by simp only [List.length_cons] at hle; omega) h
       have e4' := e4 (by omega)
       subst e4'
       refine ⟨⟨x :: ys, by rw [e1]; simp, by simp [e2], Or.inl (by simp), fun h0 => (hlv h0).symm, ?_, ?_, ?_, ?_⟩, e9⟩
       ·intro y hy
        rcases List.mem_cons.1 hy with rfl | hy
        ·exact g1
        ·exact e5 y hy
       ·simp only [flatL]
        exact g2.join (by rw [← Int.natCast_add]; exact e6)
       ·simp only [noL]
        rw [hk, e7, Int.natCast_add]
       ·rw [e8]
        simp only [flatL, List.length_append, Int.natCast_add, Int.add_assoc]
   ·rw [if_neg hk] at h; cases h
theorem readD_sound {ns : List S90} : ∀ (f : Nat) (root : Bool) (a : Nat) (x : S56) (d : Nat) (after : Int), readD ns f root (a : Int) = some (x, d, after) → goodD d root x ∧ Seg ns a (flatD d x (a : Int)) ∧ after = ((a + (flatD d x (a : Int)).length : Nat) : Int)
 | 0, root, a, x, d, after, h => by cases h
 | f + 1, root, a, x, d, after, h => by
   unfold readD at h
   obtain ⟨nd, hnd⟩ : ∃ nd, nd = rd_T90 ns (a : Int) := ⟨_, rfl⟩
   rw [← hnd] at h
   by_cases h1 : (a : Int) < (ns.length : Int)
   ·rw [if_pos h1] at h
    have hone := Seg.one (ns := ns) (a := a) (by omega)
    rw [← hnd] at hone
    by_cases h2 : nd.f0 = true
    ·rw [if_pos h2] at h
     by_cases h3 : nd.f2.length = 0 ∧ nd.f1.length ≤ 4 ∧ nd.f3 = (nd.f1.length : Nat) ∧ (root = true ∨ 2 ≤ nd.f1.length)
     ·rw [if_pos h3] at h
      simp only [Option.some.injEq, Prod.mk.injEq] at h
      obtain ⟨rfl, rfl, rfl⟩ := h
      obtain ⟨a1, a2, a3, a4⟩ := h3
      refine ⟨⟨rfl, rfl, a2, a4⟩, ?_, by simp [flatD]⟩
      have : nd = ⟨true, nd.f1, [], (nd.f1.length : Nat)⟩ := by
       cases nd
       simp_all
      simp only [flatD]
      rw [← this]
      exact hone
     ·rw [if_neg h3] at h; cases h
    ·rw [if_neg h2] at h
     by_cases h3 : 2 ≤ nd.f2.length ∧ nd.f2.length ≤ 4 ∧ nd.f1.length + 1 = nd.f2.length
     ·rw [if_pos h3] at h
      rcases hl : readL (readD ns f false) nd.f1 nd.f2 0 0 ((a : Int) + 1) [] with _ | ⟨xs, level, aft⟩
      ·rw [hl] at h; cases h
      ·rw [hl] at h
       simp only at h
       by_cases h4 : (((xs.map (keysD level)).flatten.length : Nat) : Int) = nd.f3
       ·rw [if_pos h4] at h
        simp only [Option.some.injEq, Prod.mk.injEq] at h
        obtain ⟨rfl, rfl, rfl⟩ := h
        rw [show (a : Int) + 1 = ((a + 1 : Nat) : Int) by simp] at hl
        obtain ⟨⟨ys, e1, e2, e3, e4, e5, e6, e7, e8⟩, e9⟩ := readL_sound (fun b x d after => readD_sound f false b x d after) nd.f1 nd.f2 0 0 (a + 1) [] xs level aft (by simp) rfl (by simp) (by omega) hl
        simp only [List.nil_append] at e1
        subst e1
        refine ⟨⟨rfl, rfl, by simp only [e2]; omega, by simp only [e2]; omega, e5⟩, ?_, ?_⟩
        ·have : nd = ⟨false, sepL level xs, noL (flatD level) xs ((a : Int) + 1), ((keysD (level + 1) ⟨false, [], xs⟩).length : Nat)⟩ := by
          have q1 : nd.f1 = sepL level xs := by
           apply List.ext_getElem?
           intro j
           simp only [sepL, List.getElem?_map, List.getElem?_drop]
           rcases hx : xs[1 + j]? with _ | x
           ·have := List.getElem?_eq_none_iff.1 hx
            rw [List.getElem?_eq_none (by omega)]; rfl
           ·have := e9 (1 + j) x (by omega) hx
            rw [show 1 + j - 1 = j by omega] at this
            rw [this]; rfl
          have q2 : nd.f2 = noL (flatD level) xs ((a : Int) + 1) := by rw [e7]; simp
          have q3 : nd.f3 = ((keysD (level + 1) ⟨false, [], xs⟩).length : Nat) := by rw [← h4]; rfl
          have q4 : nd.f0 = false := by simpa using h2
          rw [← q1, ← q2, ← q3, ← q4]
         simp only [flatD]
         rw [← this]
         exact Seg.join (l := [nd]) hone (by simpa using e6)
        ·rw [e8]
         simp [flatD]
         omega
       ·rw [if_neg h4] at h; cases h
     ·rw [if_neg h3] at h; cases h
   ·rw [if_neg h1] at h; cases h
theorem readD_of (ns : List S90) : ∀ (d : Nat) (r : Bool) (t : S56) (a fuel : Nat), goodD d r t → d < fuel → Seg ns a (flatD d t (a : Int)) → readD ns fuel r (a : Int) = some (t, d, ((a + (flatD d t (a : Int)).length : Nat) : Int))
 | 0, r, t, a, f + 1, hg, hf, hs => by
   obtain ⟨e, hl⟩ := hs.rd
   obtain ⟨g1, g2, g3, g4⟩ := hg
   unfold readD
   rw [if_pos (by omega), e]
   cases t
   simp_all [flatD]
 | d + 1, r, t, a, f + 1, hg, hf, hs => by
   obtain ⟨g1, g2, g3, g4, hk⟩ := hg
   simp only [flatD] at hs
   obtain ⟨e, hl⟩ := hs.rd
   have hs2 : Seg ns (a + 1) (flatL (flatD d) t.f2 (a + 1 : Int)) := Seg.right (l := [_]) hs
   have hsl : (sepL d t.f2).length + 1 = t.f2.length := by simp [sepL]; omega
   unfold readD
   rw [if_pos (by omega), e]
   simp only [Bool.false_eq_true, if_false, noL_length]
   rw [if_pos ⟨g3, g4, hsl⟩]
   have key : ∀ (ks acc : List S56) (i b lv : Nat), acc ++ ks = t.f2 → acc.length = i → (0 < i → lv = d) → Seg ns b (flatL (flatD d) ks (b : Int)) → readL (readD ns f false) (sepL d t.f2) (noL (flatD d) ks (b : Int)) i lv (b : Int) acc = some (acc ++ ks, if 0 < ks.length then d else lv, ((b + (flatL (flatD d) ks (b : Int)).length : Nat) : Int)) := by
    intro ks
    induction ks with
    | nil => intro acc i b lv _ _ _ _; simp [noL, readL, flatL]
    | cons k ks ih =>
      intro acc i b lv ha hi hlv hs
      simp only [flatL] at hs
      have hkm : goodD d false k := hk k (by rw [← ha]; simp)
      have h1 := readD_of ns d false k b f hkm (by omega) hs.left
      have h2 := ih (acc ++ [k]) (i + 1) (b + (flatD d k (b : Int)).length) d (by rw [← ha]; simp) (by simp [hi]) (fun _ => rfl) (by have := hs.right; simpa using this)
      have hc : ¬ (0 < i ∧ (d ≠ lv ∨ headK d k ≠ (sepL d t.f2).getD (i - 1) ByteArray.empty)) := by
       rintro ⟨c1, c2 | c2⟩
       ·exact c2 (hlv c1).symm
       ·apply c2
        have : t.f2[i]? = some k := by rw [← ha, ← hi]; simp
        simp only [sepL, List.getD_eq_getElem?_getD, List.getElem?_map, List.getElem?_drop]
        rw [show 1 + (i - 1) = i by omega, this]
        rfl
      simp only [noL, readL, if_true, h1]
      rw [if_neg hc]
      simp only [Int.natCast_add] at h2 ⊢
      rw [h2]
      simp [flatL, Int.add_assoc]
   have := key t.f2 [] 0 (a + 1) 0 (by simp) rfl (by simp) (by simpa using hs2)
   simp only [Int.natCast_add, Int.natCast_one, List.nil_append] at this
   rw [this, if_pos (by omega)]
   simp only
   rw [show keysD (d + 1) t = (t.f2.map (keysD d)).flatten from rfl, if_pos rfl]
   cases t
   simp_all [flatD, Int.add_assoc, Int.add_comm]

/-! ### L_ukn: a text by hand -/
-- impl's nodes as elements of rows, by depth (an element is an interface holding a pointer)
def ifP (t b : Nat) : Value := .iface t (.pointer (some ⟨b, 0, none⟩))
theorem heap_at {w w1 : World} {b : Nat} {o : Obj} (hb : Below w.heap.size w w1) (h : w.heap[b]? = some o) : w1.heap[b]? = some o := (hb.block b (Array.getElem?_eq_some_iff.1 h).1).trans h
def LeafAt (w : World) (b : Nat) (A : Option Addr) (c : Nat) (t : S56) : Prop := t.f0 = true ∧ t.f2 = [] ∧ w.heap[b]? = some (.cells #[.int .i64 (t.f1.length : Nat), .slice A t.f1.length c] 93 (0, 0)) ∧ t.f1.length ≤ c
def InnerAt (d : Nat) (w : World) (b : Nat) (A : Option Addr) (c : Nat) (t : S56) : Prop := t.f0 = false ∧ t.f1 = [] ∧ w.heap[b]? = some (.cells #[.int .i64 ((keysD (d + 1) t).length : Nat), .slice A t.f2.length c] 87 (0, 0)) ∧ t.f2.length ≤ c
def kN0 : Kd S56 where
 sz := 1
 E := []
 K := fun w t cs => ∃ b A c, cs = [ifP 58 b] ∧ LeafAt w b A c t ∧ Kd.C Kd.string w A t.f1.length t.f1
 M := fun _ _ _ _ _ => False
 K_len := by rintro w x cs ⟨b, A, c, rfl, _⟩; rfl
 K_one := by rintro w x cs ⟨b, A, c, rfl, _⟩ u hu; rw [List.mem_singleton.1 hu]; rfl
 K_below := by rintro w w1 x cs hb ⟨b, A, c, rfl, h, hc⟩; exact ⟨b, A, c, rfl, ⟨h.1, h.2.1, heap_at hb h.2.2.1, h.2.2.2⟩, Kd.C_below hc hb⟩
 K_of_M := fun h => h.elim
 M_mono := fun _ h => h
 M_bound := fun h => h.elim
 M_move := fun _ h => h
 M_lower := fun _ h => h
def kNs (d : Nat) (k : Kd S56) : Kd S56 where
 sz := 1
 E := []
 K := fun w t cs => ∃ b A c, cs = [ifP 79 b] ∧ InnerAt d w b A c t ∧ Kd.C k w A t.f2.length t.f2
 M := fun _ _ _ _ _ => False
 K_len := by rintro w x cs ⟨b, A, c, rfl, _⟩; rfl
 K_one := by rintro w x cs ⟨b, A, c, rfl, _⟩ u hu; rw [List.mem_singleton.1 hu]; rfl
 K_below := by rintro w w1 x cs hb ⟨b, A, c, rfl, h, hc⟩; exact ⟨b, A, c, rfl, ⟨h.1, h.2.1, heap_at hb h.2.2.1, h.2.2.2⟩, Kd.C_below hc hb⟩
 K_of_M := fun h => h.elim
 M_mono := fun _ h => h
 M_bound := fun h => h.elim
 M_move := fun _ h => h
 M_lower := fun _ h => h
def kN : Nat → Kd S56
 | 0 => kN0
 | d + 1 => kNs d (kN d)
theorem kN_sz (d : Nat) : (kN d).sz = 1 := by cases d <;> rfl
theorem ifP_inj {t b b' : Nat} (h : [ifP t b] = [ifP t b']) : b = b' := by
 unfold ifP at h
 simpa using h
theorem blk_ok {W : World} {ok : Nat → Prop} {b t : Nat} {v : Value} {vs : List Value} {P : World → Prop} (hf : Foot P W ok) (h : ∀ W', P W' → ∃ v vs, W'.heap[b]? = some (.cells ⟨v :: vs⟩ t (0, 0))) : ok b := by
 by_cases hk : ok b
 ·exact hk
 ·obtain ⟨W', _, h2, h3⟩ := Kd.emptied_at W b
  obtain ⟨v, vs, hc⟩ := h W' (hf W' (fun k hk' _ => h2 k (fun e => hk (e ▸ hk'))))
  have h4 := h3 ⟨b, 0, none⟩ rfl
  rw [blk_cell hc 0] at h4
  cases h4
theorem kN_open0 {W : World} {ok : Nat → Prop} {t : S56} {cs : List Value} (h : Kd.FK (kN 0) W ok t cs) : ∃ b A c, cs = [ifP 58 b] ∧ LeafAt W b A c t ∧ ok b ∧ Kd.F Kd.string W ok A t.f1.length t.f1 := by
 obtain ⟨b, A, c, rfl, hl, hc⟩ := Kd.FK_now h
 have hb : ok b := blk_ok (b := b) (t := 93) (v := .bool true) (vs := []) h (by
  rintro W' ⟨b', A', c', he, hl', _⟩
  rw [ifP_inj he]
  exact ⟨_, _, hl'.2.2.1⟩)
 refine ⟨b, A, c, rfl, hl, hb, fun W' hW => ?_⟩
 obtain ⟨b', A', c', he, hl', hc'⟩ := h W' hW
 have := ifP_inj he
 subst this
 have h1 := hl'.2.2.1
 rw [hW b hb (Array.getElem?_eq_some_iff.1 hl.2.2.1).1, hl.2.2.1] at h1
 simp at h1
 rw [h1.1]
 exact hc'
theorem kN_openS {d : Nat} {W : World} {ok : Nat → Prop} {t : S56} {cs : List Value} (h : Kd.FK (kN (d + 1)) W ok t cs) : ∃ b A c, cs = [ifP 79 b] ∧ InnerAt d W b A c t ∧ ok b ∧ Kd.F (kN d) W ok A t.f2.length t.f2 := by
 obtain ⟨b, A, c, rfl, hl, hc⟩ := Kd.FK_now h
 have hb : ok b := blk_ok (b := b) (t := 87) (v := .bool true) (vs := []) h (by
  rintro W' ⟨b', A', c', he, hl', _⟩
  rw [ifP_inj he]
  exact ⟨_, _, hl'.2.2.1⟩)
 refine ⟨b, A, c, rfl, hl, hb, fun W' hW => ?_⟩
 obtain ⟨b', A', c', he, hl', hc'⟩ := h W' hW
 have := ifP_inj he
 subst this
 have h1 := hl'.2.2.1
 rw [hW b hb (Array.getElem?_eq_some_iff.1 hl.2.2.1).1, hl.2.2.1] at h1
 simp at h1
 rw [h1.1]
 exact hc'
theorem kN_mk0 {W : World} {ok : Nat → Prop} {t : S56} {b : Nat} {A : Option Addr} {c : Nat} (hl : LeafAt W b A c t) (hb : ok b) (hF : Kd.F Kd.string W ok A t.f1.length t.f1) : Kd.FK (kN 0) W ok t [ifP 58 b] := fun W' hW =>
 ⟨b, A, c, rfl, ⟨hl.1, hl.2.1, (hW b hb (Array.getElem?_eq_some_iff.1 hl.2.2.1).1).trans hl.2.2.1, hl.2.2.2⟩, hF W' hW⟩
theorem kN_mkS {d : Nat} {W : World} {ok : Nat → Prop} {t : S56} {b : Nat} {A : Option Addr} {c : Nat} (hl : InnerAt d W b A c t) (hb : ok b) (hF : Kd.F (kN d) W ok A t.f2.length t.f2) : Kd.FK (kN (d + 1)) W ok t [ifP 79 b] := fun W' hW =>
 ⟨b, A, c, rfl, ⟨hl.1, hl.2.1, (hW b hb (Array.getElem?_eq_some_iff.1 hl.2.2.1).1).trans hl.2.2.1, hl.2.2.2⟩, hF W' hW⟩

/-! ### L_vsp: a text by hand -/
-- uses spec_l3Size.f
-- plain: what the printed spec functions answer at trees
theorem rd56_at (l : List S56) (i : Nat) (h : i < l.length) : rd_T56 l (i : Int) = l[i] := by
 unfold rd_T56
 simp [List.getD_eq_getElem?_getD, h]
theorem w64s (i : Nat) (h : i < 1048576 * 8) : wrap64 ((i : Int) + 1) = ((i + 1 : Nat) : Int) := by unfold wrap64; omega
theorem pow4 : ∀ n m : Nat, n ≤ m → 4 ^ n ≤ 4 ^ m := fun _ _ h => Nat.pow_le_pow_right (by decide) h
theorem keys_at : ∀ (d : Nat) (r : Bool) (t : S56) (k : Nat), goodD d r t → d ≤ 20 → 6 * d + 1 ≤ k → spec_l3Keys.f k t.f0 t.f1 t.f2 = some (keysD d t)
 | 0, r, t, k + 1, h, _, _ => by
   unfold spec_l3Keys.f
   rw [if_pos h.1]
   have := h.2.2.1
   simp only [Option.bind_some, List.nil_append, List.length_nil, keysD]
   rw [if_pos (by omega)]
 | d + 1, r, t, k + 1, h, hd, hk => by
   have hle := keysD_le h
   have h21 : 4 ^ (d + 1 + 1) ≤ 4 ^ 21 := pow4 _ _ (by omega)
   obtain ⟨h0, _, h2, h4, hks⟩ := h
   unfold spec_l3Keys.f
   rw [if_neg (by rw [h0]; decide)]
   have key : ∀ (m i k : Nat), i + m = t.f2.length → 6 * d + 1 + m + 1 ≤ k → spec_l3Keys.l0 k ((t.f2.take i).map (keysD d)).flatten (i : Int) t.f0 t.f1 t.f2 = some (keysD (d + 1) t) := by
    intro m
    induction m with
    | zero =>
      intro i k hi hk
      match k, hk with
      | k + 1, hk =>
        unfold spec_l3Keys.l0
        rw [if_neg (by omega), List.take_of_length_le (by omega)]
        rfl
    | succ m ih =>
      intro i k hi hk
      match k, hk with
      | k + 1, hk =>
        have hi2 : i < t.f2.length := by omega
        have h1 := keys_at d false t.f2[i] k (hks _ (List.getElem_mem hi2)) (by omega) (by omega)
        have h3 := ih (i + 1) k (by omega) (by omega)
        unfold spec_l3Keys.l0
        rw [if_pos (by omega), if_pos (by omega), rd56_at _ _ hi2, h1, w64s i (by omega)]
        simp only [Option.bind_some]
        have e : ((t.f2.take (i + 1)).map (keysD d)).flatten = ((t.f2.take i).map (keysD d)).flatten ++ keysD d t.f2[i] := by
         rw [List.take_add_one, List.getElem?_eq_getElem hi2, List.map_append, List.flatten_append]
         simp only [Option.toList_some, List.map_cons, List.map_nil, List.flatten_cons, List.flatten_nil, List.append_nil]
        rw [e] at h3
        have hl : ((t.f2.take (i + 1)).map (keysD d)).flatten.length ≤ (keysD (d + 1) t).length := by
         show _ ≤ ((t.f2.map (keysD d)).flatten).length
         conv => rhs; rw [← List.take_append_drop (i + 1) t.f2]
         simp only [List.map_append, List.flatten_append, List.length_append]
         omega
        rw [e, List.length_append] at hl
        rw [if_pos (by omega)]
        exact h3
   exact key t.f2.length 0 k (by omega) (by omega)
/-- What l3Depth answers. -/
def depM : Nat → Bool → S56 → Int
 | 0, _, _ => -1
 | n + 1, root, t => if 4 < (if t.f0 = true then t.f1.length else t.f2.length) ∨ ((if t.f0 = true then t.f1.length else t.f2.length) < 2 ∧ (root = false ∨ t.f0 = false)) then -1 else
    if t.f0 = true then 0 else if (∀ k ∈ t.f2, depM n false k = depM n false (rd_T56 t.f2 0)) ∧ 0 ≤ depM n false (rd_T56 t.f2 0) then depM n false (rd_T56 t.f2 0) + 1 else -1
/-- What l3Nest leaves where it is well. -/
def shapeN : Nat → S56 → Prop
 | 0, _ => False
 | n + 1, t => (t.f0 = true ∧ t.f2 = []) ∨ (t.f0 = false ∧ t.f1 = [] ∧ ∀ k ∈ t.f2, shapeN n k)
theorem rd56_mem {l : List S56} (h : 0 < l.length) : rd_T56 l 0 ∈ l := by
 have := rd56_at l 0 h
 rw [show ((0 : Nat) : Int) = 0 from rfl] at this
 rw [this]
 exact List.getElem_mem h
theorem depM_lt : ∀ (n : Nat) (r : Bool) (t : S56), -1 ≤ depM n r t ∧ depM n r t < n
 | 0, r, t => by simp [depM]
 | n + 1, r, t => by
   have := depM_lt n false (rd_T56 t.f2 0)
   unfold depM
   repeat' split
   all_goals omega
theorem depth_at : ∀ (n : Nat) (r : Bool) (t : S56) (k : Nat), shapeN n t → n ≤ 21 → 8 * n ≤ k → spec_l3Depth.f k t.f0 t.f1 t.f2 r = some (depM n r t)
 | n + 1, r, t, k + 2, h, hn, hk => by
   have hsz : spec_l3Size.f t.f0 t.f1 t.f2 = some (((if t.f0 = true then t.f1.length else t.f2.length : Nat)) : Int) := by
    unfold spec_l3Size.f
    split <;> rfl
   have jt : ∀ b : Bool, spec_l3Depth.j0 (k + 1) true t.f0 t.f1 t.f2 = some (-1) := fun _ => by unfold spec_l3Depth.j0; rw [if_pos rfl]
   obtain ⟨sz, hs⟩ : ∃ sz, sz = (if t.f0 = true then t.f1.length else t.f2.length) := ⟨_, rfl⟩
   rw [← hs] at hsz
   unfold spec_l3Depth.f
   rw [hsz]
   simp only [Option.bind_some]
   unfold depM
   rw [← hs]
   by_cases c1 : 4 < sz
   ·rw [if_pos (show (sz : Int) > 4 by omega), if_pos (Or.inl c1)]
    exact jt true
   ·rw [if_neg (show ¬ (sz : Int) > 4 by omega)]
    by_cases c2 : sz < 2 ∧ (r = false ∨ t.f0 = false)
    ·rw [if_pos (show 4 < sz ∨ (sz < 2 ∧ (r = false ∨ t.f0 = false)) from Or.inr c2), if_pos (show (sz : Int) < 2 by omega)]
     rcases c2.2 with rfl | h0
     ·rw [if_neg (by decide)]; exact jt true
     ·rw [h0]
      split
      ·have := jt true; rw [h0] at this; exact this
      ·have := jt true; rw [h0] at this; exact this
    ·rw [if_neg (show ¬ (4 < sz ∨ (sz < 2 ∧ (r = false ∨ t.f0 = false))) from fun h => h.elim (fun h => c1 h) (fun h => c2 h))]
     have e : (if (sz : Int) < 2 then (if r = true then spec_l3Depth.j0 (k + 1) (!t.f0) t.f0 t.f1 t.f2 else spec_l3Depth.j0 (k + 1) true t.f0 t.f1 t.f2) else spec_l3Depth.j0 (k + 1) false t.f0 t.f1 t.f2) = spec_l3Depth.j0 (k + 1) false t.f0 t.f1 t.f2 := by
      by_cases c3 : sz < 2
      ·rw [if_pos (by omega)]
       have h1 : r = true := by
        rcases r with _ | _
        · exact absurd ⟨c3, Or.inl rfl⟩ c2
        · rfl
       have h2 : t.f0 = true := by
        rcases h0 : t.f0 with _ | _
        · exact absurd ⟨c3, Or.inr h0⟩ c2
        · rfl
       rw [h1, h2]
       rfl
      ·rw [if_neg (by omega)]
     rw [e]
     unfold spec_l3Depth.j0
     rw [if_neg (by decide)]
     by_cases c3 : t.f0 = true
     ·rw [if_pos c3, if_pos c3]
     ·rw [if_neg c3, if_neg c3]
      rcases h with h | ⟨h0, h1, hks⟩
      ·exact absurd h.1 c3
      ·have hsl : sz = t.f2.length := by rw [hs, if_neg c3]
       have hl2 : 2 ≤ t.f2.length := by
        rcases Nat.lt_or_ge sz 2 with c4 | c4
        · exact absurd ⟨c4, Or.inr h0⟩ c2
        · omega
       rw [if_pos (by omega)]
       obtain ⟨v0, hv0⟩ : ∃ v0, v0 = depM n false (rd_T56 t.f2 0) := ⟨_, rfl⟩
       rw [depth_at n false _ k (hks _ (rd56_mem (by omega))) (by omega) (by omega), ← hv0]
       simp only [Option.bind_some]
       have hb := depM_lt n false (rd_T56 t.f2 0)
       rw [← hv0] at hb
       have key : ∀ (m i k : Nat), i + m = t.f2.length → 8 * n + m + 1 ≤ k → (∀ x ∈ t.f2.take i, depM n false x = v0) → spec_l3Depth.l0 k v0 (i : Int) t.f0 t.f1 t.f2 = some (if (∀ x ∈ t.f2, depM n false x = v0) ∧ 0 ≤ v0 then v0 + 1 else -1) := by
        intro m
        induction m with
        | zero =>
          intro i k hi hk ha
          match k, hk with
          | k + 1, hk =>
            rw [List.take_of_length_le (by omega)] at ha
            unfold spec_l3Depth.l0
            rw [if_neg (by omega)]
            by_cases c5 : v0 < 0
            ·rw [if_pos c5, if_neg (by omega)]
            ·rw [if_neg c5, if_pos ⟨ha, by omega⟩, show wrap64 (v0 + 1) = v0 + 1 by unfold wrap64; omega]
        | succ m ih =>
          intro i k hi hk ha
          match k, hk with
          | k + 1, hk =>
            have hi2 : i < t.f2.length := by omega
            unfold spec_l3Depth.l0
            rw [if_pos (by omega), if_pos (by omega), rd56_at _ _ hi2, depth_at n false _ k (hks _ (List.getElem_mem hi2)) (by omega) (by omega), w64s i (by omega)]
            simp only [Option.bind_some]
            by_cases c6 : depM n false t.f2[i] = v0
            ·rw [if_pos c6]
             refine ih (i + 1) k (by omega) (by omega) (fun x hx => ?_)
             rw [List.take_add_one, List.getElem?_eq_getElem hi2] at hx
             rcases List.mem_append.1 hx with hx | hx
             ·exact ha x hx
             ·simp at hx
              rw [hx]; exact c6
            ·rw [if_neg c6, if_neg (fun hh => c6 (hh.1 _ (List.getElem_mem hi2)))]
       exact key t.f2.length 0 k (by omega) (by omega) (by simp)
theorem depM_good : ∀ (n : Nat) (r : Bool) (t : S56), shapeN n t → 0 ≤ depM n r t → goodD (depM n r t).toNat r t
 | n + 1, r, t, h, hp => by
   unfold depM at hp ⊢
   obtain ⟨sz, hs⟩ : ∃ sz, sz = (if t.f0 = true then t.f1.length else t.f2.length) := ⟨_, rfl⟩
   rw [← hs] at hp ⊢
   by_cases c1 : 4 < sz ∨ (sz < 2 ∧ (r = false ∨ t.f0 = false))
   ·rw [if_pos c1] at hp; omega
   ·rw [if_neg c1] at hp ⊢
    by_cases c3 : t.f0 = true
    ·rw [if_pos c3]
     rw [if_pos c3] at hs
     refine ⟨c3, ?_, by omega, ?_⟩
     ·rcases h with h | h
      ·exact h.2
      ·rw [h.1] at c3; cases c3
     ·rcases r with _ | _
      ·right
       rcases Nat.lt_or_ge sz 2 with c | c
       ·exact absurd (Or.inr ⟨c, Or.inl rfl⟩) c1
       ·omega
      ·exact Or.inl rfl
    ·rw [if_neg c3] at hp ⊢
     rw [if_neg c3] at hs
     rcases h with h | ⟨h0, h1, hks⟩
     ·exact absurd h.1 c3
     ·by_cases c4 : (∀ k ∈ t.f2, depM n false k = depM n false (rd_T56 t.f2 0)) ∧ 0 ≤ depM n false (rd_T56 t.f2 0)
      ·rw [if_pos c4]
       have e : (depM n false (rd_T56 t.f2 0) + 1).toNat = (depM n false (rd_T56 t.f2 0)).toNat + 1 := by omega
       rw [e]
       refine ⟨h0, h1, ?_, by omega, fun k hk => ?_⟩
       ·rcases Nat.lt_or_ge sz 2 with c | c
        ·exact absurd (Or.inr ⟨c, Or.inr h0⟩) c1
        ·omega
       ·have := depM_good n false k (hks k hk) (by rw [c4.1 k hk]; exact c4.2)
        rw [c4.1 k hk] at this
        exact this
      ·rw [if_neg c4] at hp; omega
theorem depM_of : ∀ (d n : Nat) (r : Bool) (t : S56), goodD d r t → d < n → depM n r t = d
 | 0, n + 1, r, t, h, _ => by
   obtain ⟨h0, h1, h2, h3⟩ := h
   unfold depM
   simp only [h0, if_true]
   rw [if_neg]
   ·rfl
   ·rintro (h | ⟨h, h4 | h4⟩)
    ·omega
    ·rcases h3 with h3 | h3
     ·rw [h3] at h4; cases h4
     ·omega
    ·cases h4
 | d + 1, n + 1, r, t, h, hn => by
   obtain ⟨h0, h1, h2, h3, hk⟩ := h
   have e0 := depM_of d n false _ (hk _ (rd56_mem (by omega))) (by omega)
   unfold depM
   simp only [h0, Bool.false_eq_true, if_false]
   rw [if_neg (by omega), e0, if_pos ⟨fun k hk' => depM_of d n false k (hk k hk') (by omega), by omega⟩]
   simp
theorem shape_nest (ns : List S90) : ∀ (n : Nat) (i : Int), (nestD ns n i).2.2 = true → shapeN n (nestD ns n i).1
 | 0, i, h => by cases h
 | n + 1, i, h => by
   unfold nestD at h ⊢
   by_cases c1 : 0 ≤ i ∧ i < (ns.length : Int)
   ·rw [if_pos c1] at h ⊢
    by_cases c2 : (rd_T90 ns i).f0 = true
    ·rw [if_pos c2]
     exact Or.inl ⟨rfl, rfl⟩
    ·rw [if_neg c2] at h ⊢
     have key : ∀ (ks : List Int) (b : Bool) (next : Int) (acc : List S56), (∀ x ∈ acc, shapeN n x) → (nestL (nestD ns n) b ks next acc).2.2 = true → shapeN (n + 1) (nestL (nestD ns n) b ks next acc).1 := by
      intro ks
      induction ks with
      | nil => intro b next acc ha _; exact Or.inr ⟨rfl, rfl, ha⟩
      | cons k ks ih =>
        intro b next acc ha h
        unfold nestL at h ⊢
        by_cases c3 : k = next
        ·rw [if_pos c3] at h ⊢
         by_cases c4 : (nestD ns n next).2.2 = true
         ·rw [if_pos c4] at h ⊢
          refine ih b _ _ (fun x hx => ?_) h
          rcases List.mem_append.1 hx with hx | hx
          ·exact ha x hx
          ·rw [List.mem_singleton.1 hx]
           exact shape_nest ns n next c4
         ·rw [if_neg c4] at h; cases h
        ·rw [if_neg c3] at h; cases h
     exact key _ _ _ _ (by simp) h
   ·rw [if_neg c1] at h; cases h

/-! ### L_wsame: a text by hand -/
-- plain: l3SameNodes, what a valid tree is
theorem bs_inj {a b : ByteArray} (h : a.toList = b.toList) : a = b := by
 rw [ByteArray.toList_eq, ByteArray.toList_eq] at h
 cases a
 cases b
 simp only at h
 congr
 exact Array.toList_inj.1 h
theorem rdb_at (l : List ByteArray) (i : Nat) (h : i < l.length) : rdOf ByteArray.empty l (i : Int) = l[i] := by
 unfold rdOf
 simp [List.getD_eq_getElem?_getD, h]
theorem rdi_at (l : List Int) (i : Nat) (h : i < l.length) : rd l (i : Int) = l[i] := by
 unfold rd
 simp [List.getD_eq_getElem?_getD, h]
theorem rd90_at (l : List S90) (i : Nat) (h : i < l.length) : rd_T90 l (i : Int) = l[i] := by
 unfold rd_T90
 simp [List.getD_eq_getElem?_getD, h]
theorem w64m (i : Nat) (h : i < 9223372036854775807) : wrap64 ((i : Int) + 1) = ((i + 1 : Nat) : Int) := by unfold wrap64; omega
theorem drop_eq' {α : Type} {a b : List α} {i : Nat} (ha : i < a.length) (hb : i < b.length) : (a.drop i = b.drop i) ↔ (a[i] = b[i] ∧ a.drop (i + 1) = b.drop (i + 1)) := by
 rw [List.drop_eq_getElem_cons ha, List.drop_eq_getElem_cons hb, List.cons.injEq]
open Classical in
noncomputable def iteB (p : Prop) (r : Bool) : Bool := if p then r else false
theorem iteB_pos {p : Prop} {r : Bool} (h : p) : iteB p r = r := by unfold iteB; rw [if_pos h]
theorem iteB_neg {p : Prop} {r : Bool} (h : ¬ p) : iteB p r = false := by unfold iteB; rw [if_neg h]
theorem iteB_and {p q : Prop} {r : Bool} (h : p) : iteB (p ∧ q) r = iteB q r := by
 by_cases hq : q
 ·rw [iteB_pos ⟨h, hq⟩, iteB_pos hq]
 ·rw [iteB_neg (fun x => hq x.2), iteB_neg hq]
section
variable {x0 x1 : List S90}
theorem same2_ev {x5 : Nat} (h0 : x5 < x0.length) (h1 : x5 < x1.length) (hl : x0[x5].f2.length = x1[x5].f2.length) (hm : x0[x5].f2.length ≤ 9223372036854775807) {r : Bool} (hr : Ev (fun k => spec_l3SameNodes.l0 k x0 x1 (wrap64 ((x5 : Int) + 1))) r) :
   ∀ m i : Nat, i + m = x0[x5].f2.length → Ev (fun k => spec_l3SameNodes.l2 k x0 x1 (x5 : Int) (i : Int)) (iteB (x0[x5].f2.drop i = x1[x5].f2.drop i) r) := by
 intro m
 induction m with
 | zero =>
   intro i hi
   refine Ev.step (f := fun k => spec_l3SameNodes.l0 k x0 x1 (wrap64 ((x5 : Int) + 1))) (fun k => ?_) ?_
   ·show spec_l3SameNodes.l2 (k + 1) x0 x1 (x5 : Int) (i : Int) = _
    unfold spec_l3SameNodes.l2
    rw [if_pos (by omega), if_pos (by omega), rd90_at _ _ h0, if_neg (by omega)]
   ·rw [List.drop_of_length_le (by omega), List.drop_of_length_le (by omega), iteB_pos rfl]
    exact hr
 | succ m ih =>
   intro i hi
   have ha : i < x0[x5].f2.length := by omega
   have hb : i < x1[x5].f2.length := by omega
   by_cases c : x0[x5].f2[i] = x1[x5].f2[i]
   ·refine Ev.step (f := fun k => spec_l3SameNodes.l2 k x0 x1 (x5 : Int) ((i + 1 : Nat) : Int)) (fun k => ?_) ?_
    ·show spec_l3SameNodes.l2 (k + 1) x0 x1 (x5 : Int) (i : Int) = _
     rw [spec_l3SameNodes.l2]
     rw [if_pos (by omega), if_pos (by omega), rd90_at _ _ h0, rd90_at _ _ h1, if_pos (by omega), if_pos (by omega), if_pos (by omega), if_pos (by omega), rdi_at _ _ ha, rdi_at _ _ hb, if_pos c, w64m _ (by omega)]
    ·have := ih (i + 1) (by omega)
     rw [drop_eq' ha hb, iteB_and c]
     exact this
   ·refine Ev.step (f := fun _ => some false) (fun k => ?_) ?_
    ·show spec_l3SameNodes.l2 (k + 1) x0 x1 (x5 : Int) (i : Int) = _
     rw [spec_l3SameNodes.l2]
     rw [if_pos (by omega), if_pos (by omega), rd90_at _ _ h0, rd90_at _ _ h1, if_pos (by omega), if_pos (by omega), if_pos (by omega), if_pos (by omega), rdi_at _ _ ha, rdi_at _ _ hb, if_neg c]
    ·rw [iteB_neg (fun h => c ((drop_eq' ha hb).1 h).1)]
     exact Ev.now _
theorem same1_ev {x5 : Nat} (h0 : x5 < x0.length) (h1 : x5 < x1.length) (hl : x0[x5].f1.length = x1[x5].f1.length) (hm : x0[x5].f1.length ≤ 9223372036854775807) {r : Bool} (hr : Ev (fun k => spec_l3SameNodes.l2 k x0 x1 (x5 : Int) 0) r) :
   ∀ m i : Nat, i + m = x0[x5].f1.length → Ev (fun k => spec_l3SameNodes.l1 k x0 x1 (x5 : Int) (i : Int)) (iteB (x0[x5].f1.drop i = x1[x5].f1.drop i) r) := by
 intro m
 induction m with
 | zero =>
   intro i hi
   refine Ev.step (f := fun k => spec_l3SameNodes.l2 k x0 x1 (x5 : Int) 0) (fun k => ?_) ?_
   ·show spec_l3SameNodes.l1 (k + 1) x0 x1 (x5 : Int) (i : Int) = _
    rw [spec_l3SameNodes.l1]
    rw [if_pos (by omega), if_pos (by omega), rd90_at _ _ h0, if_neg (by omega)]
   ·rw [List.drop_of_length_le (by omega), List.drop_of_length_le (by omega), iteB_pos rfl]
    exact hr
 | succ m ih =>
   intro i hi
   have ha : i < x0[x5].f1.length := by omega
   have hb : i < x1[x5].f1.length := by omega
   by_cases c : x0[x5].f1[i] = x1[x5].f1[i]
   ·refine Ev.step (f := fun k => spec_l3SameNodes.l1 k x0 x1 (x5 : Int) ((i + 1 : Nat) : Int)) (fun k => ?_) ?_
    ·show spec_l3SameNodes.l1 (k + 1) x0 x1 (x5 : Int) (i : Int) = _
     rw [spec_l3SameNodes.l1]
     rw [if_pos (by omega), if_pos (by omega), rd90_at _ _ h0, rd90_at _ _ h1, if_pos (by omega), if_pos (by omega), if_pos (by omega), if_pos (by omega), rdb_at _ _ ha, rdb_at _ _ hb, if_pos (by rw [c]), w64m _ (by omega)]
    ·have := ih (i + 1) (by omega)
     rw [drop_eq' ha hb, iteB_and c]
     exact this
   ·refine Ev.step (f := fun _ => some false) (fun k => ?_) ?_
    ·show spec_l3SameNodes.l1 (k + 1) x0 x1 (x5 : Int) (i : Int) = _
     rw [spec_l3SameNodes.l1]
     rw [if_pos (by omega), if_pos (by omega), rd90_at _ _ h0, rd90_at _ _ h1, if_pos (by omega), if_pos (by omega), if_pos (by omega), if_pos (by omega), rdb_at _ _ ha, rdb_at _ _ hb, if_neg (fun h => c (bs_inj h))]
    ·rw [iteB_neg (fun h => c ((drop_eq' ha hb).1 h).1)]
     exact Ev.now _
theorem node_eq {a b : S90} : a = b ↔ a.f0 = b.f0 ∧ a.f3 = b.f3 ∧ a.f1 = b.f1 ∧ a.f2 = b.f2 := by
 cases a
 cases b
 simp only [S90.mk.injEq]
 constructor
 ·rintro ⟨h1, h2, h3, h4⟩; exact ⟨h1, h4, h2, h3⟩
 ·rintro ⟨h1, h4, h2, h3⟩; exact ⟨h1, h2, h3, h4⟩
theorem same0_ev (hl : x0.length = x1.length) (hm : x0.length ≤ 9223372036854775807) (hs : ∀ x ∈ x0, x.f1.length ≤ 9223372036854775807 ∧ x.f2.length ≤ 9223372036854775807) :
   ∀ m i : Nat, i + m = x0.length → Ev (fun k => spec_l3SameNodes.l0 k x0 x1 (i : Int)) (iteB (x0.drop i = x1.drop i) true) := by
 intro m
 induction m with
 | zero =>
   intro i hi
   refine Ev.step (f := fun _ => some true) (fun k => ?_) ?_
   ·show spec_l3SameNodes.l0 (k + 1) x0 x1 (i : Int) = _
    rw [spec_l3SameNodes.l0]
    rw [if_neg (by omega)]
   ·rw [List.drop_of_length_le (by omega), List.drop_of_length_le (by omega), iteB_pos rfl]
    exact Ev.now _
 | succ m ih =>
   intro i hi
   have h0 : i < x0.length := by omega
   have h1 : i < x1.length := by omega
   have hx := hs _ (List.getElem_mem h0)
   have hnext : Ev (fun k => spec_l3SameNodes.l0 k x0 x1 (wrap64 ((i : Int) + 1))) (iteB (x0.drop (i + 1) = x1.drop (i + 1)) true) := by
    rw [w64m _ (by omega)]
    exact ih (i + 1) (by omega)
   have hT : Ev (fun k => spec_l3SameNodes.j1 k x0 x1 (i : Int) true) false := by
    refine Ev.step (f := fun _ => some false) (fun k => ?_) (Ev.now _)
    show spec_l3SameNodes.j1 (k + 1) x0 x1 (i : Int) true = _
    rw [spec_l3SameNodes.j1, if_pos rfl]
   have hne : ∀ {p : Prop}, ¬ p → (x0[i] = x1[i] → p) → iteB (x0.drop i = x1.drop i) true = false := fun hp hi => iteB_neg (fun h => hp (hi ((drop_eq' h0 h1).1 h).1))
   have e0 : ∀ k, spec_l3SameNodes.l0 (k + 1) x0 x1 (i : Int) = (if (x0[i].f0 != x1[i].f0) = true then spec_l3SameNodes.j1 k x0 x1 (i : Int) true else (if x0[i].f3 = x1[i].f3 then (if (x0[i].f1.length : Int) = (x1[i].f1.length : Int) then spec_l3SameNodes.j1 k x0 x1 (i : Int) ((x0[i].f2.length : Int) != (x1[i].f2.length : Int)) else spec_l3SameNodes.j1 k x0 x1 (i : Int) true) else spec_l3SameNodes.j1 k x0 x1 (i : Int) true)) := by
    intro k
    rw [spec_l3SameNodes.l0]
    rw [if_pos (by omega), if_pos (by omega), if_pos (by omega), rd90_at _ _ h0, rd90_at _ _ h1]
   by_cases c1 : x0[i].f0 = x1[i].f0
   case neg =>
    rw [hne c1 (fun h => by rw [h])]
    exact Ev.step (f := fun k => spec_l3SameNodes.j1 k x0 x1 (i : Int) true) (fun k => by show spec_l3SameNodes.l0 (k + 1) x0 x1 (i : Int) = _; rw [e0, if_pos (by simpa using c1)]) hT
   by_cases c2 : x0[i].f3 = x1[i].f3
   case neg =>
    rw [hne c2 (fun h => by rw [h])]
    exact Ev.step (f := fun k => spec_l3SameNodes.j1 k x0 x1 (i : Int) true) (fun k => by show spec_l3SameNodes.l0 (k + 1) x0 x1 (i : Int) = _; rw [e0, if_neg (by simpa using c1), if_neg c2]) hT
   by_cases c3 : x0[i].f1.length = x1[i].f1.length
   case neg =>
    rw [hne c3 (fun h => by rw [h])]
    exact Ev.step (f := fun k => spec_l3SameNodes.j1 k x0 x1 (i : Int) true) (fun k => by show spec_l3SameNodes.l0 (k + 1) x0 x1 (i : Int) = _; rw [e0, if_neg (by simpa using c1), if_pos c2, if_neg (by omega)]) hT
   by_cases c4 : x0[i].f2.length = x1[i].f2.length
   case neg =>
    rw [hne c4 (fun h => by rw [h])]
    refine Ev.step (f := fun k => spec_l3SameNodes.j1 k x0 x1 (i : Int) true) (fun k => ?_) hT
    show spec_l3SameNodes.l0 (k + 1) x0 x1 (i : Int) = _
    rw [e0, if_neg (by simpa using c1), if_pos c2, if_pos (by omega), show ((x0[i].f2.length : Int) != (x1[i].f2.length : Int)) = true by simp; omega]
   have h2 := same2_ev h0 h1 c4 hx.2 hnext x0[i].f2.length 0 (by omega)
   have h3 := same1_ev h0 h1 c3 hx.1 h2 x0[i].f1.length 0 (by omega)
   have hj : Ev (fun k => spec_l3SameNodes.j1 k x0 x1 (i : Int) false) (iteB (x0.drop i = x1.drop i) true) := by
    refine Ev.step (f := fun k => spec_l3SameNodes.l1 k x0 x1 (i : Int) 0) (fun k => ?_) ?_
    ·show spec_l3SameNodes.j1 (k + 1) x0 x1 (i : Int) false = _
     rw [spec_l3SameNodes.j1, if_neg (by decide)]
    ·have e : iteB (x0.drop i = x1.drop i) true = iteB (x0[i].f1.drop 0 = x1[i].f1.drop 0) (iteB (x0[i].f2.drop 0 = x1[i].f2.drop 0) (iteB (x0.drop (i + 1) = x1.drop (i + 1)) true)) := by
      simp only [List.drop_zero]
      by_cases d1 : x0[i].f1 = x1[i].f1
      ·by_cases d2 : x0[i].f2 = x1[i].f2
       ·rw [iteB_pos d1, iteB_pos d2, drop_eq' h0 h1, iteB_and (node_eq.2 ⟨c1, c2, d1, d2⟩)]
       ·rw [iteB_pos d1, iteB_neg d2, hne d2 (fun h => by rw [h])]
      ·rw [iteB_neg d1, hne d1 (fun h => by rw [h])]
     rw [e]
     exact h3
   refine Ev.step (f := fun k => spec_l3SameNodes.j1 k x0 x1 (i : Int) false) (fun k => ?_) hj
   show spec_l3SameNodes.l0 (k + 1) x0 x1 (i : Int) = _
   rw [e0, if_neg (by simpa using c1), if_pos c2, if_pos (by omega), show ((x0[i].f2.length : Int) != (x1[i].f2.length : Int)) = false by simp; omega]
theorem same_ev (hm : x0.length ≤ 9223372036854775807) (hs : ∀ x ∈ x0, x.f1.length ≤ 9223372036854775807 ∧ x.f2.length ≤ 9223372036854775807) : Ev (fun k => spec_l3SameNodes.f k x0 x1) (iteB (x0 = x1) true) := by
 unfold spec_l3SameNodes.f
 by_cases hl : x0.length = x1.length
 ·have := same0_ev hl hm hs x0.length 0 (by omega)
  simp only [List.drop_zero] at this
  exact Ev.congr (fun k => by rw [if_pos (by omega)]; rfl) this
 ·rw [iteB_neg (fun h => hl (by rw [h]))]
  exact Ev.congr (f := fun _ => some false) (fun k => by rw [if_neg (by omega)]) (Ev.now _)
end

/-! ### L_xtree: a text by hand -/
-- plain: a valid tree, and what both programs take it for
def ascK (ks : List ByteArray) : Prop := ∀ (j : Nat) (x : ByteArray), ks[j]? = some x → x.size ≤ 16 ∧ ∀ y, 0 < j → ks[j - 1]? = some y → Op.bytesLess y.toList x.toList = true
def okT (ns : List S90) (d : Nat) (t : S56) : Prop := goodD d true t ∧ flatD d t 0 = ns ∧ ns.length ≤ 5000 ∧ ascK (keysD d t)
theorem flatL_len {f : S56 → Int → List S90} (hf : ∀ t a b, (f t a).length = (f t b).length) : ∀ (ks : List S56) (a b : Int), (flatL f ks a).length = (flatL f ks b).length
 | [], _, _ => rfl
 | k :: ks, a, b => by
   simp only [flatL, List.length_append]
   rw [hf k a b, flatL_len hf ks]
theorem flatD_len : ∀ (d : Nat) (t : S56) (a b : Int), (flatD d t a).length = (flatD d t b).length
 | 0, _, _, _ => rfl
 | d + 1, t, a, b => by
   simp only [flatD, List.length_cons]
   rw [flatL_len (fun t a b => flatD_len d t a b) t.f2 (a + 1) (b + 1)]
/-- l3Nest comes out behind the nodes that it read. -/
theorem nest_len (ns : List S90) : ∀ (f : Nat) (i : Int) (d : Nat) (r : Bool), (nestD ns f i).2.2 = true → goodD d r (nestD ns f i).1 → (nestD ns f i).2.1 = i + ((flatD d (nestD ns f i).1 0).length : Nat)
 | 0, i, d, r, h, _ => by cases h
 | f + 1, i, d, r, h, hg => by
   unfold nestD at h hg ⊢
   by_cases c1 : 0 ≤ i ∧ i < (ns.length : Int)
   ·rw [if_pos c1] at h hg ⊢
    by_cases c2 : (rd_T90 ns i).f0 = true
    ·rw [if_pos c2] at h hg ⊢
     cases d with
     | zero => simp [flatD]
     | succ d => cases hg.1
    ·rw [if_neg c2] at h hg ⊢
     cases d with
     | zero =>
       have key : ∀ (ks : List Int) (b : Bool) (next : Int) (acc : List S56), (nestL (nestD ns f) b ks next acc).1.f0 = false := by
        intro ks
        induction ks with
        | nil => intros; rfl
        | cons k ks ih =>
          intro b next acc
          unfold nestL
          split
          ·split
           ·exact ih _ _ _
           ·rfl
          ·rfl
       have := hg.1
       rw [key] at this
       cases this
     | succ d =>
       have key : ∀ (ks : List Int) (b : Bool) (next : Int) (acc : List S56), (nestL (nestD ns f) b ks next acc).2.2 = true → (∀ x ∈ (nestL (nestD ns f) b ks next acc).1.f2, goodD d false x) → ∃ ys, (nestL (nestD ns f) b ks next acc).1.f2 = acc ++ ys ∧ (nestL (nestD ns f) b ks next acc).2.1 = next + ((flatL (flatD d) ys 0).length : Nat) := by
        intro ks
        induction ks with
        | nil => intro b next acc _ _; exact ⟨[], by simp [nestL], by simp [nestL, flatL]⟩
        | cons k ks ih =>
          intro b next acc h hk
          unfold nestL at h hk ⊢
          by_cases c3 : k = next
          ·rw [if_pos c3] at h hk ⊢
           by_cases c4 : (nestD ns f next).2.2 = true
           ·rw [if_pos c4] at h hk ⊢
            obtain ⟨ys, e1, e2⟩ := ih b _ _ h hk
            have hkid : goodD d false (nestD ns f next).1 := hk _ (by rw [e1]; simp)
            have h5 := nest_len ns f next d false c4 hkid
            refine ⟨(nestD ns f next).1 :: ys, by rw [e1]; simp, ?_⟩
            rw [e2, h5]
            simp only [flatL, List.length_append, Int.natCast_add]
            rw [flatL_len (fun t a b => flatD_len d t a b) ys (0 + ((flatD d (nestD ns f next).1 0).length : Nat)) 0]
            omega
           ·rw [if_neg c4] at h; cases h
          ·rw [if_neg c3] at h; cases h
       obtain ⟨ys, e1, e2⟩ := key _ _ _ _ h hg.2.2.2.2
       rw [e2]
       simp only [flatD, List.length_cons]
       rw [e1, List.nil_append, flatL_len (fun t a b => flatD_len d t a b) ys (0 + 1) 0]
       omega
   ·rw [if_neg c1] at h; cases h
theorem depth_le {d : Nat} {r : Bool} {t : S56} (h : goodD d r t) (hl : (flatD d t 0).length ≤ 5000) : d ≤ 12 := by
 have h1 := flatD_two 0 h
 rcases Nat.lt_or_ge 12 d with c | c
 ·have : 2 ^ 13 ≤ 2 ^ d := Nat.pow_le_pow_right (by decide) c
  omega
 ·exact c
theorem okT.depth {ns : List S90} {d : Nat} {t : S56} (h : okT ns d t) : d ≤ 12 := depth_le h.1 (by rw [h.2.1]; exact h.2.2.1)
theorem okT.seg {ns : List S90} {d : Nat} {t : S56} (h : okT ns d t) : Seg ns 0 (flatD d t ((0 : Nat) : Int)) := ⟨[], by rw [List.append_nil]; exact h.2.1.symm⟩
theorem okT.nest {ns : List S90} {d : Nat} {t : S56} (h : okT ns d t) : nestD ns 21 0 = (t, (ns.length : Int), true) := by
 have h1 := nestD_of ns d true t 0 21 h.1 (by have := h.depth; omega) h.seg
 have e : (flatD d t ((0 : Nat) : Int)).length = ns.length := by rw [← h.2.1]; rfl
 rw [e] at h1
 simpa using h1
theorem okT.read {ns : List S90} {d : Nat} {t : S56} (h : okT ns d t) : readD ns 31 true 0 = some (t, d, (ns.length : Int)) := by
 have h1 := readD_of ns d true t 0 31 h.1 (by have := h.depth; omega) h.seg
 have e : (flatD d t ((0 : Nat) : Int)).length = ns.length := by rw [← h.2.1]; rfl
 rw [e] at h1
 simpa using h1
theorem okT.uniq {ns : List S90} {d d' : Nat} {t t' : S56} (h : okT ns d t) (h' : okT ns d' t') : d = d' ∧ t = t' := by
 have := h.read
 rw [h'.read] at this
 simp only [Option.some.injEq, Prod.mk.injEq] at this
 exact ⟨this.2.1.symm, this.1.symm⟩
theorem okT.pos {ns : List S90} {d : Nat} {t : S56} (h : okT ns d t) : 1 ≤ ns.length := by
 rw [← h.2.1]
 exact flatD_pos d t 0
/-- .. and l3Of's own way to it. -/
theorem okT_of_nest {ns : List S90} {x : S56} (hn : nestD ns 21 0 = (x, (ns.length : Int), true)) (hd : 0 ≤ depM 21 true x) (hl : ns.length ≤ 5000) : goodD (depM 21 true x).toNat true x ∧ (depM 21 true x).toNat ≤ 12 := by
 have h1 : (nestD ns 21 0).2.2 = true := by rw [hn]
 have h2 := shape_nest ns 21 0 h1
 rw [hn] at h2
 have h3 := depM_good 21 true x h2 hd
 refine ⟨h3, depth_le h3 ?_⟩
 have h4 := nest_len ns 21 0 (depM 21 true x).toNat true h1 (by rw [hn]; exact h3)
 rw [hn] at h4
 simp only at h4
 omega
theorem flatD_small : ∀ {d : Nat} {r : Bool} {t : S56} (a : Int), goodD d r t → ∀ n ∈ flatD d t a, n.f1.length ≤ 4 ∧ n.f2.length ≤ 4
 | 0, r, t, a, h, n, hn => by
   simp only [flatD, List.mem_singleton] at hn
   subst hn
   exact ⟨h.2.2.1, by simp⟩
 | d + 1, r, t, a, h, n, hn => by
   obtain ⟨_, _, _, h4, hk⟩ := h
   simp only [flatD, List.mem_cons] at hn
   rcases hn with rfl | hn
   ·simp only [sepL, noL_length, List.length_map, List.length_drop]
    omega
   ·have key : ∀ (ks : List S56) (b : Int), (∀ k ∈ ks, goodD d false k) → n ∈ flatL (flatD d) ks b → n.f1.length ≤ 4 ∧ n.f2.length ≤ 4 := by
     intro ks
     induction ks with
     | nil => intro b _ h; simp [flatL] at h
     | cons k ks ih =>
       intro b hk h
       simp only [flatL, List.mem_append] at h
       rcases h with h | h
       ·exact flatD_small b (hk k List.mem_cons_self) n h
       ·exact ih _ (fun x hx => hk x (List.mem_cons_of_mem _ hx)) h
    exact key _ _ hk hn

/-! ### L_yev: a text by hand -/
-- plain: the law's own totals over trees
def cvN (x : S98) : S90 := ⟨x.f0, x.f1, x.f2, x.f3⟩
def cvT (l : List S98) : List S90 := l.map cvN
theorem cvT_len (l : List S98) : (cvT l).length = l.length := by simp [cvT]
theorem rd98_at (l : List S98) (i : Nat) (h : i < l.length) : rd_T98 l (i : Int) = l[i] := by
 unfold rd_T98
 simp [List.getD_eq_getElem?_getD, h]
theorem w64a (i : Nat) (h : i < maxLen) : wrap64 ((i : Int) + 1) = ((i + 1 : Nat) : Int) := by unfold maxLen at h; unfold wrap64; omega
theorem w64sub (a : Int) (n : Nat) (h0 : 0 ≤ a) (h1 : a ≤ 1048576) (h : n ≤ maxLen) : wrap64 (a - (n : Int)) = a - n := by unfold maxLen at h; unfold wrap64; omega
theorem szStr_loop (l : List ByteArray) (hL : l.length ≤ maxLen) (hF : ∀ x ∈ l, x.size ≤ maxLen) : ∀ (d i : Nat) (a : Int), i + d = l.length → 0 ≤ a → a ≤ 1048576 → ∃ r, Ev (fun k => laws_szStringS.l0 k l a (i : Int)) r ∧ r ≤ a
 | 0, i, a, hd, h0, h1 => ⟨a, Ev.step (f := fun _ => some a) (fun k => by show laws_szStringS.l0 (k + 1) l a (i : Int) = _; rw [laws_szStringS.l0, if_neg (by omega)]) (Ev.now _), by omega⟩
 | d + 1, i, a, hd, h0, h1 => by
   have hi : i < l.length := by omega
   have hx := hF _ (List.getElem_mem hi)
   have e := w64sub a _ h0 h1 hx
   by_cases c : a - ((l[i].size : Nat) : Int) < 0
   ·exact ⟨-1, Ev.step (f := fun _ => some (-1)) (fun k => by show laws_szStringS.l0 (k + 1) l a (i : Int) = _; rw [laws_szStringS.l0, if_pos (by omega), if_pos (by omega), rdb_at _ _ hi, e, if_pos c]) (Ev.now _), by omega⟩
   ·obtain ⟨r, he, hr⟩ := szStr_loop l hL hF d (i + 1) (a - (l[i].size : Nat)) (by omega) (by omega) (by omega)
    exact ⟨r, Ev.step (f := fun k => laws_szStringS.l0 k l (a - (l[i].size : Nat)) ((i + 1 : Nat) : Int)) (fun k => by show laws_szStringS.l0 (k + 1) l a (i : Int) = _; rw [laws_szStringS.l0, if_pos (by omega), if_pos (by omega), rdb_at _ _ hi, e, if_neg c, w64a i (by omega)]) he, by omega⟩
theorem szStr_ev (l : List ByteArray) (hL : l.length ≤ maxLen) (hF : ∀ x ∈ l, x.size ≤ maxLen) (a : Int) (h0 : 0 ≤ a) (h1 : a ≤ 1048576) : ∃ r, Ev (fun k => laws_szStringS.f k l a) r ∧ r ≤ a ∧ (0 ≤ r → l.length ≤ 1048576) := by
 have e := w64sub a _ h0 h1 hL
 by_cases c : a - ((l.length : Nat) : Int) < 0
 ·exact ⟨-1, Ev.congr (f := fun _ => some (-1)) (fun k => by unfold laws_szStringS.f; rw [e, if_pos c]) (Ev.now _), by omega, by omega⟩
 ·obtain ⟨r, he, hr⟩ := szStr_loop l hL hF l.length 0 (a - (l.length : Nat)) (by omega) (by omega) (by omega)
  exact ⟨r, Ev.congr (fun k => by unfold laws_szStringS.f; rw [e, if_neg c]; rfl) he, by omega, fun _ => by omega⟩
def okN (x : S98) : Prop := x.f1.length ≤ 1048576 ∧ x.f2.length ≤ 1048576
def wfN (x : S98) : Prop := x.f1.length ≤ maxLen ∧ (∀ s ∈ x.f1, s.size ≤ maxLen) ∧ x.f2.length ≤ maxLen
theorem szNode_ev (x : S98) (hw : wfN x) (a : Int) (h0 : 0 ≤ a) (h1 : a ≤ 1048576) : ∃ r, Ev (fun k => laws_szTNode.f k x.f0 x.f1 x.f2 x.f3 a) r ∧ r ≤ a ∧ (0 ≤ r → okN x) := by
 obtain ⟨r, he, hr, hl⟩ := szStr_ev x.f1 hw.1 hw.2.1 a h0 h1
 by_cases c : r < 0
 ·refine ⟨-1, ?_, by omega, by omega⟩
  unfold laws_szTNode.f
  exact Ev.bind he (Ev.congr (f := fun _ => some (-1)) (fun k => by rw [if_pos c]) (Ev.now _))
 ·have e := w64sub r _ (by omega) (by omega) hw.2.2
  by_cases c2 : r - ((x.f2.length : Nat) : Int) < 0
  ·refine ⟨-1, ?_, by omega, by omega⟩
   unfold laws_szTNode.f
   refine Ev.bind he (Ev.congr (f := fun _ => some (-1)) (fun k => ?_) (Ev.now _))
   rw [if_neg c, laws_szInt64S.f, e, if_pos c2]
   simp only [Option.bind_some]
   rw [if_pos (by decide)]
  ·refine ⟨r - (x.f2.length : Nat), ?_, by omega, fun _ => ⟨hl (by omega), by omega⟩⟩
   unfold laws_szTNode.f
   refine Ev.bind he (Ev.congr (f := fun _ => some (r - (x.f2.length : Nat))) (fun k => ?_) (Ev.now _))
   rw [if_neg c, laws_szInt64S.f, e, if_neg c2]
   simp only [Option.bind_some]
   rw [if_neg c2]
theorem szNodes_loop (l : List S98) (hL : l.length ≤ maxLen) (hF : ∀ x ∈ l, wfN x) : ∀ (d i : Nat) (a : Int), i + d = l.length → 0 ≤ a → a ≤ 1048576 → ∃ r, Ev (fun k => laws_szTNodeS.l0 k l a (i : Int)) r ∧ r ≤ a ∧ (0 ≤ r → ∀ j, i ≤ j → (h : j < l.length) → okN l[j])
 | 0, i, a, hd, h0, h1 => ⟨a, Ev.step (f := fun _ => some a) (fun k => by show laws_szTNodeS.l0 (k + 1) l a (i : Int) = _; rw [laws_szTNodeS.l0, if_neg (by omega)]) (Ev.now _), by omega, fun _ j hj h => by omega⟩
 | d + 1, i, a, hd, h0, h1 => by
   have hi : i < l.length := by omega
   obtain ⟨r, he, hr, hok⟩ := szNode_ev l[i] (hF _ (List.getElem_mem hi)) a h0 h1
   have e1 : ∀ k, laws_szTNodeS.l0 (k + 1) l a (i : Int) = (laws_szTNode.f k l[i].f0 l[i].f1 l[i].f2 l[i].f3 a).bind fun t120 => if t120 < 0 then some (-1) else laws_szTNodeS.l0 k l t120 ((i + 1 : Nat) : Int) := fun k => by
    rw [laws_szTNodeS.l0, if_pos (by omega), if_pos (by omega), rd98_at _ _ hi, w64a i (by omega)]
   by_cases c : r < 0
   ·exact ⟨-1, Ev.step e1 (Ev.bind he (Ev.congr (f := fun _ => some (-1)) (fun k => by rw [if_pos c]) (Ev.now _))), by omega, by omega⟩
   ·obtain ⟨r2, he2, hr2, hok2⟩ := szNodes_loop l hL hF d (i + 1) r (by omega) (by omega) (by omega)
    refine ⟨r2, Ev.step e1 (Ev.bind he (Ev.congr (fun k => by rw [if_neg c]) he2)), by omega, fun h j hj hlt => ?_⟩
    rcases Nat.lt_or_ge i j with h3 | h3
    ·exact hok2 h j h3 hlt
    ·have : j = i := by omega
     subst this
     exact hok (by omega)
theorem szTree_ev (l : List S98) (hL : l.length ≤ maxLen) (hF : ∀ x ∈ l, wfN x) : ∃ r, Ev (fun k => laws_szTree.f k l 1048576) r ∧ (0 ≤ r → l.length ≤ 1048576 ∧ ∀ x ∈ l, okN x) := by
 have e := w64sub 1048576 _ (by decide) (by decide) hL
 have hs : ∃ r, Ev (fun k => laws_szTNodeS.f k l 1048576) r ∧ (0 ≤ r → l.length ≤ 1048576 ∧ ∀ x ∈ l, okN x) := by
  by_cases c : 1048576 - ((l.length : Nat) : Int) < 0
  ·exact ⟨-1, Ev.congr (f := fun _ => some (-1)) (fun k => by unfold laws_szTNodeS.f; rw [e, if_pos c]) (Ev.now _), by omega⟩
  ·obtain ⟨r, he, hr, hok⟩ := szNodes_loop l hL hF l.length 0 (1048576 - (l.length : Nat)) (by omega) (by omega) (by omega)
   refine ⟨r, Ev.congr (fun k => by unfold laws_szTNodeS.f; rw [e, if_neg c]; rfl) he, fun h => ⟨by omega, fun x hx => ?_⟩⟩
   obtain ⟨j, hj, rfl⟩ := List.getElem_of_mem hx
   exact hok h j (Nat.zero_le _) hj
 obtain ⟨r, he, hok⟩ := hs
 by_cases c : r < 0
 ·exact ⟨-1, Ev.bind he (Ev.congr (f := fun _ => some (-1)) (fun k => by rw [if_pos c]) (Ev.now _)), by omega⟩
 ·exact ⟨r, Ev.bind he (Ev.congr (f := fun _ => some r) (fun k => by rw [if_neg c]) (Ev.now _)), hok⟩
theorem toStr_loop (l : List ByteArray) (hL : l.length ≤ 1048576) : ∀ (d i : Nat) (x : List ByteArray), i + d = l.length → x.length = l.length → (∀ j, j < i → x[j]? = l[j]?) → Ev (fun k => laws_toStringS.l0 k l x (i : Int)) l
 | 0, i, x, hd, hx, hj => by
   obtain rfl : x = l := List.ext_getElem? fun j => by
    by_cases h : j < i
    ·exact hj j h
    ·rw [List.getElem?_eq_none (by omega), List.getElem?_eq_none (by omega)]
   exact Ev.step (f := fun _ => some x) (fun k => by show laws_toStringS.l0 (k + 1) x x (i : Int) = _; rw [laws_toStringS.l0, if_neg (by omega)]) (Ev.now _)
 | d + 1, i, x, hd, hx, hj => by
   have hi : i < l.length := by omega
   refine Ev.step (f := fun k => laws_toStringS.l0 k l (x.set i l[i]) ((i + 1 : Nat) : Int)) (fun k => ?_) (toStr_loop l hL d (i + 1) (x.set i l[i]) (by omega) (by simpa using hx) fun j hlt => ?_)
   ·show laws_toStringS.l0 (k + 1) l x (i : Int) = _
    rw [laws_toStringS.l0, if_pos (by omega), if_pos (by omega), if_pos (by omega), rdb_at _ _ hi, Int.toNat_natCast, w64s i (by omega)]
   ·rcases Nat.lt_or_ge j i with h | h
    ·rw [List.getElem?_set_ne (by omega)]; exact hj j h
    ·obtain rfl : j = i := by omega
     rw [List.getElem?_set_self (by omega), List.getElem?_eq_getElem hi]
theorem toStr_ev (l : List ByteArray) (hL : l.length ≤ 1048576) : Ev (fun k => laws_toStringS.f k l) l := by
 refine Ev.congr (fun k => ?_) (toStr_loop l hL l.length 0 (List.replicate l.length (⟨#[]⟩ : ByteArray)) (by omega) (by simp) (fun j h => by omega))
 unfold laws_toStringS.f
 rw [if_pos (by omega), Int.toNat_natCast, if_pos (by omega)]
 rfl
theorem toInt_loop (l : List Int) (hL : l.length ≤ 1048576) : ∀ (d i : Nat) (x : List Int), i + d = l.length → x.length = l.length → (∀ j, j < i → x[j]? = l[j]?) → Ev (fun k => laws_toInt64S.l0 k l x (i : Int)) l
 | 0, i, x, hd, hx, hj => by
   obtain rfl : x = l := List.ext_getElem? fun j => by
    by_cases h : j < i
    ·exact hj j h
    ·rw [List.getElem?_eq_none (by omega), List.getElem?_eq_none (by omega)]
   exact Ev.step (f := fun _ => some x) (fun k => by show laws_toInt64S.l0 (k + 1) x x (i : Int) = _; rw [laws_toInt64S.l0, if_neg (by omega)]) (Ev.now _)
 | d + 1, i, x, hd, hx, hj => by
   have hi : i < l.length := by omega
   refine Ev.step (f := fun k => laws_toInt64S.l0 k l (x.set i l[i]) ((i + 1 : Nat) : Int)) (fun k => ?_) (toInt_loop l hL d (i + 1) (x.set i l[i]) (by omega) (by simpa using hx) fun j hlt => ?_)
   ·show laws_toInt64S.l0 (k + 1) l x (i : Int) = _
    rw [laws_toInt64S.l0, if_pos (by omega), if_pos (by omega), if_pos (by omega), rdi_at _ _ hi, Int.toNat_natCast, w64s i (by omega)]
   ·rcases Nat.lt_or_ge j i with h | h
    ·rw [List.getElem?_set_ne (by omega)]; exact hj j h
    ·obtain rfl : j = i := by omega
     rw [List.getElem?_set_self (by omega), List.getElem?_eq_getElem hi]
theorem toInt_ev (l : List Int) (hL : l.length ≤ 1048576) : Ev (fun k => laws_toInt64S.f k l) l := by
 refine Ev.congr (fun k => ?_) (toInt_loop l hL l.length 0 (List.replicate l.length 0) (by omega) (by simp) (fun j h => by omega))
 unfold laws_toInt64S.f
 rw [if_pos (by omega), Int.toNat_natCast, if_pos (by omega)]
 rfl
theorem toNode_ev (x : S98) (h : okN x) : Ev (fun k => laws_toTNode.f k x.f0 x.f1 x.f2 x.f3) (x.f0, x.f1, x.f2, x.f3) := by
 unfold laws_toTNode.f
 exact Ev.bind (toStr_ev x.f1 h.1) (Ev.bind (toInt_ev x.f2 h.2) (Ev.now _))
theorem toNodes_loop (l : List S98) (hL : l.length ≤ 1048576) (hok : ∀ x ∈ l, okN x) : ∀ (d i : Nat) (x : List S90), i + d = l.length → x.length = l.length → (∀ j, j < i → x[j]? = (cvT l)[j]?) → Ev (fun k => laws_toTNodeS.l0 k l x (i : Int)) (cvT l)
 | 0, i, x, hd, hx, hj => by
   obtain rfl : x = cvT l := List.ext_getElem? fun j => by
    by_cases h : j < i
    ·exact hj j h
    ·rw [List.getElem?_eq_none (by omega), List.getElem?_eq_none (by rw [cvT_len]; omega)]
   exact Ev.step (f := fun _ => some (cvT l)) (fun k => by show laws_toTNodeS.l0 (k + 1) l (cvT l) (i : Int) = _; rw [laws_toTNodeS.l0, if_neg (by omega)]) (Ev.now _)
 | d + 1, i, x, hd, hx, hj => by
   have hi : i < l.length := by omega
   refine Ev.step (f := fun k => (laws_toTNode.f k l[i].f0 l[i].f1 l[i].f2 l[i].f3).bind fun bt258 => laws_toTNodeS.l0 k l (x.set i ⟨bt258.1, bt258.2.1, bt258.2.2.1, bt258.2.2.2⟩) ((i + 1 : Nat) : Int)) (fun k => ?_) (Ev.bind (toNode_ev l[i] (hok _ (List.getElem_mem hi))) (toNodes_loop l hL hok d (i + 1) (x.set i (cvN l[i])) (by omega) (by simpa using hx) fun j hlt => ?_))
   ·show laws_toTNodeS.l0 (k + 1) l x (i : Int) = _
    rw [laws_toTNodeS.l0, if_pos (by omega), if_pos (by omega), rd98_at _ _ hi, Int.toNat_natCast, w64s i (by omega)]
    congr 1
    funext bt
    rw [if_pos (by omega)]
   ·rcases Nat.lt_or_ge j i with h | h
    ·rw [List.getElem?_set_ne (by omega)]; exact hj j h
    ·obtain rfl : j = i := by omega
     rw [List.getElem?_set_self (by omega)]
     simp [cvT, hi]
theorem toTree_ev (l : List S98) (hL : l.length ≤ 1048576) (hok : ∀ x ∈ l, okN x) : Ev (fun k => laws_toTree.f k l) (cvT l) := by
 refine Ev.bind (a := cvT l) (Ev.congr (fun k => ?_) (toNodes_loop l hL hok l.length 0 (List.replicate l.length z90) (by omega) (by simp) (fun j h => by omega))) (Ev.now _)
 unfold laws_toTNodeS.f
 rw [if_pos (by omega), Int.toNat_natCast, if_pos (by omega)]
 rfl
theorem eqStr_loop (l : List ByteArray) (hL : l.length ≤ 1048576) : ∀ (d i : Nat), i + d = l.length → Ev (fun k => laws_eqStringS.l0 k l l (i : Int)) true
 | 0, i, hd => Ev.step (f := fun _ => some true) (fun k => by show laws_eqStringS.l0 (k + 1) l l (i : Int) = _; rw [laws_eqStringS.l0, if_neg (by omega)]) (Ev.now _)
 | d + 1, i, hd => Ev.step (f := fun k => laws_eqStringS.l0 k l l ((i + 1 : Nat) : Int)) (fun k => by show laws_eqStringS.l0 (k + 1) l l (i : Int) = _; rw [laws_eqStringS.l0, if_pos (by omega), if_pos (by omega), if_pos (by omega), if_pos rfl, w64s i (by omega)]) (eqStr_loop l hL d (i + 1) (by omega))
theorem eqStr_ev (l : List ByteArray) (hL : l.length ≤ 1048576) : Ev (fun k => laws_eqStringS.f k l l) true := Ev.congr (fun k => by unfold laws_eqStringS.f; rw [if_pos rfl]; rfl) (eqStr_loop l hL l.length 0 (by omega))
theorem eqInt_loop (l : List Int) (hL : l.length ≤ 1048576) : ∀ (d i : Nat), i + d = l.length → Ev (fun k => laws_eqInt64S.l0 k l l (i : Int)) true
 | 0, i, hd => Ev.step (f := fun _ => some true) (fun k => by show laws_eqInt64S.l0 (k + 1) l l (i : Int) = _; rw [laws_eqInt64S.l0, if_neg (by omega)]) (Ev.now _)
 | d + 1, i, hd => Ev.step (f := fun k => laws_eqInt64S.l0 k l l ((i + 1 : Nat) : Int)) (fun k => by show laws_eqInt64S.l0 (k + 1) l l (i : Int) = _; rw [laws_eqInt64S.l0, if_pos (by omega), if_pos (by omega), if_pos (by omega), if_pos rfl, w64s i (by omega)]) (eqInt_loop l hL d (i + 1) (by omega))
theorem eqInt_ev (l : List Int) (hL : l.length ≤ 1048576) : Ev (fun k => laws_eqInt64S.f k l l) true := Ev.congr (fun k => by unfold laws_eqInt64S.f; rw [if_pos rfl]; rfl) (eqInt_loop l hL l.length 0 (by omega))
theorem eqNode_ev (x : S90) (h1 : x.f1.length ≤ 1048576) (h2 : x.f2.length ≤ 1048576) : Ev (fun k => laws_eqTNode.f k x.f0 x.f1 x.f2 x.f3 x.f0 x.f1 x.f2 x.f3) true := by
 unfold laws_eqTNode.f
 refine Ev.congr (fun k => by rw [if_neg (by simp)]) ?_
 refine Ev.bind (eqStr_ev x.f1 h1) (Ev.congr (fun k => by rw [if_pos rfl]) ?_)
 exact Ev.bind (eqInt_ev x.f2 h2) (Ev.congr (f := fun _ => some true) (fun k => by rw [if_pos rfl, if_pos rfl]) (Ev.now _))
theorem eqNodes_loop (l : List S90) (hL : l.length ≤ 1048576) (hok : ∀ x ∈ l, x.f1.length ≤ 1048576 ∧ x.f2.length ≤ 1048576) : ∀ (d i : Nat), i + d = l.length → Ev (fun k => laws_eqTNodeS.l0 k l l (i : Int)) true
 | 0, i, hd => Ev.step (f := fun _ => some true) (fun k => by show laws_eqTNodeS.l0 (k + 1) l l (i : Int) = _; rw [laws_eqTNodeS.l0, if_neg (by omega)]) (Ev.now _)
 | d + 1, i, hd => by
   have hi : i < l.length := by omega
   have hx := hok _ (List.getElem_mem hi)
   refine Ev.step (f := fun k => (laws_eqTNode.f k l[i].f0 l[i].f1 l[i].f2 l[i].f3 l[i].f0 l[i].f1 l[i].f2 l[i].f3).bind fun t111 => if t111 = true then laws_eqTNodeS.l0 k l l ((i + 1 : Nat) : Int) else some false) (fun k => ?_) (Ev.bind (eqNode_ev l[i] hx.1 hx.2) (Ev.congr (fun k => by rw [if_pos rfl]) (eqNodes_loop l hL hok d (i + 1) (by omega))))
   show laws_eqTNodeS.l0 (k + 1) l l (i : Int) = _
   rw [laws_eqTNodeS.l0, if_pos (by omega), if_pos (by omega), if_pos (by omega), rd90_at _ _ hi, w64s i (by omega)]
theorem eqTree_ev (l : List S90) (hL : l.length ≤ 1048576) (hok : ∀ x ∈ l, x.f1.length ≤ 1048576 ∧ x.f2.length ≤ 1048576) : Ev (fun k => laws_eqTree.f k l l) true := by
 unfold laws_eqTree.f
 exact Ev.bind (a := true) (Ev.congr (fun k => by unfold laws_eqTNodeS.f; rw [if_pos rfl]; rfl) (eqNodes_loop l hL hok l.length 0 (by omega))) (Ev.congr (f := fun _ => some true) (fun k => by rw [if_pos rfl]) (Ev.now _))

/-! ### L_zrank: a text by hand -/
-- plain: the rank of a key
theorem bless_eq : ∀ (x y : List UInt8), Op.bytesLess x y = decide (x < y)
 | [], [] => by simp [Op.bytesLess]
 | _ :: _, [] => by simp [Op.bytesLess]
 | [], _ :: _ => by simp [Op.bytesLess]
 | a :: x, b :: y => by
   rw [Op.bytesLess, bless_eq x y]
   simp only [List.cons_lt_cons_iff]
   by_cases h1 : a < b <;> by_cases h2 : a = b <;> by_cases h3 : x < y <;> simp [h1, h2, h3]
def lt (a b : ByteArray) : Bool := Op.bytesLess a.toList b.toList
theorem lt_iff {a b : ByteArray} : lt a b = true ↔ a.toList < b.toList := by unfold lt; rw [bless_eq]; simp
theorem lt_trans {a b c : ByteArray} (h : lt a b = true) (h2 : lt b c = true) : lt a c = true := by
 rw [lt_iff] at *
 exact List.lt_trans h h2
theorem lt_irrefl (a : ByteArray) : lt a a = false := by
 cases h : lt a a with
 | false => rfl
 | true => rw [lt_iff] at h; exact absurd h (List.lt_irrefl _)
def srt (ks : List ByteArray) : Prop := ks.Pairwise (fun a b => lt a b = true)
theorem ascK_tail {k : ByteArray} {ks : List ByteArray} (h : ascK (k :: ks)) : ascK ks := fun j x hx => by
 have := h (j + 1) x (by simpa using hx)
 exact ⟨this.1, fun y h0 hy => this.2 y (by omega) (by
  have e : j + 1 - 1 = (j - 1) + 1 := by omega
  rw [e]
  simpa using hy)⟩
theorem ascK_srt : ∀ {ks : List ByteArray}, ascK ks → srt ks
 | [], _ => List.Pairwise.nil
 | [k], _ => List.pairwise_singleton _ _
 | k :: k2 :: ks, h => by
   have h2 := ascK_srt (ascK_tail h)
   have h1 : lt k k2 = true := (h 1 k2 rfl).2 k (by omega) rfl
   refine List.Pairwise.cons (fun x hx => ?_) h2
   rcases List.mem_cons.1 hx with rfl | hx
   ·exact h1
   ·exact lt_trans h1 ((List.pairwise_cons.1 h2).1 x hx)
def cntLt (key : ByteArray) (ks : List ByteArray) : Nat := ks.countP (fun k => lt k key)
/-- The child that a key belongs to. -/
def leB (a b : ByteArray) : Bool := lt a b || decide (a = b)
def chI (d : Nat) (key : ByteArray) (ks : List S56) : Nat := ((ks.drop 1).takeWhile (fun k => leB (headK d k) key)).length
open Classical in
noncomputable def treeKeys (ns : List S90) : Option (List ByteArray) := if h : ∃ q : Nat × S56, okT ns q.1 q.2 then some (keysD (Classical.choose h).1 (Classical.choose h).2) else none
theorem treeKeys_of {ns : List S90} {d : Nat} {t : S56} (h : okT ns d t) : treeKeys ns = some (keysD d t) := by
 have hex : ∃ q : Nat × S56, okT ns q.1 q.2 := ⟨(d, t), h⟩
 unfold treeKeys
 rw [dif_pos hex]
 obtain ⟨e1, e2⟩ := (Classical.choose_spec hex).uniq h
 rw [e1, e2]
theorem treeKeys_none {ns : List S90} (h : ∀ d t, ¬ okT ns d t) : treeKeys ns = none := by
 unfold treeKeys
 rw [dif_neg (fun ⟨q, hq⟩ => h q.1 q.2 hq)]
noncomputable def rankM (ns : List S90) (key : ByteArray) : Int := match treeKeys ns with
 | none => 0
 | some ks => (cntLt key ks : Int)

/-! ### laws_markTNodeS: a text by hand -/
-- uses blk_cells3
def laws_markTNodeS.l0 : Nat → List (S90) → Int → Int → Option (Int × List (S90))
 | 0, _, _, _ => none
 | k + 1, x0, x1, x5 => if x5 < (x0.length : Int) then (if 0 ≤ x5 then ((laws_markStringS.f k (rd_T90 x0 x5).f1 (wrap64 (x1 + 1))).bind fun b => (laws_markInt64S.f k (rd_T90 x0 x5).f2 b.1).bind fun c => laws_markTNodeS.l0 k (x0.set (x5 : Int).toNat (⟨decide (Int.tmod x1 3 = 0), b.2, c.2, c.1⟩ : S90)) (wrap64 (c.1 + 1)) (wrap64 (x5 + 1))) else none) else some (x1, x0)
def laws_markTNodeS.f (k : Nat) (l0 : List (S90)) (a1 : Int) : Option (Int × List (S90)) := laws_markTNodeS.l0 k l0 a1 0
/-- Element i of an owned row of nodes, lent. -/
structure El (W : World) (base : Nat) (ok : Nat → Prop) (g n cap : Nat) (xs : List S90) (i : Int) (oki : Nat → Prop) (b0 : Bool) (v1 v2 : Value) (c3 : Int) (l1 : List ByteArray) (l2 : List Int) : Prop where
 h : Kd.H k90 90 W base ok (.slice (some ⟨g, 0, none⟩) n cap) xs i oki [.bool b0, v1, v2, .int .i64 c3]
 k : ∀ k, oki k → ok k ∧ k ≠ g
 g1 : Kd.R Kd.string 9 W base oki v1 l1
 g2 : Kd.R (Kd.int .i64) 2 W base oki v2 l2
section
variable {W W1 : World} {base g n cap : Nat} {ok oki : Nat → Prop} {xs : List S90} {i : Int} {b0 : Bool} {v1 v2 : Value} {c3 : Int} {l1 : List ByteArray} {l2 : List Int}
theorem El_open (h : Kd.S k90 90 W base ok (.slice (some ⟨g, 0, none⟩) n cap) xs) (h0 : 0 ≤ i) (h1 : i < n) : ∃ oki v1 v2, El W base ok g n cap xs i oki (rd_T90 xs i).f0 v1 v2 (rd_T90 xs i).f3 (rd_T90 xs i).f1 (rd_T90 xs i).f2 := by
 obtain ⟨oki, c, hcl, hM, hcc, _, hoki, hH⟩ := Kd.S_elem h z90 i h0 h1
 obtain ⟨v1, v2, rfl, g1, g2⟩ := k90_openM hM
 exact ⟨oki, v1, v2, hH, hoki, g1, g2⟩
theorem El.cells (h : El W base ok g n cap xs i oki b0 v1 v2 c3 l1 l2) (h0 : 0 ≤ i) (h1 : i < n) : W.cell? ⟨g, i.toNat * 4, none⟩ = some (.bool b0) ∧ W.cell? ⟨g, i.toNat * 4 + 1, none⟩ = some v1 ∧ W.cell? ⟨g, i.toNat * 4 + 2, none⟩ = some v2 ∧ W.cell? ⟨g, i.toNat * 4 + 3, none⟩ = some (.int .i64 c3) ∧ ∀ j, W.frozen? ⟨g, j, none⟩ = false := by
 obtain ⟨rows, hl, hraw, hcl, hco, hcc, _⟩ := Kd.H_raw h.h h0 h1
 have hn : (n : Nat) = rows.length := (Kd.R_reads' hraw).1
 obtain ⟨g', cap', e, _, _, cells, hb⟩ := Kd.R_form hraw (by omega)
 injection e with e1 e2 e3
 injection e1 with e1
 injection e1 with e1
 subst e1
 exact ⟨hcc 0 _ rfl, hcc 1 _ rfl, hcc 2 _ rfl, hcc 3 _ rfl, fun j => blk_frozen hb j⟩
theorem El.set0 (h : El W base ok g n cap xs i oki b0 v1 v2 c3 l1 l2) (h0 : 0 ≤ i) (h1 : i < n) (b : Bool) : El (W.setCell ⟨g, i.toNat * 4, none⟩ (.bool b)) base ok g n cap xs i oki b v1 v2 c3 l1 l2 ∧ W.grownBy (W.setCell ⟨g, i.toNat * 4, none⟩ (.bool b)) (some g) := by
 obtain ⟨h2, h3⟩ := Kd.H_seg h.h h0 h1 (seg := [.bool b]) (j := 0) (show 1 ≤ 4 by decide) (fun q hq => by simp at hq; subst hq; rfl)
 exact ⟨⟨h2, h.k, Kd.R_grown h.g1 h3 (fun k hk he => (h.k k hk).2 (by injection he)), Kd.R_grown h.g2 h3 (fun k hk he => (h.k k hk).2 (by injection he))⟩, h3⟩
theorem El.set3 (h : El W base ok g n cap xs i oki b0 v1 v2 c3 l1 l2) (h0 : 0 ≤ i) (h1 : i < n) (c : Int) : El (W.setCell ⟨g, i.toNat * 4 + 3, none⟩ (.int .i64 c)) base ok g n cap xs i oki b0 v1 v2 c l1 l2 ∧ W.grownBy (W.setCell ⟨g, i.toNat * 4 + 3, none⟩ (.int .i64 c)) (some g) := by
 obtain ⟨h2, h3⟩ := Kd.H_seg h.h h0 h1 (seg := [.int .i64 c]) (j := 3) (show 4 ≤ 4 by decide) (fun q hq => by simp at hq; subst hq; rfl)
 exact ⟨⟨h2, h.k, Kd.R_grown h.g1 h3 (fun k hk he => (h.k k hk).2 (by injection he)), Kd.R_grown h.g2 h3 (fun k hk he => (h.k k hk).2 (by injection he))⟩, h3⟩
theorem El.put1 (h : El W base ok g n cap xs i oki b0 v1 v2 c3 l1 l2) {l1' : List ByteArray} {ok' : Nat → Prop} (hR : Kd.R Kd.string 9 W1 base ok' v1 l1') (hk : Kept W W1 (fun k => some k = v1.ownBlock)) : El W1 base ok g n cap xs i oki b0 v1 v2 c3 l1' l2 :=
 ⟨Kd.H_step h.h (fun k _ hn hlt => hk.2 k hlt (fun he => hn (h.g1.1 k he.symm))), h.k, Kd.R_reok rfl hR (fun k hk => h.g1.1 k hk), Kd.R_drop (Kd.R_step (Kd.R_apartR h.g2 h.g1 (by decide)) (fun k hk' hlt => hk.2 k hlt hk'.2))⟩
theorem El.put2 (h : El W base ok g n cap xs i oki b0 v1 v2 c3 l1 l2) {l2' : List Int} {ok' : Nat → Prop} (hR : Kd.R (Kd.int .i64) 2 W1 base ok' v2 l2') (hk : Kept W W1 (fun k => some k = v2.ownBlock)) : El W1 base ok g n cap xs i oki b0 v1 v2 c3 l1 l2' :=
 ⟨Kd.H_step h.h (fun k _ hn hlt => hk.2 k hlt (fun he => hn (h.g2.1 k he.symm))), h.k, Kd.R_drop (Kd.R_step (Kd.R_apartR h.g1 h.g2 (by decide)) (fun k hk' hlt => hk.2 k hlt hk'.2)), Kd.R_reok rfl hR (fun k hk => h.g2.1 k hk)⟩
theorem El.close (h : El W base ok g n cap xs i oki b0 v1 v2 c3 l1 l2) : Kd.S k90 90 W base ok (.slice (some ⟨g, 0, none⟩) n cap) (xs.set i.toNat ⟨b0, l1, l2, c3⟩) :=
 Kd.H_back h.h (k90_mkM W base oki ⟨b0, l1, l2, c3⟩ h.g1 h.g2) (fun _ hk => hk)
end
set_option maxHeartbeats 8000000 in
set_option maxRecDepth 100000 in
theorem laws_markTNodeS.calls (k : Nat) (P0_ : Nat → Prop) (u9000_ : Value) (l0 : List (S90)) (a1 : Int) (r1 : Int) (r2 : List (S90)) (w0 w : World) (hB : Below w0.heap.size w0 w) (ho0 : Kd.S k90 90 w w0.heap.size P0_ u9000_ l0) (h : laws_markTNodeS.f k l0 a1 = some (r1, r2)) :
  Calls Try.prog 41 #[u9000_, .int .i64 a1] w fun e w' => e = .returned (.int .i64 r1) ∧ Kd.S k90 90 w' w0.heap.size (fun k_ => (P0_ k_ ∨ w.heap.size ≤ k_)) u9000_ r2 ∧ Below w0.heap.size w0 w' ∧ Kept w w' (fun k_ => P0_ k_) := by
 have HO0 := Aside0.mk (show Kd.S k90 90 w w0.heap.size (fun k_ => (P0_ k_ ∨ w.heap.size ≤ k_)) u9000_ l0 from Kd.S_mono ho0 (fun k_ hk => (.inl hk)))
 have HK := Aside0.mk (Kept.refl w (fun k_ => P0_ k_))
 have HB := Aside0.mk hB
 have H' := Aside0.mk (show laws_markTNodeS.l0 k l0 a1 0 = some (r1, r2) from h)
 clear h hB ho0
 go_enter Try.func41, Try.ntmps41
 go_wp2
 go_loopg [1, 5] k (fun kq v1 v5 w' => ∃ (x0_1 : List (S90)) (x1_1 : Int) (x5_1 : Int), v1 = .int .i64 x1_1 ∧ v5 = .int .i64 x5_1 ∧ Aside0 (laws_markTNodeS.l0 kq x0_1 x1_1 x5_1 = some (r1, r2)) ∧ Aside0 (kq ≤ k) ∧ Aside0 (Kd.S k90 90 w' w0.heap.size (fun k_ => (P0_ k_ ∨ w.heap.size ≤ k_)) u9000_ x0_1) ∧ Aside0 (Kept w w' (fun k_ => P0_ k_)) ∧ Aside0 (Below w0.heap.size w0 w'))
 case atStart => exact ⟨l0, a1, 0, rfl, rfl, H', ⟨Nat.le_refl _⟩, HO0, HK, HB⟩
 case round =>
  clear H' HO0 HK HB
  obtain ⟨xs, m, i, rfl, rfl, HA, HK1, HO, HK, HB⟩ := hrel
  cases gk with
  | zero => exact absurd HA.out (by simp [laws_markTNodeS.l0])
  | succ k1 =>
    have H := HA.out
    clear HA
    simp only [laws_markTNodeS.l0] at H
    obtain ⟨Ao, co, eo⟩ := Kd.S_slice HO.out
    subst eo
    by_cases c3 : i < (xs.length : Int)
    ·rw [if_pos c3] at H
     by_cases c4 : 0 ≤ i
     ·rw [if_pos c4] at H
      replace H := Option.bind_eq_some_iff.mp H
      obtain ⟨⟨b1, b2⟩, HM0, H⟩ := H
      replace H := Option.bind_eq_some_iff.mp H
      obtain ⟨⟨d1, d2⟩, HN0, H⟩ := H
      simp only at HN0 H
      have HM := Aside0.mk HM0
      have HN := Aside0.mk HN0
      have H' := Aside0.mk H
      clear H HM0 HN0
      obtain ⟨g, cap, eg, gb, gl, cells, hbl⟩ := Kd.S_form HO.out (by omega)
      injection eg with ea _ ec
      subst ea
      subst ec
      clear hbl cells
      obtain ⟨oki, v1, v2, hel⟩ := El_open HO.out c4 c3
      obtain ⟨x0, x1, x2, x3, fz⟩ := hel.cells c4 c3
      have f0 := fz (i.toNat * 4)
      have HG := Aside0.mk (And.intro gb (show P0_ g ∨ w.heap.size ≤ g from (Kd.S_R HO.out).1 _ rfl))
      obtain ⟨hel2, hgr⟩ := hel.set0 c4 c3 (decide (Int.tmod m 3 = 0))
      have HS0 := Aside0.mk (And.intro hel2 hgr)
      have HC := Aside0.mk (And.intro c4 c3)
      have c3b0 : decide (i < (xs.length : Int)) = true := decide_eq_true c3
      have p5 := eq_true c4
      have q5 := eq_true c3
      clear hel hel2 hgr fz gb gl c3 c4 x1 x2 x3
      go_wp2_with (first | ((with_reducible refine gate_store (t := 4) (p := 18) rfl ?_); refine store_event (t := 4) (p := 18) (v := ?vo_w8) (w1 := (wr.setCell ⟨g, (i : Int).toNat * 4, none⟩ (.bool (decide (Int.tmod m 3 = 0))))) ?hg ?ho ?hn ?hr ?_; (case ho => rfl); (case hg => rfl); (case hn => rfl); (case hr => first | (go_simp; done) | (go_simp; rfl)); intro w8 hw; have HE := Aside0.mk (hw ▸ HS0.out.1); have HB8 := Aside0.mk (show Below w0.heap.size w0 w8 by rw [hw]; exact below_set HB.out HG.out.1); have HK8 := Aside0.mk (show Kept w w8 (fun k_ => P0_ k_) by rw [hw]; exact Kept.of_grown HS0.out.2 HK.out (fun k_ e_ => by injection e_ with e_; subst e_; exact HG.out.2)); clear HS0 HB HK hw x0 f0; obtain ⟨x0, x1, x2, x3, fz⟩ := HE.out.cells HC.out.1 HC.out.2; clear x0 x2 x3 fz))
      refine (laws_markStringS.calls k1 (fun k_ => some k_ = v1.ownBlock) v1 _ _ b1 b2 w0 w8 HB8.out (Kd.R_tight rfl HE.out.g1) HM.out).mono ?_
      rintro e w9 ⟨rfl, hR, hB9, hK9⟩
      have HE9 := Aside0.mk (HE.out.put1 hR hK9)
      have HB9 := Aside0.mk hB9
      have HK9 := Aside0.mk (HK8.out.then_ hK9 (fun k_ e_ => (HE.out.k k_ (HE.out.g1.1 k_ e_.symm)).1))
      obtain ⟨x0, x1, x2, x3, fz⟩ := HE9.out.cells HC.out.1 HC.out.2
      clear hR hB9 hK9 HE HB8 HK8 x0 x1 x3 fz
      go_wp2_with fail
      refine (laws_markInt64S.calls k1 (fun k_ => some k_ = v2.ownBlock) v2 _ _ d1 d2 w0 w9 HB9.out (Kd.R_tight rfl HE9.out.g2) HN.out).mono ?_
      rintro e w10 ⟨rfl, hR, hB10, hK10⟩
      have HE10 := Aside0.mk (HE9.out.put2 hR hK10)
      have HB10 := Aside0.mk hB10
      have HK10 := Aside0.mk (HK9.out.then_ hK10 (fun k_ e_ => (HE9.out.k k_ (HE9.out.g2.1 k_ e_.symm)).1))
      obtain ⟨x0, x1, x2, x3, fz⟩ := HE10.out.cells HC.out.1 HC.out.2
      have f3 := fz (i.toNat * 4 + 3)
      obtain ⟨hs3, hg3⟩ := HE10.out.set3 HC.out.1 HC.out.2 d1
      have HO11 := Aside0.mk hs3.close
      have HB11 := Aside0.mk (below_set HB10.out HG.out.1 : Below w0.heap.size w0 (w10.setCell ⟨g, (i : Int).toNat * 4 + 3, none⟩ (.int .i64 d1)))
      have HK11 := Aside0.mk (Kept.of_grown (S := fun k_ => P0_ k_) hg3 HK10.out (fun k_ e_ => by injection e_ with e_; subst e_; exact HG.out.2))
      clear hR hB10 hK10 HE9 HB9 HK9 x0 x1 x2 fz hs3 hg3
      go_wp2_with fail
      go_roundg k1
      case measure => have := HK1.out; omega
      case rel => exact ⟨_, _, _, rfl, rfl, H', ⟨by have := HK1.out; omega⟩, by simpa using HO11, HK11, HB11⟩
     ·rw [if_neg c4] at H
      exact absurd H (by simp)
    ·rw [if_neg c3] at H
     have c3b0 : decide (i < (xs.length : Int)) = false := decide_eq_false c3
     clear c3
     simp only [Option.some.injEq, Prod.mk.injEq] at H
     obtain ⟨rfl, rfl⟩ := H
     go_wp2
     go_ret
     exact ⟨rfl, HO.out, HB.out, HK.out⟩
end Go.Proofs.Ytfjcfklgnlmjjaa.PB
