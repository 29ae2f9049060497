-- Made by this session's programs out of the translation and of its own texts.
import Derived.Test.YtfjcfklgnlmjjaaMFnExactTreeInsertc
namespace Go.Proofs.Ytfjcfklgnlmjjaa.PB
open Go.RowKit Go.Proofs.YtfjcfklgnlmjjaaW.PrintWords Go.Proofs.YtfjcfklgnlmjjaaW.PrintLast Go.Proofs.YtfjcfklgnlmjjaaW.PrintMore
attribute [local go_sem] max2_int min2_int max_two min_two max_three min_three max_four min_four   -- for this text's walks alone
set_option linter.unusedVariables false
set_option linter.unusedSimpArgs false

/-! ### spec_l3Split: function 74 -/
def spec_l3Split.f (a0_0 : Bool) (l0_1 : List ByteArray) (l0_2 : List (S56)) : Option ((List (S56))) := (spec_l3Size.f a0_0 l0_1 l0_2).bind fun t353 => (if t353 ≤ 4 then (some (([(⟨a0_0, l0_1, l0_2⟩ : S56)] : List (S56)))) else ((spec_l3Part.f a0_0 l0_1 l0_2 0 3).bind fun bt357 => ((spec_l3Part.f a0_0 l0_1 l0_2 3 5).bind fun bt364 => (some (([(⟨bt357.1, bt357.2.1, bt357.2.2⟩ : S56), (⟨bt364.1, bt364.2.1, bt364.2.2⟩ : S56)] : List (S56)))))))
set_option maxHeartbeats 8000000 in
set_option maxRecDepth 100000 in
theorem spec_l3Split.calls (a0_0 : Bool) (P0_1_ : Nat → Prop) (A0_1 : Option Addr) (c0_1 : Nat) (l0_1 : List ByteArray) (P0_2_ : Nat → Prop) (A0_2 : Option Addr) (c0_2 : Nat) (l0_2 : List (S56)) (r : List (S56)) (w : World) (hs0_1 : Kd.V Kd.string 9 w w.heap.size (fun k_ => P0_1_ k_) (.slice A0_1 l0_1.length c0_1) l0_1) (hs0_2 : Kd.V k56 56 w w.heap.size (fun k_ => P0_2_ k_) (.slice A0_2 l0_2.length c0_2) l0_2) (h : spec_l3Split.f a0_0 l0_1 l0_2 = some r) :
  Calls Try.prog 74 #[.agg #[.bool a0_0, .slice A0_1 l0_1.length c0_1, .slice A0_2 l0_2.length c0_2]] w fun e w' => ∃ v0_ : Value, e = .returned (v0_) ∧ Kd.N k56 56 w' w.heap.size (fun k_ => ((P0_1_ k_ ∨ P0_2_ k_) ∨ w.heap.size ≤ k_)) v0_ r ∧ Below w.heap.size w w' := by
 have hu56 := Try.underlying56
 have HO0_1 := zA (show Kd.V Kd.string 9 w w.heap.size (fun k_ => ((P0_1_ k_ ∨ P0_2_ k_) ∨ w.heap.size ≤ k_)) (.slice A0_1 l0_1.length c0_1) l0_1 from Kd.V_mono hs0_1 (fun k_ hk => .inl (.inl hk)))
 have HO0_2 := zA (show Kd.V k56 56 w w.heap.size (fun k_ => ((P0_1_ k_ ∨ P0_2_ k_) ∨ w.heap.size ≤ k_)) (.slice A0_2 l0_2.length c0_2) l0_2 from Kd.V_mono hs0_2 (fun k_ hk => .inl (.inr hk)))
 have HB := zA (zZ w.heap.size w)
 have H : ((spec_l3Size.f a0_0 l0_1 l0_2).bind fun t353 => (if t353 ≤ 4 then (some (([(⟨a0_0, l0_1, l0_2⟩ : S56)] : List (S56)))) else ((spec_l3Part.f a0_0 l0_1 l0_2 0 3).bind fun bt357 => ((spec_l3Part.f a0_0 l0_1 l0_2 3 5).bind fun bt364 => (some (([(⟨bt357.1, bt357.2.1, bt357.2.2⟩ : S56), (⟨bt364.1, bt364.2.1, bt364.2.2⟩ : S56)] : List (S56)))))))) = some r := h
 clear h
 replace H := Option.bind_eq_some_iff.mp H
 obtain ⟨t353, A20, H⟩ := H
 replace H : (if t353 ≤ 4 then (some (([(⟨a0_0, l0_1, l0_2⟩ : S56)] : List (S56)))) else ((spec_l3Part.f a0_0 l0_1 l0_2 0 3).bind fun bt357 => ((spec_l3Part.f a0_0 l0_1 l0_2 3 5).bind fun bt364 => (some (([(⟨bt357.1, bt357.2.1, bt357.2.2⟩ : S56), (⟨bt364.1, bt364.2.1, bt364.2.2⟩ : S56)] : List (S56))))))) = some r := H
 have A2 := zA A20
 clear A20
 by_cases c3 : t353 ≤ 4
 ·rw [if_pos c3] at H
  have c3b0 : decide (t353 ≤ 4) = true := zJ c3
  clear c3
  obtain ⟨y354, hy354⟩ : ∃ y_ : List (S56), y_ = (([(⟨a0_0, l0_1, l0_2⟩ : S56)] : List (S56))) := ⟨_, rfl⟩
  replace H : (some y354) = some r := wO hy354 H
  have Ny354 := zA hy354
  clear hy354
  obtain rfl := zL H
  go_enter Try.func74, Try.ntmps74
  go_wp2_with (first | ((with_reducible refine gate_dst (N := 1) rfl ?_); refine box_event ?hg (N := 1) ?hd (cs := #[.bool a0_0, .slice A0_1 l0_1.length c0_1, .slice A0_2 l0_2.length c0_2]) (t := 56) ?hr ?_; (case hd => rfl); (case hg => rfl); (case hr => first | (go_simp; done) | (go_simp; rfl)); intro gb352 hg w4 hbox hb; have n0_ := zA (Kd.V_below (Kd.V_elderB (wL HO0_1.out) gb352 (Nat.le_of_eq hg.symm)) hb); have n1_ := zA (Kd.V_below (Kd.V_elderB (wL HO0_2.out) gb352 (Nat.le_of_eq hg.symm)) hb); have n2_ := zA (zU wA hb); have n3_ := zA (hbox); have n4_ := zA ((by rw [hg]; exact (zV wA) : w.heap.size ≤ gb352)); have n5_ := zA ((by rw [hg]; exact (zV wA) : w.heap.size ≤ gb352)); clear HO0_1; clear HO0_2; clear HB; have HO0_1 := n0_; have HO0_2 := n1_; have HB := n2_; have BK352 := n3_; have GW352 := n4_; have GE352 := n5_; clear n0_ n1_ n2_ n3_ n4_ n5_; clear hb hbox hg; have hcz5_0 : w4.cell? ⟨gb352, 0, none⟩ = some (.bool a0_0) := (blk_cell BK352.out 0).trans rfl; have hcz5_1 : w4.cell? ⟨gb352, 1, none⟩ = some (.slice A0_1 l0_1.length c0_1) := (blk_cell BK352.out 1).trans rfl; have hcz5_2 : w4.cell? ⟨gb352, 2, none⟩ = some (.slice A0_2 l0_2.length c0_2) := (blk_cell BK352.out 2).trans rfl; have hfz5_0 := zG BK352.out 0; have hfz5_1 := zG BK352.out 1; have hfz5_2 := zG BK352.out 2) | ((with_reducible refine gate_callee (f := 82) rfl ?_); refine goesL_ (some 4) rfl rfl Try.func82 (by kernel_rfl) rfl #[.agg #[.bool a0_0, .slice A0_1 l0_1.length c0_1, .slice A0_2 l0_2.length c0_2]] rfl wH ?_; (with_reducible refine (spec_l3Size.calls a0_0 _ _ l0_1 _ _ l0_2 t353 _ ?side1 ?side2 ?side3 ?side4 A2.out).mono ?_); (case side1 => repeat (first | exact (Kd.V_reads' HO0_1.out).2.2 | (with_reducible refine zR ?_ _) | (with_reducible refine zS ?_ _) | (with_reducible refine zT ?_))); (case side2 => exact (Kd.V_reads' HO0_1.out).2.1); (case side3 => repeat (first | exact (Kd.V_reads' HO0_2.out).2.2 | (with_reducible refine zR ?_ _) | (with_reducible refine zS ?_ _) | (with_reducible refine zT ?_))); (case side4 => exact (Kd.V_reads' HO0_2.out).2.1); rintro e w6 ⟨rfl, hb⟩; refine ⟨_, rfl, ?_⟩; have n0_ := zA (Kd.V_below (wL HO0_1.out) hb); have n1_ := zA (Kd.V_below (wL HO0_2.out) hb); have n2_ := zA (zH (g := gb352) (o := .cells #[.bool a0_0, .slice A0_1 l0_1.length c0_1, .slice A0_2 l0_2.length c0_2] 56 (0, 0)) (wJ BK352.out) hb); have n3_ := zA (zU (wB GE352.out) hb); clear HO0_1; clear HO0_2; clear BK352; clear HB; have HO0_1 := n0_; have HO0_2 := n1_; have BK352 := n2_; have HB := n3_; clear n0_ n1_ n2_ n3_; (try clear hb); (try clear hb2); (try clear hk); (try clear hi); have hcz7_0 : w6.cell? ⟨gb352, 0, none⟩ = some (.bool a0_0) := (blk_cell BK352.out 0).trans rfl; have hcz7_1 : w6.cell? ⟨gb352, 1, none⟩ = some (.slice A0_1 l0_1.length c0_1) := (blk_cell BK352.out 1).trans rfl; have hcz7_2 : w6.cell? ⟨gb352, 2, none⟩ = some (.slice A0_2 l0_2.length c0_2) := (blk_cell BK352.out 2).trans rfl; have hfz7_0 := zG BK352.out 0; have hfz7_1 := zG BK352.out 1; have hfz7_2 := zG BK352.out 2) | ((with_reducible refine gate_dst (N := 7) rfl ?_); refine Kd.N_lit k56 _ 56 ?hg (N' := 7) ?hd (xs := ([(⟨a0_0, l0_1, l0_2⟩ : S56)] : List (S56))) (inner := [.bool a0_0, .slice A0_1 l0_1.length c0_1, .slice A0_2 l0_2.length c0_2]) (ok := (fun k_ => ((P0_1_ k_ ∨ P0_2_ k_) ∨ w.heap.size ≤ k_) ∧ k_ ≠ gb352)) (okp := (fun k_ => ((P0_1_ k_ ∨ P0_2_ k_) ∨ w.heap.size ≤ k_) ∧ k_ ≠ gb352)) ?hr ?hp (fun _ hk => hk) ((show ∀ k_, w6.heap.size ≤ k_ → (fun k_ => ((P0_1_ k_ ∨ P0_2_ k_) ∨ w.heap.size ≤ k_) ∧ k_ ≠ gb352) k_ from fun k_ hk => ⟨(.inr (yI (zV (wB GE352.out)) hk)), Kd.freshB (g := gb352) (o := .cells #[.bool a0_0, .slice A0_1 l0_1.length c0_1, .slice A0_2 l0_2.length c0_2] 56 (0, 0)) (wJ BK352.out) k_ hk⟩) _ (zY _)) (zZ _ _) (zY _) (by simp) ?_; (case hd => rfl); (case hg => rfl); (case hr => first | (go_simp; done) | (go_simp; rfl)); (case hp => exact (Reps.c3 (show Kd.FK k56 _ _ (⟨a0_0, l0_1, l0_2⟩ : S56) [.bool a0_0, .slice A0_1 l0_1.length c0_1, .slice A0_2 l0_2.length c0_2] from (k56_mkF _ _ (⟨a0_0, l0_1, l0_2⟩ : S56) (Kd.V_reads' (Kd.V_mono (ok' := (fun k_ => ((P0_1_ k_ ∨ P0_2_ k_) ∨ w.heap.size ≤ k_) ∧ k_ ≠ gb352)) (HO0_1.out) (fun k_ hk => ⟨hk.1, hk.2⟩))).2.1 (Kd.V_F (Kd.V_mono (ok' := (fun k_ => ((P0_1_ k_ ∨ P0_2_ k_) ∨ w.heap.size ≤ k_) ∧ k_ ≠ gb352)) (HO0_1.out) (fun k_ hk => ⟨hk.1, hk.2⟩))) (Kd.V_reads' (Kd.V_mono (ok' := (fun k_ => ((P0_1_ k_ ∨ P0_2_ k_) ∨ w.heap.size ≤ k_) ∧ k_ ≠ gb352)) (HO0_2.out) (fun k_ hk => ⟨hk.1, hk.2⟩))).2.1 (Kd.V_F (Kd.V_mono (ok' := (fun k_ => ((P0_1_ k_ ∨ P0_2_ k_) ∨ w.heap.size ≤ k_) ∧ k_ ≠ gb352)) (HO0_2.out) (fun k_ hk => ⟨hk.1, hk.2⟩))))) (Reps.none _ _))); intro v355 w8 ho9 hb hg_ hnew_; clear hg_ hnew_; (first | rw [← Ny354.out] at ho9 | (simp only [Int.reduceToNat] at ho9; rw [← Ny354.out] at ho9)); have n0_ := zA (Kd.V_elder' (wL HO0_1.out) (Kd.N_base ho9) hb); have n1_ := zA (Kd.V_elder' (wL HO0_2.out) (Kd.N_base ho9) hb); have n2_ := zA (Kd.N_lower ho9 (zV (wB GE352.out))); have n3_ := zA (zH (g := gb352) (o := .cells #[.bool a0_0, .slice A0_1 l0_1.length c0_1, .slice A0_2 l0_2.length c0_2] 56 (0, 0)) (wJ BK352.out) hb); have n4_ := zA (zU (wB GE352.out) hb); clear HO0_1; clear HO0_2; clear BK352; clear HB; have HO0_1 := n0_; have HO0_2 := n1_; have HO356 := n2_; have BK352 := n3_; have HB := n4_; clear n0_ n1_ n2_ n3_ n4_; clear hb ho9))
  go_ret
  exact ⟨_, wG, by (with_reducible repeat (first | apply Kd.N_alloc | apply Kd.N_drewN | apply Kd.N_drew)); exact yC HO356.out (fun _ hk => hk.1), wB GE352.out⟩
 ·rw [if_neg c3] at H
  have c3b0 : decide (t353 ≤ 4) = false := zK c3
  clear c3
  replace H := Option.bind_eq_some_iff.mp H
  obtain ⟨⟨t357, t358, t361⟩, A100, H⟩ := H
  replace H : ((spec_l3Part.f a0_0 l0_1 l0_2 3 5).bind fun bt364 => (some (([(⟨t357, t358, t361⟩ : S56), (⟨bt364.1, bt364.2.1, bt364.2.2⟩ : S56)] : List (S56))))) = some r := H
  have A10 := zA A100
  clear A100
  replace H := Option.bind_eq_some_iff.mp H
  obtain ⟨⟨t364, t365, t368⟩, A110, H⟩ := H
  replace H : (some (([(⟨t357, t358, t361⟩ : S56), (⟨t364, t365, t368⟩ : S56)] : List (S56)))) = some r := H
  have A11 := zA A110
  clear A110
  obtain ⟨y371, hy371⟩ : ∃ y_ : List (S56), y_ = (([(⟨t357, t358, t361⟩ : S56), (⟨t364, t365, t368⟩ : S56)] : List (S56))) := ⟨_, rfl⟩
  replace H : (some y371) = some r := wO hy371 H
  have Ny371 := zA hy371
  clear hy371
  obtain rfl := zL H
  go_enter Try.func74, Try.ntmps74
  try go_wp2_with (first | ((with_reducible refine gate_dst (N := 1) rfl ?_); refine box_event ?hg (N := 1) ?hd (cs := #[.bool a0_0, .slice A0_1 l0_1.length c0_1, .slice A0_2 l0_2.length c0_2]) (t := 56) ?hr ?_; (case hd => rfl); (case hg => rfl); (case hr => first | (go_simp; done) | (go_simp; rfl)); intro gb352 hg w12 hbox hb; have n0_ := zA (Kd.V_below (Kd.V_elderB (wL HO0_1.out) gb352 (Nat.le_of_eq hg.symm)) hb); have n1_ := zA (Kd.V_below (Kd.V_elderB (wL HO0_2.out) gb352 (Nat.le_of_eq hg.symm)) hb); have n2_ := zA (zU wA hb); have n3_ := zA (hbox); have n4_ := zA ((by rw [hg]; exact (zV wA) : w.heap.size ≤ gb352)); have n5_ := zA ((by rw [hg]; exact (zV wA) : w.heap.size ≤ gb352)); clear HO0_1; clear HO0_2; clear HB; have HO0_1 := n0_; have HO0_2 := n1_; have HB := n2_; have BK352 := n3_; have GW352 := n4_; have GE352 := n5_; clear n0_ n1_ n2_ n3_ n4_ n5_; clear hb hbox hg; have hcz13_0 : w12.cell? ⟨gb352, 0, none⟩ = some (.bool a0_0) := (blk_cell BK352.out 0).trans rfl; have hcz13_1 : w12.cell? ⟨gb352, 1, none⟩ = some (.slice A0_1 l0_1.length c0_1) := (blk_cell BK352.out 1).trans rfl; have hcz13_2 : w12.cell? ⟨gb352, 2, none⟩ = some (.slice A0_2 l0_2.length c0_2) := (blk_cell BK352.out 2).trans rfl; have hfz13_0 := zG BK352.out 0; have hfz13_1 := zG BK352.out 1; have hfz13_2 := zG BK352.out 2) | ((with_reducible refine gate_callee (f := 82) rfl ?_); refine goesL_ (some 4) rfl rfl Try.func82 (by kernel_rfl) rfl #[.agg #[.bool a0_0, .slice A0_1 l0_1.length c0_1, .slice A0_2 l0_2.length c0_2]] rfl wH ?_; (with_reducible refine (spec_l3Size.calls a0_0 _ _ l0_1 _ _ l0_2 t353 _ ?side1 ?side2 ?side3 ?side4 A2.out).mono ?_); (case side1 => repeat (first | exact (Kd.V_reads' HO0_1.out).2.2 | (with_reducible refine zR ?_ _) | (with_reducible refine zS ?_ _) | (with_reducible refine zT ?_))); (case side2 => exact (Kd.V_reads' HO0_1.out).2.1); (case side3 => repeat (first | exact (Kd.V_reads' HO0_2.out).2.2 | (with_reducible refine zR ?_ _) | (with_reducible refine zS ?_ _) | (with_reducible refine zT ?_))); (case side4 => exact (Kd.V_reads' HO0_2.out).2.1); rintro e w14 ⟨rfl, hb⟩; refine ⟨_, rfl, ?_⟩; have n0_ := zA (Kd.V_below (wL HO0_1.out) hb); have n1_ := zA (Kd.V_below (wL HO0_2.out) hb); have n2_ := zA (zH (g := gb352) (o := .cells #[.bool a0_0, .slice A0_1 l0_1.length c0_1, .slice A0_2 l0_2.length c0_2] 56 (0, 0)) (wJ BK352.out) hb); have n3_ := zA (zU (wB GE352.out) hb); clear HO0_1; clear HO0_2; clear BK352; clear HB; have HO0_1 := n0_; have HO0_2 := n1_; have BK352 := n2_; have HB := n3_; clear n0_ n1_ n2_ n3_; (try clear hb); (try clear hb2); (try clear hk); (try clear hi)))
  have n0_ := zA (Kd.V_drew HO0_1.out)
  have n1_ := zA (Kd.V_drew HO0_2.out)
  have n2_ := zA (zE BK352.out)
  have n3_ := zA (zC HB.out)
  clear HO0_1
  clear HO0_2
  clear BK352
  clear HB
  have HO0_1 := n0_
  have HO0_2 := n1_
  have BK352 := n2_
  have HB := n3_
  clear n0_ n1_ n2_ n3_
  refine start_ (n := 6) (S := fun w' => w'.cell? ⟨gb352, 0, none⟩ = some (.bool a0_0) ∧ w'.cell? ⟨gb352, 1, none⟩ = some (.slice A0_1 l0_1.length c0_1) ∧ w'.cell? ⟨gb352, 2, none⟩ = some (.slice A0_2 l0_2.length c0_2)) (ds := []) #[false, false, false, false, false, false] (by kernel_rfl) rfl rfl ⟨(blk_cell BK352.out 0).trans rfl, (blk_cell BK352.out 1).trans rfl, (blk_cell BK352.out 2).trans rfl⟩ (fun hHeld => ?_)
  generalize w14.drew = w15 at HO0_1 HO0_2 BK352 HB hHeld ⊢
  refine take_ (i := 0) (N := some 8) (v := ?_) (a' := ?_) #[true, false, false, false, false, false] rfl rfl (by kernel_rfl) (fun _ _ _ h => h) (Or.inl ⟨by rfl, ?_⟩) hHeld ?_ ?_
  rotate_left
  · rintro w' ⟨s0, s1, s2⟩
    go_simp
    with_reducible rfl
  rotate_left
  · simp only [Act.put, zN, zO, zP, i64_w, i32_w]
    rfl
  refine take_ (i := 2) (N := some 10) (v := ?_) (a' := ?_) #[true, false, true, false, false, false] rfl rfl (by kernel_rfl) (fun _ _ _ h => h) (Or.inl ⟨by rfl, ?_⟩) hHeld ?_ ?_
  rotate_left
  · rintro w' ⟨s0, s1, s2⟩
    go_simp
    with_reducible rfl
  rotate_left
  · simp only [Act.put, zN, zO, zP, i64_w, i32_w]
    rfl
  refine one_ (i := 1) (N := some 9) #[true, true, true, false, false, false] rfl rfl (by kernel_rfl) (by decide) (fun K hK => ?_)
  refine goes_ Try.func84 (by kernel_rfl) rfl #[.agg #[.bool a0_0, .slice A0_1 l0_1.length c0_1, .slice A0_2 l0_2.length c0_2], .int .i64 0, .int .i64 3] (by rfl) rfl rfl wH ?_
  with_reducible refine (spec_l3Part.calls a0_0 _ _ l0_1 (fun k_ => (((P0_1_ k_ ∨ P0_2_ k_) ∨ w.heap.size ≤ k_) ∧ k_ ≠ gb352)) _ _ l0_2 0 3 t357 t358 t361 _ ?side1 ?side2 ?side3 A10.out).mono ?_
  (case side1 => repeat (first | exact (Kd.V_reads' HO0_1.out).2.2 | (with_reducible refine zR ?_ _) | (with_reducible refine zS ?_ _) | (with_reducible refine zT ?_)))
  (case side2 => exact (Kd.V_reads' HO0_1.out).2.1)
  (case side3 => exact HO0_2.out)
  rintro e w16 ⟨v359, v362, rfl, ho0, ho1, hb⟩
  refine ⟨_, rfl, ?_⟩
  have n0_ := zA (Kd.V_mono (Kd.V_told (Kd.V_told (Kd.V_old (wL HO0_1.out) hb) (Kd.R_base ho0)) (Kd.N_base ho1)) (fun _ h_ => h_.1))
  have n1_ := zA (Kd.V_mono (Kd.V_told (Kd.V_told (Kd.V_old (wL HO0_2.out) hb) (Kd.R_base ho0)) (Kd.N_base ho1)) (fun _ h_ => h_.1))
  have n2_ := zA (Kd.R_lower (Kd.R_newM (M := fun k_ => (w.heap.size ≤ k_)) (yA (ok' := fun k_ => True) ho0 (fun _ hk_ => trivial)) (zV (wB GE352.out)) (fun k_ h_ => h_)) (zV (wB GE352.out)))
  have n3_ := zA (Kd.N_lower (yC (ok' := fun k_ => ((P0_1_ k_ ∨ P0_2_ k_) ∨ w.heap.size ≤ k_) ∧ some k_ ≠ (v359 : Value).ownBlock ∧ k_ ≠ gb352) ho1 (fun k_ hk_ => ⟨Or.elim hk_.1 (fun hs_ => hs_.1) (fun hn_ => (.inr (yI (zV (wB GE352.out)) hn_))), hk_.2, Or.elim hk_.1 (fun hs_ => hs_.2) (fun hn_ => (Kd.freshB (g := gb352) (o := .cells #[.bool a0_0, .slice A0_1 l0_1.length c0_1, .slice A0_2 l0_2.length c0_2] 56 (0, 0)) (wJ BK352.out) k_ hn_))⟩)) (zV (wB GE352.out)))
  have n4_ := zA (zH (g := gb352) (o := .cells #[.bool a0_0, .slice A0_1 l0_1.length c0_1, .slice A0_2 l0_2.length c0_2] 56 (0, 0)) (wJ BK352.out) hb)
  have n5_ := zA (zU (wB GE352.out) hb)
  clear HO0_1
  clear HO0_2
  clear BK352
  clear HB
  have HO0_1 := n0_
  have HO0_2 := n1_
  have HO360 := n2_
  have HO363 := n3_
  have BK352 := n4_
  have HB := n5_
  clear n0_ n1_ n2_ n3_ n4_ n5_
  (try clear hb)
  (try clear hb2)
  (try clear hk)
  (try clear hi)
  (try clear ho0)
  (try clear ho1)
  refine hK.out _ _ ⟨(blk_cell BK352.out 0).trans rfl, (blk_cell BK352.out 1).trans rfl, (blk_cell BK352.out 2).trans rfl⟩ (fun hHeld => ?_)
  clear hK K
  refine norm_ (a' := ?_) ?_ ?_
  rotate_left
  · show Act.put _ (some 9) _ = _
    simp only [Act.put, zN, zO, zP, i64_w, i32_w]
    rfl
  refine one_ (i := 3) (N := some 11) #[true, true, true, true, false, false] rfl rfl (by kernel_rfl) (by decide) (fun K hK => ?_)
  refine goes_ Try.func84 (by kernel_rfl) rfl #[.agg #[.bool a0_0, .slice A0_1 l0_1.length c0_1, .slice A0_2 l0_2.length c0_2], .int .i64 3, .int .i64 5] (by rfl) rfl rfl wH ?_
  with_reducible refine (spec_l3Part.calls a0_0 _ _ l0_1 (fun k_ => (((((P0_1_ k_ ∨ P0_2_ k_) ∨ w.heap.size ≤ k_) ∧ k_ ≠ gb352) ∧ some k_ ≠ (v359 : Value).ownBlock) ∧ some k_ ≠ (v362 : Value).ownBlock)) _ _ l0_2 3 5 t364 t365 t368 _ ?side1 ?side2 ?side3 A11.out).mono ?_
  (case side1 => repeat (first | exact (Kd.V_reads' HO0_1.out).2.2 | (with_reducible refine zR ?_ _) | (with_reducible refine zS ?_ _) | (with_reducible refine zT ?_)))
  (case side2 => exact (Kd.V_reads' HO0_1.out).2.1)
  (case side3 => exact HO0_2.out)
  rintro e w17 ⟨v366, v369, rfl, ho0, ho1, hb⟩
  refine ⟨_, rfl, ?_⟩
  have n0_ := zA (Kd.V_mono (Kd.V_told (Kd.V_told (Kd.V_old (wL HO0_1.out) hb) (Kd.R_base ho0)) (Kd.N_base ho1)) (fun _ h_ => h_.1))
  have n1_ := zA (Kd.V_mono (Kd.V_told (Kd.V_told (Kd.V_old (wL HO0_2.out) hb) (Kd.R_base ho0)) (Kd.N_base ho1)) (fun _ h_ => h_.1))
  have n2_ := zA (Kd.R_elder' (wK HO360.out) (Kd.R_base ho0) hb)
  have n3_ := zA (yC (Kd.N_told (Kd.N_told (Kd.N_old (wN HO363.out) hb) (Kd.R_base ho0)) (Kd.N_base ho1)) (fun _ h_ => h_.1))
  have n4_ := zA (Kd.R_lower (Kd.R_new' (Kd.R_newM (M := fun k_ => (w.heap.size ≤ k_)) (yA (ok' := fun k_ => True) ho0 (fun _ hk_ => trivial)) (zV (wB GE352.out)) (fun k_ h_ => h_)) (Kd.R_lt (wK HO360.out))) (zV (wB GE352.out)))
  have n5_ := zA (Kd.N_lower (yC (ok' := fun k_ => ((P0_1_ k_ ∨ P0_2_ k_) ∨ w.heap.size ≤ k_) ∧ some k_ ≠ (v366 : Value).ownBlock ∧ some k_ ≠ (v359 : Value).ownBlock ∧ some k_ ≠ (v362 : Value).ownBlock ∧ k_ ≠ gb352) ho1 (fun k_ hk_ => ⟨Or.elim hk_.1 (fun hs_ => hs_.1.1.1) (fun hn_ => (.inr (yI (zV (wB GE352.out)) hn_))), hk_.2, Or.elim hk_.1 (fun hs_ => hs_.1.2) (fun hn_ => (Kd.fresh' (Kd.R_lt (wK HO360.out)) k_ hn_)), Or.elim hk_.1 (fun hs_ => hs_.2) (fun hn_ => (Kd.fresh' (Kd.N_lt (wN HO363.out)) k_ hn_)), Or.elim hk_.1 (fun hs_ => hs_.1.1.2) (fun hn_ => (Kd.freshB (g := gb352) (o := .cells #[.bool a0_0, .slice A0_1 l0_1.length c0_1, .slice A0_2 l0_2.length c0_2] 56 (0, 0)) (wJ BK352.out) k_ hn_))⟩)) (zV (wB GE352.out)))
  have n6_ := zA (zH (g := gb352) (o := .cells #[.bool a0_0, .slice A0_1 l0_1.length c0_1, .slice A0_2 l0_2.length c0_2] 56 (0, 0)) (wJ BK352.out) hb)
  have n7_ := zA (zU (wB GE352.out) hb)
  clear HO0_1
  clear HO0_2
  clear HO360
  clear HO363
  clear BK352
  clear HB
  have HO0_1 := n0_
  have HO0_2 := n1_
  have HO360 := n2_
  have HO363 := n3_
  have HO367 := n4_
  have HO370 := n5_
  have BK352 := n6_
  have HB := n7_
  clear n0_ n1_ n2_ n3_ n4_ n5_ n6_ n7_
  (try clear hb)
  (try clear hb2)
  (try clear hk)
  (try clear hi)
  (try clear ho0)
  (try clear ho1)
  obtain ⟨Ao18, co18, eo18⟩ := Kd.R_slice HO360.out
  (first | subst eo18 | (injection eo18 with f1_ f2_ f3_; have f4_ := f1_.symm; have f5_ := f3_.symm; clear f1_ f2_ f3_; subst f4_; subst f5_))
  obtain ⟨Ao19, co19, eo19⟩ := Kd.N_slice HO363.out
  (first | subst eo19 | (injection eo19 with f1_ f2_ f3_; have f4_ := f1_.symm; have f5_ := f3_.symm; clear f1_ f2_ f3_; subst f4_; subst f5_))
  obtain ⟨Ao20, co20, eo20⟩ := Kd.R_slice HO367.out
  (first | subst eo20 | (injection eo20 with f1_ f2_ f3_; have f4_ := f1_.symm; have f5_ := f3_.symm; clear f1_ f2_ f3_; subst f4_; subst f5_))
  obtain ⟨Ao21, co21, eo21⟩ := Kd.N_slice HO370.out
  (first | subst eo21 | (injection eo21 with f1_ f2_ f3_; have f4_ := f1_.symm; have f5_ := f3_.symm; clear f1_ f2_ f3_; subst f4_; subst f5_))
  refine hK.out _ _ ⟨(blk_cell BK352.out 0).trans rfl, (blk_cell BK352.out 1).trans rfl, (blk_cell BK352.out 2).trans rfl⟩ (fun hHeld => ?_)
  clear hK K
  refine norm_ (a' := ?_) ?_ ?_
  rotate_left
  · show Act.put _ (some 11) _ = _
    simp only [Act.put, zN, zO, zP, i64_w, i32_w]
    rfl
  refine one_ (i := 4) (N := some 12) #[true, true, true, true, true, false] rfl rfl (by kernel_rfl) (by decide) (fun K hK => ?_)
  refine Kd.N_lit_step k56 _ 56 ?hg (N' := 12) ?hd (xs := ([(⟨t357, t358, t361⟩ : S56), (⟨t364, t365, t368⟩ : S56)] : List (S56))) (inner := [.bool t357, .slice Ao18 t358.length co18, .slice Ao19 t361.length co19, .bool t364, .slice Ao20 t365.length co20, .slice Ao21 t368.length co21]) (ok := (fun k_ => ((P0_1_ k_ ∨ P0_2_ k_) ∨ w.heap.size ≤ k_) ∧ k_ ≠ gb352)) (okp := (fun k_ => ((P0_1_ k_ ∨ P0_2_ k_) ∨ w.heap.size ≤ k_) ∧ k_ ≠ gb352)) ?hr ?hp (fun _ hk => hk) ((show ∀ k_, w17.heap.size ≤ k_ → (fun k_ => ((P0_1_ k_ ∨ P0_2_ k_) ∨ w.heap.size ≤ k_) ∧ k_ ≠ gb352) k_ from fun k_ hk => ⟨(.inr (yI (zV (wB GE352.out)) hk)), Kd.freshB (g := gb352) (o := .cells #[.bool a0_0, .slice A0_1 l0_1.length c0_1, .slice A0_2 l0_2.length c0_2] 56 (0, 0)) (wJ BK352.out) k_ hk⟩) _ (zY _)) (zZ _ _) (zY _) (by simp) ?_; (case hd => rfl); (case hg => rfl); (case hr => first | (go_simp; done) | (go_simp; rfl)); (case hp => exact (Reps.c3 (show Kd.FK k56 _ _ (⟨t357, t358, t361⟩ : S56) [.bool t357, .slice Ao18 t358.length co18, .slice Ao19 t361.length co19] from (k56_mkF _ _ (⟨t357, t358, t361⟩ : S56) (Kd.R_reads' (yA (ok' := (fun k_ => ((P0_1_ k_ ∨ P0_2_ k_) ∨ w.heap.size ≤ k_) ∧ k_ ≠ gb352)) (Kd.R_types (HO360.out) BK352.out (by decide)) (fun k_ hk => ⟨(.inr (hk.1.1.1)), hk.2⟩))).2.1 (Kd.R_F (yA (ok' := (fun k_ => ((P0_1_ k_ ∨ P0_2_ k_) ∨ w.heap.size ≤ k_) ∧ k_ ≠ gb352)) (Kd.R_types (HO360.out) BK352.out (by decide)) (fun k_ hk => ⟨(.inr (hk.1.1.1)), hk.2⟩))) (Kd.N_reads' (yC (ok' := (fun k_ => ((P0_1_ k_ ∨ P0_2_ k_) ∨ w.heap.size ≤ k_) ∧ k_ ≠ gb352)) (HO363.out) (fun k_ hk => ⟨hk.1.1.1, hk.1.1.2.2⟩))).2.1 (Kd.N_F (yC (ok' := (fun k_ => ((P0_1_ k_ ∨ P0_2_ k_) ∨ w.heap.size ≤ k_) ∧ k_ ≠ gb352)) (HO363.out) (fun k_ hk => ⟨hk.1.1.1, hk.1.1.2.2⟩))))) (Reps.c3 (show Kd.FK k56 _ _ (⟨t364, t365, t368⟩ : S56) [.bool t364, .slice Ao20 t365.length co20, .slice Ao21 t368.length co21] from (k56_mkF _ _ (⟨t364, t365, t368⟩ : S56) (Kd.R_reads' (yA (ok' := (fun k_ => ((P0_1_ k_ ∨ P0_2_ k_) ∨ w.heap.size ≤ k_) ∧ k_ ≠ gb352)) (Kd.R_types (HO367.out) BK352.out (by decide)) (fun k_ hk => ⟨(.inr (hk.1.1.1)), hk.2⟩))).2.1 (Kd.R_F (yA (ok' := (fun k_ => ((P0_1_ k_ ∨ P0_2_ k_) ∨ w.heap.size ≤ k_) ∧ k_ ≠ gb352)) (Kd.R_types (HO367.out) BK352.out (by decide)) (fun k_ hk => ⟨(.inr (hk.1.1.1)), hk.2⟩))) (Kd.N_reads' (yC (ok' := (fun k_ => ((P0_1_ k_ ∨ P0_2_ k_) ∨ w.heap.size ≤ k_) ∧ k_ ≠ gb352)) (HO370.out) (fun k_ hk => ⟨hk.1, hk.2.2.2.2⟩))).2.1 (Kd.N_F (yC (ok' := (fun k_ => ((P0_1_ k_ ∨ P0_2_ k_) ∨ w.heap.size ≤ k_) ∧ k_ ≠ gb352)) (HO370.out) (fun k_ hk => ⟨hk.1, hk.2.2.2.2⟩))))) (Reps.none _ _))))
  intro v372 w22 ho23 hb hg_ hnew_
  clear hg_ hnew_
  (first | rw [← Ny371.out] at ho23 | (simp only [Int.reduceToNat] at ho23; rw [← Ny371.out] at ho23))
  have n0_ := zA (Kd.V_elder' (wL HO0_1.out) (Kd.N_base ho23) hb)
  have n1_ := zA (Kd.V_elder' (wL HO0_2.out) (Kd.N_base ho23) hb)
  have n2_ := zA (Kd.N_lower ho23 (zV (wB GE352.out)))
  have n3_ := zA (zH (g := gb352) (o := .cells #[.bool a0_0, .slice A0_1 l0_1.length c0_1, .slice A0_2 l0_2.length c0_2] 56 (0, 0)) (wJ BK352.out) hb)
  have n4_ := zA (zU (wB GE352.out) hb)
  clear HO0_1
  clear HO0_2
  clear BK352
  clear HB
  clear HO360
  clear HO363
  clear HO367
  clear HO370
  have HO0_1 := n0_
  have HO0_2 := n1_
  have HO373 := n2_
  have BK352 := n3_
  have HB := n4_
  clear n0_ n1_ n2_ n3_ n4_
  clear hb ho23
  refine hK.out _ _ ⟨(blk_cell BK352.out 0).trans rfl, (blk_cell BK352.out 1).trans rfl, (blk_cell BK352.out 2).trans rfl⟩ (fun hHeld => ?_)
  clear hK K
  refine norm_ (a' := ?_) ?_ ?_
  rotate_left
  · show Act.put _ (some 12) _ = _
    simp only [Act.put, zN, zO, zP, i64_w, i32_w]
    rfl
  refine pure_ (i := 5) (N := some 2) (v := ?_) (a' := ?_) #[true, true, true, true, true, true] rfl rfl (by kernel_rfl) (fun _ _ _ h => h) (Or.inl ⟨by rfl, ?_⟩) ?_ ?_
  rotate_left
  · intro w'
    go_simp
    with_reducible rfl
  rotate_left
  · simp only [Act.put, zN, zO, zP, i64_w, i32_w]
    rfl
  refine done_ (by kernel_rfl) ?_
  try go_wp2
  go_ret
  exact ⟨_, wG, by (with_reducible repeat (first | apply Kd.N_alloc | apply Kd.N_drewN | apply Kd.N_drew)); exact yC HO373.out (fun _ hk => hk.1), wB GE352.out⟩

-- import Derived.WalkLawsBesides
theorem spec_l3Child.bl : ∀ (x y : List UInt8), Op.bytesLess x y = decide (x < y)
 | [], [] => by simp [Op.bytesLess]
 | _ :: _, [] => by simp [Op.bytesLess]
 | [], _ :: _ => by simp [Op.bytesLess]
 | a :: x, b :: y => by
   rw [Op.bytesLess, spec_l3Child.bl x y]
   simp only [List.cons_lt_cons_iff]
   by_cases h1 : a < b <;> by_cases h2 : a = b <;> by_cases h3 : x < y <;> simp [h1, h2, h3]
theorem spec_l3Child.bt {x y : List UInt8} (h : Op.bytesLess x y = true) : (Op.bytesLess y x || (y == x)) = false := by
 rw [spec_l3Child.bl] at h ⊢
 have h1 : x < y := by simpa using h
 have h2 : ¬ y < x := fun h2 => List.lt_irrefl _ (List.lt_trans h1 h2)
 have h3 : y ≠ x := fun e => by subst e; exact List.lt_irrefl _ h1
 simp [h2, h3]
theorem spec_l3Child.bf {x y : List UInt8} (h : Op.bytesLess x y = false) : (Op.bytesLess y x || (y == x)) = true := by
 rw [spec_l3Child.bl] at h ⊢
 have h1 : ¬ x < y := by simpa using h
 rcases List.le_iff_lt_or_eq.1 (List.not_lt.1 h1) with h2 | h2
 ·simp [h2]
 ·simp [h2]
/-! ### spec_l3Child: function 75 -/
def spec_l3Child.l0 : Nat → ByteArray → Int → Int → Bool → List ByteArray → List (S56) → Option (Int)
 | 0, _, _, _, _, _, _ => none
 | k + 1, x1, x5, x6, x375000, x375001, x375002 => if x6 < (x375002.length : Int) then (if 0 ≤ x6 then ((spec_l3Keys.f k ((rd_T56 x375002 x6).f0) ((rd_T56 x375002 x6).f1) ((rd_T56 x375002 x6).f2)).bind fun t376 => (if 0 < (t376.length : Int) then (if ((Op.bytesLess x1.toList ((rdOf ByteArray.empty t376 0).toList)) = true) then (spec_l3Child.l0 k x1 x5 (wrap64 (x6 + 1)) x375000 x375001 x375002) else (spec_l3Child.l0 k x1 x6 (wrap64 (x6 + 1)) x375000 x375001 x375002)) else (none))) else (none)) else (some x5)
def spec_l3Child.f (k : Nat) (a0_0 : Bool) (l0_1 : List ByteArray) (l0_2 : List (S56)) (a1 : ByteArray) : Option (Int) := spec_l3Child.l0 k a1 0 1 a0_0 l0_1 l0_2
set_option maxHeartbeats 8000000 in
set_option maxRecDepth 100000 in
theorem spec_l3Child.calls (k : Nat) (a0_0 : Bool) (A0_1 : Option Addr) (c0_1 : Nat) (l0_1 : List ByteArray) (A0_2 : Option Addr) (c0_2 : Nat) (l0_2 : List (S56)) (a1 : ByteArray) (r : Int) (w : World) (hr0_1 : Kd.C Kd.string w A0_1 l0_1.length l0_1) (hc0_1 : l0_1.length ≤ c0_1) (hr0_2 : Kd.C k56 w A0_2 l0_2.length l0_2) (hc0_2 : l0_2.length ≤ c0_2) (h : spec_l3Child.f k a0_0 l0_1 l0_2 a1 = some r) :
  Calls Try.prog 75 #[.agg #[.bool a0_0, .slice A0_1 l0_1.length c0_1, .slice A0_2 l0_2.length c0_2], .string a1] w fun e w' => e = .returned (.int .i64 r) ∧ Below w.heap.size w w' := by
 have hu56 := Try.underlying56
 have HR0_1 := zA hr0_1
 have HC0_1 := zA hc0_1
 clear hr0_1 hc0_1
 have HR0_2 := zA hr0_2
 have HC0_2 := zA hc0_2
 clear hr0_2 hc0_2
 have HB := zA (zZ w.heap.size w)
 have H : (spec_l3Child.l0 k a1 0 1 a0_0 l0_1 l0_2) = some r := h
 clear h
 have H' := zA H
 clear H
 go_enter Try.func75, Try.ntmps75
 go_wp2_with (first | ((with_reducible refine gate_dst (N := 2) rfl ?_); refine box_event ?hg (N := 2) ?hd (cs := #[.bool a0_0, .slice A0_1 l0_1.length c0_1, .slice A0_2 l0_2.length c0_2]) (t := 56) ?hr ?_; (case hd => rfl); (case hg => rfl); (case hr => first | (go_simp; done) | (go_simp; rfl)); intro gb374 hg w3 hbox hb; have n0_ := zA (zU wA hb); have n1_ := zA (hbox); have n2_ := zA ((by rw [hg]; exact (zV wA) : w.heap.size ≤ gb374)); have n3_ := zA ((by rw [hg]; exact (zV wA) : w.heap.size ≤ gb374)); clear HB; have HB := n0_; have BK374 := n1_; have GW374 := n2_; have GE374 := n3_; clear n0_ n1_ n2_ n3_; clear hb hbox hg))
 go_loopg [5, 6] k (fun kq v5 v6 w' => ∃ (x5_1 : Int) (x6_1 : Int), v5 = .int .i64 x5_1 ∧ v6 = .int .i64 x6_1 ∧ Aside0 (spec_l3Child.l0 kq a1 x5_1 x6_1 a0_0 l0_1 l0_2 = some r) ∧ Aside0 (kq ≤ k) ∧ Aside0 (w'.heap[gb374]? = some (.cells #[.bool a0_0, (.slice A0_1 l0_1.length c0_1), (.slice A0_2 l0_2.length c0_2)] 56 (0, 0))) ∧ Aside0 (Below w.heap.size w w'))
 case atStart => exact ⟨(0), (1), wF, wF, H', ⟨zY _⟩, ⟨wJ BK374.out⟩, ⟨wB GE374.out⟩⟩
 case round =>
  clear H'
  try clear p2
  obtain ⟨x5_1, x6_1, rfl, rfl, HA, HK1, BK374, HB⟩ := hrel
  cases gk with
  | zero => exact absurd HA.out (by simp [spec_l3Child.l0])
  | succ k1 =>
    have H := HA.out
    clear HA
    simp only [spec_l3Child.l0] at H
    by_cases c4 : x6_1 < (l0_2.length : Int)
    ·rw [if_pos c4] at H
     have c4b0 : decide (x6_1 < (l0_2.length : Int)) = true := zJ c4
     clear c4
     by_cases c5 : 0 ≤ x6_1
     ·rw [if_pos c5] at H
      have c5b0 : decide (0 ≤ x6_1) = true := zJ c5
      clear c5
      replace H := Option.bind_eq_some_iff.mp H
      obtain ⟨t376, A60, H⟩ := H
      replace H : (if 0 < (t376.length : Int) then (if ((Op.bytesLess a1.toList ((rdOf ByteArray.empty t376 0).toList)) = true) then (spec_l3Child.l0 k1 a1 x5_1 (wrap64 (x6_1 + 1)) a0_0 l0_1 l0_2) else (spec_l3Child.l0 k1 a1 x6_1 (wrap64 (x6_1 + 1)) a0_0 l0_1 l0_2)) else (none)) = some r := H
      have A6 := zA A60
      clear A60
      by_cases c7 : 0 < (t376.length : Int)
      ·rw [if_pos c7] at H
       have c7b0 : decide (0 < (t376.length : Int)) = true := zJ c7
       have c7b1 : decide (0 < t376.length) = true := zJ (by omega)
       clear c7
       by_cases c8 : ((Op.bytesLess a1.toList ((rdOf ByteArray.empty t376 0).toList)) = true)
       ·rw [if_pos c8] at H
        have c8b0 : (Op.bytesLess a1.toList ((rdOf ByteArray.empty t376 0).toList)) = true := c8
        have c8b9 := spec_l3Child.bt c8b0
        clear c8
        have H' := zA H
        clear H
        have hcz9_0 : wr.cell? ⟨gb374, 0, none⟩ = some (.bool a0_0) := (blk_cell BK374.out 0).trans rfl
        have hcz9_1 : wr.cell? ⟨gb374, 1, none⟩ = some (.slice A0_1 l0_1.length c0_1) := (blk_cell BK374.out 1).trans rfl
        have hcz9_2 : wr.cell? ⟨gb374, 2, none⟩ = some (.slice A0_2 l0_2.length c0_2) := (blk_cell BK374.out 2).trans rfl
        have hfz9_0 := zG BK374.out 0
        have hfz9_1 := zG BK374.out 1
        have hfz9_2 := zG BK374.out 2
        have p375 : 0 ≤ (x6_1 : Int) := zI wE
        have q375 : x6_1 < (l0_2.length : Int) := zI wE
        obtain ⟨ad375, A375_1, c375_1, A375_2, c375_2, e375, hx375_0, hx375_1, hx375_2, hl375_1, hi375_1, hl375_2, hi375_2⟩ := at_T56 HR0_2.out x6_1 p375 q375
        cases e375
        replace hx375_0 := (HB.out.cell (zM w _ hx375_0)).trans hx375_0
        replace hx375_1 := (HB.out.cell (zM w _ hx375_1)).trans hx375_1
        replace hx375_2 := (HB.out.cell (zM w _ hx375_2)).trans hx375_2
        have HR375_1 := zA hi375_1
        have HC375_1 := zA hl375_1
        clear hi375_1 hl375_1
        have HR375_2 := zA hi375_2
        have HC375_2 := zA hl375_2
        clear hi375_2 hl375_2
        replace p375 := eq_true p375
        replace q375 := eq_true q375
        go_wp2_with (first | ((with_reducible refine gate_callee (f := 47) rfl ?_); refine goesL_ (some 19) rfl rfl Try.func47 (by kernel_rfl) rfl #[.agg #[.bool ((rd_T56 l0_2 x6_1).f0), .slice A375_1 ((rd_T56 l0_2 x6_1).f1).length c375_1, .slice A375_2 ((rd_T56 l0_2 x6_1).f2).length c375_2]] rfl wH ?_; (with_reducible refine (spec_l3Keys.calls k1 ((rd_T56 l0_2 x6_1).f0) _ _ ((rd_T56 l0_2 x6_1).f1) _ _ ((rd_T56 l0_2 x6_1).f2) t376 _ ?side1 ?side2 ?side3 ?side4 A6.out).mono ?_); (case side1 => repeat (first | exact (zQ HR375_1.out HB.out) | (with_reducible refine zR ?_ _) | (with_reducible refine zS ?_ _) | (with_reducible refine zT ?_))); (case side2 => exact HC375_1.out); (case side3 => repeat (first | exact (zQ HR375_2.out HB.out) | (with_reducible refine zR ?_ _) | (with_reducible refine zS ?_ _) | (with_reducible refine zT ?_))); (case side4 => exact HC375_2.out); rintro e w10 ⟨v377, rfl, ho0, hb⟩; refine ⟨_, rfl, ?_⟩; have n0_ := zA (Kd.R_lower ho0 (zV (wB GE374.out))); have n1_ := zA (zH (g := gb374) (o := .cells #[.bool a0_0, .slice A0_1 l0_1.length c0_1, .slice (some ad375) l0_2.length c0_2] 56 (0, 0)) (wJ BK374.out) hb); have n2_ := zA (zU (wB GE374.out) hb); clear BK374; clear HB; have HO378 := n0_; have BK374 := n1_; have HB := n2_; clear n0_ n1_ n2_; (try clear hb); (try clear hb2); (try clear hk); (try clear hi); (try clear ho0); obtain ⟨Ao11, co11, eo11⟩ := Kd.R_slice HO378.out; subst eo11; have p379 : 0 ≤ (0 : Int) := (by omega); have q379 : 0 < (t376.length : Int) := zI wE; obtain ⟨ad379, e379, hx379_0⟩ := Kd.at_string (Kd.R_reads' HO378.out).2.2 0 p379 q379; cases e379; have qi379 : (0 < t376.length) = True := eq_true (by omega); (try rw [show ((0 : Int)).toNat = 0 from rfl] at hx379_0); (try rw [Addr.add_zero'] at hx379_0); replace p379 := eq_true p379; replace q379 := eq_true q379))
        go_roundg k1
        case measure => have := HK1.out; omega
        case rel => exact ⟨(x5_1), (wrap64 (x6_1 + 1)), wF, wF, H', ⟨by have := HK1.out; omega⟩, ⟨wJ BK374.out⟩, ⟨wB GE374.out⟩⟩
       ·rw [if_neg c8] at H
        have c8b0 : (Op.bytesLess a1.toList ((rdOf ByteArray.empty t376 0).toList)) = false := by simpa using c8
        have c8b9 := spec_l3Child.bf c8b0
        clear c8
        have H' := zA H
        clear H
        have hcz12_0 : wr.cell? ⟨gb374, 0, none⟩ = some (.bool a0_0) := (blk_cell BK374.out 0).trans rfl
        have hcz12_1 : wr.cell? ⟨gb374, 1, none⟩ = some (.slice A0_1 l0_1.length c0_1) := (blk_cell BK374.out 1).trans rfl
        have hcz12_2 : wr.cell? ⟨gb374, 2, none⟩ = some (.slice A0_2 l0_2.length c0_2) := (blk_cell BK374.out 2).trans rfl
        have hfz12_0 := zG BK374.out 0
        have hfz12_1 := zG BK374.out 1
        have hfz12_2 := zG BK374.out 2
        have p375 : 0 ≤ (x6_1 : Int) := zI wE
        have q375 : x6_1 < (l0_2.length : Int) := zI wE
        obtain ⟨ad375, A375_1, c375_1, A375_2, c375_2, e375, hx375_0, hx375_1, hx375_2, hl375_1, hi375_1, hl375_2, hi375_2⟩ := at_T56 HR0_2.out x6_1 p375 q375
        cases e375
        replace hx375_0 := (HB.out.cell (zM w _ hx375_0)).trans hx375_0
        replace hx375_1 := (HB.out.cell (zM w _ hx375_1)).trans hx375_1
        replace hx375_2 := (HB.out.cell (zM w _ hx375_2)).trans hx375_2
        have HR375_1 := zA hi375_1
        have HC375_1 := zA hl375_1
        clear hi375_1 hl375_1
        have HR375_2 := zA hi375_2
        have HC375_2 := zA hl375_2
        clear hi375_2 hl375_2
        replace p375 := eq_true p375
        replace q375 := eq_true q375
        go_wp2_with (first | ((with_reducible refine gate_callee (f := 47) rfl ?_); refine goesL_ (some 19) rfl rfl Try.func47 (by kernel_rfl) rfl #[.agg #[.bool ((rd_T56 l0_2 x6_1).f0), .slice A375_1 ((rd_T56 l0_2 x6_1).f1).length c375_1, .slice A375_2 ((rd_T56 l0_2 x6_1).f2).length c375_2]] rfl wH ?_; (with_reducible refine (spec_l3Keys.calls k1 ((rd_T56 l0_2 x6_1).f0) _ _ ((rd_T56 l0_2 x6_1).f1) _ _ ((rd_T56 l0_2 x6_1).f2) t376 _ ?side1 ?side2 ?side3 ?side4 A6.out).mono ?_); (case side1 => repeat (first | exact (zQ HR375_1.out HB.out) | (with_reducible refine zR ?_ _) | (with_reducible refine zS ?_ _) | (with_reducible refine zT ?_))); (case side2 => exact HC375_1.out); (case side3 => repeat (first | exact (zQ HR375_2.out HB.out) | (with_reducible refine zR ?_ _) | (with_reducible refine zS ?_ _) | (with_reducible refine zT ?_))); (case side4 => exact HC375_2.out); rintro e w13 ⟨v377, rfl, ho0, hb⟩; refine ⟨_, rfl, ?_⟩; have n0_ := zA (Kd.R_lower ho0 (zV (wB GE374.out))); have n1_ := zA (zH (g := gb374) (o := .cells #[.bool a0_0, .slice A0_1 l0_1.length c0_1, .slice (some ad375) l0_2.length c0_2] 56 (0, 0)) (wJ BK374.out) hb); have n2_ := zA (zU (wB GE374.out) hb); clear BK374; clear HB; have HO378 := n0_; have BK374 := n1_; have HB := n2_; clear n0_ n1_ n2_; (try clear hb); (try clear hb2); (try clear hk); (try clear hi); (try clear ho0); obtain ⟨Ao14, co14, eo14⟩ := Kd.R_slice HO378.out; subst eo14; have p379 : 0 ≤ (0 : Int) := (by omega); have q379 : 0 < (t376.length : Int) := zI wE; obtain ⟨ad379, e379, hx379_0⟩ := Kd.at_string (Kd.R_reads' HO378.out).2.2 0 p379 q379; cases e379; have qi379 : (0 < t376.length) = True := eq_true (by omega); (try rw [show ((0 : Int)).toNat = 0 from rfl] at hx379_0); (try rw [Addr.add_zero'] at hx379_0); replace p379 := eq_true p379; replace q379 := eq_true q379))
        go_roundg k1
        case measure => have := HK1.out; omega
        case rel => exact ⟨(x6_1), (wrap64 (x6_1 + 1)), wF, wF, H', ⟨by have := HK1.out; omega⟩, ⟨wJ BK374.out⟩, ⟨wB GE374.out⟩⟩
      ·rw [if_neg c7] at H
       exact absurd H (by simp)
     ·rw [if_neg c5] at H
      exact absurd H (by simp)
    ·rw [if_neg c4] at H
     have c4b0 : decide (x6_1 < (l0_2.length : Int)) = false := zK c4
     clear c4
     obtain rfl := zL H
     have hcz15_0 : wr.cell? ⟨gb374, 0, none⟩ = some (.bool a0_0) := (blk_cell BK374.out 0).trans rfl
     have hcz15_1 : wr.cell? ⟨gb374, 1, none⟩ = some (.slice A0_1 l0_1.length c0_1) := (blk_cell BK374.out 1).trans rfl
     have hcz15_2 : wr.cell? ⟨gb374, 2, none⟩ = some (.slice A0_2 l0_2.length c0_2) := (blk_cell BK374.out 2).trans rfl
     have hfz15_0 := zG BK374.out 0
     have hfz15_1 := zG BK374.out 1
     have hfz15_2 := zG BK374.out 2
     go_wp2
     go_ret
     exact ⟨wG, wB GE374.out⟩

/-! ### spec_l3Ins: function 54 -/
mutual
def spec_l3Ins.j1 : Nat → ByteArray → List ByteArray → Bool → List ByteArray → List (S56) → Option ((List (S56)))
 | 0, _, _, _, _, _ => none
 | k + 1, x1, x5, x381000, x381001, x381002 => if x5.length < 8796093022208 then ((some (x5 ++ [x1] : List ByteArray)).bind fun y389 => (if 0 ≤ (x5.length : Int) then (if (x5.length : Int) ≤ (x381001.length : Int) then (if y389.length + (x381001.drop ((x5.length : Int) : Int).toNat).length < 8796093022208 then ((spec_l3Split.f true (y389 ++ (x381001.drop ((x5.length : Int) : Int).toNat)) ([] : List (S56))).bind fun t396 => (some t396)) else (none)) else (none)) else (none))) else (none)
def spec_l3Ins.l0 : Nat → ByteArray → List ByteArray → Int → Bool → List ByteArray → List (S56) → Option ((List (S56)))
 | 0, _, _, _, _, _, _ => none
 | k + 1, x1, x5, x6, x381000, x381001, x381002 => if x6 < (x381001.length : Int) then (if 0 ≤ x6 then (if (Op.bytesLess ((rdOf ByteArray.empty x381001 x6).toList) x1.toList) = true then (if x5.length < 8796093022208 then (spec_l3Ins.l0 k x1 (x5 ++ [rdOf ByteArray.empty x381001 x6]) (wrap64 (x6 + 1)) x381000 x381001 x381002) else (none)) else (spec_l3Ins.j1 k x1 x5 x381000 x381001 x381002)) else (none)) else (spec_l3Ins.j1 k x1 x5 x381000 x381001 x381002)
def spec_l3Ins.f : Nat → Bool → List ByteArray → List (S56) → ByteArray → Option ((List (S56)))
 | 0, _, _, _, _ => none
 | k + 1, a0_0, l0_1, l0_2, a1 => if a0_0 = true then (spec_l3Ins.l0 k a1 (([] : List ByteArray)) 0 a0_0 l0_1 l0_2) else ((spec_l3Child.f k a0_0 l0_1 l0_2 a1).bind fun t399 => ((some (([] : List (S56)) : List (S56))).bind fun y400 => (if 0 ≤ t399 then (if t399 ≤ (l0_2.length : Int) then ((some (l0_2.take (t399 : Int).toNat : List (S56))).bind fun y403 => (if y400.length + y403.length < 2513169434916 then ((some (y400 ++ y403 : List (S56))).bind fun y408 => (if t399 < (l0_2.length : Int) then ((spec_l3Ins.f k ((rd_T56 l0_2 t399).f0) ((rd_T56 l0_2 t399).f1) ((rd_T56 l0_2 t399).f2) a1).bind fun t412 => (if y408.length + t412.length < 2513169434916 then ((some (y408 ++ t412 : List (S56))).bind fun y415 => (if 0 ≤ (wrap64 (t399 + 1)) then (if (wrap64 (t399 + 1)) ≤ (l0_2.length : Int) then ((some (l0_2.drop ((wrap64 (t399 + 1)) : Int).toNat : List (S56))).bind fun y418 => (if y415.length + y418.length < 2513169434916 then ((spec_l3Split.f false ([] : List ByteArray) (y415 ++ y418)).bind fun t426 => (some t426)) else (none))) else (none)) else (none))) else (none))) else (none))) else (none))) else (none)) else (none))))
end
set_option maxHeartbeats 8000000 in
set_option maxRecDepth 100000 in
theorem spec_l3Ins.calls (k : Nat) : ∀ (a0_0 : Bool) (A0_1 : Option Addr) (c0_1 : Nat) (l0_1 : List ByteArray) (P0_2_ : Nat → Prop) (A0_2 : Option Addr) (c0_2 : Nat) (l0_2 : List (S56)) (a1 : ByteArray) (r : List (S56)) (w : World) (hr0_1 : Kd.C Kd.string w A0_1 l0_1.length l0_1) (hc0_1 : l0_1.length ≤ c0_1) (hs0_2 : Kd.V k56 56 w w.heap.size (fun k_ => P0_2_ k_) (.slice A0_2 l0_2.length c0_2) l0_2) (h : spec_l3Ins.f k a0_0 l0_1 l0_2 a1 = some r),
   Calls Try.prog 54 #[.agg #[.bool a0_0, .slice A0_1 l0_1.length c0_1, .slice A0_2 l0_2.length c0_2], .string a1] w fun e w' => ∃ v0_ : Value, e = .returned (v0_) ∧ Kd.N k56 56 w' w.heap.size (fun k_ => (P0_2_ k_ ∨ w.heap.size ≤ k_)) v0_ r ∧ Below w.heap.size w w' := by
 induction k using Nat.strongRecOn with
 | _ k ih =>
 intro a0_0 A0_1 c0_1 l0_1 P0_2_ A0_2 c0_2 l0_2 a1 r w hr0_1 hc0_1 hs0_2 h
 cases k with
 | zero => exact absurd h (by simp [spec_l3Ins.f])
 | succ k =>
 simp only [spec_l3Ins.f] at h
 have hu56 := Try.underlying56
 have HR0_1 := zA hr0_1
 have HC0_1 := zA hc0_1
 clear hr0_1 hc0_1
 have HO0_2 := zA (show Kd.V k56 56 w w.heap.size (fun k_ => (P0_2_ k_ ∨ w.heap.size ≤ k_)) (.slice A0_2 l0_2.length c0_2) l0_2 from Kd.V_mono hs0_2 (fun k_ hk => .inl hk))
 have HB := zA (zZ w.heap.size w)
 have H : (if a0_0 = true then (spec_l3Ins.l0 k a1 (([] : List ByteArray)) 0 a0_0 l0_1 l0_2) else ((spec_l3Child.f k a0_0 l0_1 l0_2 a1).bind fun t399 => ((some (([] : List (S56)) : List (S56))).bind fun y400 => (if 0 ≤ t399 then (if t399 ≤ (l0_2.length : Int) then ((some (l0_2.take (t399 : Int).toNat : List (S56))).bind fun y403 => (if y400.length + y403.length < 2513169434916 then ((some (y400 ++ y403 : List (S56))).bind fun y408 => (if t399 < (l0_2.length : Int) then ((spec_l3Ins.f k ((rd_T56 l0_2 t399).f0) ((rd_T56 l0_2 t399).f1) ((rd_T56 l0_2 t399).f2) a1).bind fun t412 => (if y408.length + t412.length < 2513169434916 then ((some (y408 ++ t412 : List (S56))).bind fun y415 => (if 0 ≤ (wrap64 (t399 + 1)) then (if (wrap64 (t399 + 1)) ≤ (l0_2.length : Int) then ((some (l0_2.drop ((wrap64 (t399 + 1)) : Int).toNat : List (S56))).bind fun y418 => (if y415.length + y418.length < 2513169434916 then ((spec_l3Split.f false ([] : List ByteArray) (y415 ++ y418)).bind fun t426 => (some t426)) else (none))) else (none)) else (none))) else (none))) else (none))) else (none))) else (none)) else (none))))) = some r := h
 clear h
 by_cases c3 : a0_0 = true
 · subst c3
   have H1 : (spec_l3Ins.l0 k a1 (([] : List ByteArray)) 0 true l0_1 l0_2) = some r := by rw [if_pos rfl] at H; exact H
   clear H
   have H := H1
   clear H1
   obtain ⟨y381, hy381⟩ : ∃ y_ : List ByteArray, y_ = (([] : List ByteArray)) := ⟨_, rfl⟩
   replace H : (spec_l3Ins.l0 k a1 y381 0 true l0_1 l0_2) = some r := wO hy381 H
   have Ny381 := zA hy381
   clear hy381
   have HC4 := zA H
   clear H
   go_enter Try.func54, Try.ntmps54
   go_upto_block 0 with (first | ((with_reducible refine gate_dst (N := 2) rfl ?_); refine box_event ?hg (N := 2) ?hd (cs := #[.bool true, .slice A0_1 l0_1.length c0_1, .slice A0_2 l0_2.length c0_2]) (t := 56) ?hr ?_; (case hd => rfl); (case hg => rfl); (case hr => first | (go_simp; done) | (go_simp; rfl)); intro gb380 hg w5 hbox hb; have n0_ := zA (Kd.V_below (Kd.V_elderB (wL HO0_2.out) gb380 (Nat.le_of_eq hg.symm)) hb); have n1_ := zA (zU wA hb); have n2_ := zA (hbox); have n3_ := zA ((by rw [hg]; exact (zV wA) : w.heap.size ≤ gb380)); have n4_ := zA ((by rw [hg]; exact (zV wA) : w.heap.size ≤ gb380)); clear HO0_2; clear HB; have HO0_2 := n0_; have HB := n1_; have BK380 := n2_; have GW380 := n3_; have GE380 := n4_; clear n0_ n1_ n2_ n3_ n4_; clear hb hbox hg; have hcz6_0 : w5.cell? ⟨gb380, 0, none⟩ = some (.bool true) := (blk_cell BK380.out 0).trans rfl; have hcz6_1 : w5.cell? ⟨gb380, 1, none⟩ = some (.slice A0_1 l0_1.length c0_1) := (blk_cell BK380.out 1).trans rfl; have hcz6_2 : w5.cell? ⟨gb380, 2, none⟩ = some (.slice A0_2 l0_2.length c0_2) := (blk_cell BK380.out 2).trans rfl; have hfz6_0 := zG BK380.out 0; have hfz6_1 := zG BK380.out 1; have hfz6_2 := zG BK380.out 2) | ((with_reducible refine gate_dst (N := 12) rfl ?_); refine Kd.R_lit Kd.string _ 9 ?hg (N := 12) ?hd (xs := ([] : List ByteArray)) (inner := []) (ok := fun _ => True) (okp := fun _ => True) ?hr ?hp (fun _ hk => hk) trivial (zZ _ _) (zY _) (by simp) ?_; (case hd => rfl); (case hg => rfl); (case hr => first | (go_simp; done) | (go_simp; rfl)); (case hp => exact (Reps.none _ _)); intro v382 w7 ho8 hb hg_ hnew_; clear hg_ hnew_; (first | rw [← Ny381.out] at ho8 | (simp only [Int.reduceToNat] at ho8; rw [← Ny381.out] at ho8)); have n0_ := zA (Kd.V_elder' (wL HO0_2.out) (Kd.R_base ho8) hb); have n1_ := zA (Kd.R_lower (Kd.R_newM (M := fun k_ => (w.heap.size ≤ k_)) ho8 (zV (wB GE380.out)) (fun k_ h_ => h_)) (zV (wB GE380.out))); have n2_ := zA (zH (g := gb380) (o := .cells #[.bool true, .slice A0_1 l0_1.length c0_1, .slice A0_2 l0_2.length c0_2] 56 (0, 0)) (wJ BK380.out) hb); have n3_ := zA (zU (wB GE380.out) hb); clear HO0_2; clear BK380; clear HB; have HO0_2 := n0_; have HO383 := n1_; have BK380 := n2_; have HB := n3_; clear n0_ n1_ n2_ n3_; clear hb ho8))
   (try simp only [Act.put, zN, zO, zP])
   go_cut [5] (fun v5 wc => ∃ (kq : Nat) (x5_3 : List ByteArray), Aside0 (spec_l3Ins.j1 kq a1 x5_3 true l0_1 l0_2 = some r) ∧ Aside0 (kq ≤ k) ∧ Aside0 (Kd.R Kd.string 9 wc w.heap.size (fun k_ => (w.heap.size ≤ k_)) v5 x5_3) ∧ Aside0 (Kd.V k56 56 wc w.heap.size (fun k_ => (P0_2_ k_ ∨ w.heap.size ≤ k_) ∧ some k_ ≠ (v5 : Value).ownBlock ∧ k_ ≠ gb380) (.slice A0_2 l0_2.length c0_2) l0_2) ∧ Aside0 (wc.heap[gb380]? = some (.cells #[.bool true, (.slice A0_1 l0_1.length c0_1), (.slice A0_2 l0_2.length c0_2)] 56 (0, 0))) ∧ Aside0 (Below w.heap.size w wc))
   case first =>
     have H := HC4.out
     clear HC4
     have H' := zA H
     clear H
     go_wp2
     go_loopg [5, 6] k (fun kq v5 v6 w' => ∃ (x5_1 : List ByteArray) (x6_1 : Int), v6 = .int .i64 x6_1 ∧ Aside0 (spec_l3Ins.l0 kq a1 x5_1 x6_1 true l0_1 l0_2 = some r) ∧ Aside0 (kq ≤ k) ∧ Aside0 (Kd.R Kd.string 9 w' w.heap.size (fun k_ => (w.heap.size ≤ k_)) v5 x5_1) ∧ Aside0 (Kd.V k56 56 w' w.heap.size (fun k_ => (P0_2_ k_ ∨ w.heap.size ≤ k_) ∧ some k_ ≠ (v5 : Value).ownBlock ∧ k_ ≠ gb380) (.slice A0_2 l0_2.length c0_2) l0_2) ∧ Aside0 (w'.heap[gb380]? = some (.cells #[.bool true, (.slice A0_1 l0_1.length c0_1), (.slice A0_2 l0_2.length c0_2)] 56 (0, 0))) ∧ Aside0 (Below w.heap.size w w'))
     case atStart => exact ⟨(y381), (0), wF, H', ⟨zY _⟩, ⟨by (with_reducible repeat (first | apply Kd.R_alloc | apply Kd.R_drewN | apply Kd.R_drew)); exact yA HO383.out (fun _ hk => hk.1)⟩, ⟨by (with_reducible repeat (first | apply Kd.V_alloc | apply Kd.V_drewN | apply Kd.V_drew)); exact Kd.V_mono HO0_2.out (fun _ hk => ⟨hk.1.1, ⟨hk.2, hk.1.2⟩⟩)⟩, ⟨wJ BK380.out⟩, ⟨wB GE380.out⟩⟩
     case round =>
       clear H'
       try clear p2
       try clear c3
       try clear c5
       try clear p6
       try clear hcz6_0
       try clear hcz6_1
       try clear hcz6_2
       try clear hfz6_0
       try clear hfz6_1
       try clear hfz6_2
       obtain ⟨x5_1, x6_1, rfl, HA, HK1, HO_5, HO_381002, BK380, HB⟩ := hrel
       cases gk with
       | zero => exact absurd HA.out (by simp [spec_l3Ins.l0])
       | succ k1 =>
         have H := HA.out
         clear HA
         simp only [spec_l3Ins.l0] at H
         by_cases c9 : x6_1 < (l0_1.length : Int)
         ·rw [if_pos c9] at H
          have c9b0 : decide (x6_1 < (l0_1.length : Int)) = true := zJ c9
          clear c9
          (first | rw [c9b0] | (simp only [i64_w, i32_w]; rw [c9b0]) | skip)
          by_cases c10 : 0 ≤ x6_1
          · rw [if_pos c10] at H
            have c10b0 : decide (0 ≤ x6_1) = true := zJ c10
            clear c10
            by_cases c11 : (Op.bytesLess ((rdOf ByteArray.empty l0_1 x6_1).toList) a1.toList) = true
            · rw [if_pos c11] at H
              have c11b0 : (Op.bytesLess ((rdOf ByteArray.empty l0_1 x6_1).toList) a1.toList) = true := c11
              clear c11
              by_cases c12 : x5_1.length < 8796093022208
              ·rw [if_pos c12] at H
               have LMc12 := zA c12
               clear c12
               obtain ⟨y386, hy386⟩ : ∃ y_ : List ByteArray, y_ = (x5_1 ++ [rdOf ByteArray.empty l0_1 x6_1]) := ⟨_, rfl⟩
               replace H : (spec_l3Ins.l0 k1 a1 y386 (wrap64 (x6_1 + 1)) true l0_1 l0_2) = some r := wO hy386 H
               have Ny386 := zA hy386
               clear hy386
               have H' := zA H
               clear H
               have hcz13_0 : wr.cell? ⟨gb380, 0, none⟩ = some (.bool true) := (blk_cell BK380.out 0).trans rfl
               have hcz13_1 : wr.cell? ⟨gb380, 1, none⟩ = some (.slice A0_1 l0_1.length c0_1) := (blk_cell BK380.out 1).trans rfl
               have hcz13_2 : wr.cell? ⟨gb380, 2, none⟩ = some (.slice A0_2 l0_2.length c0_2) := (blk_cell BK380.out 2).trans rfl
               have hfz13_0 := zG BK380.out 0
               have hfz13_1 := zG BK380.out 1
               have hfz13_2 := zG BK380.out 2
               have p384 : 0 ≤ (x6_1 : Int) := zI wE
               have q384 : x6_1 < (l0_1.length : Int) := zI wE
               obtain ⟨ad384, e384, hx384_0⟩ := Kd.at_string HR0_1.out x6_1 p384 q384
               cases e384
               replace hx384_0 := (HB.out.cell (zM w _ hx384_0)).trans hx384_0
               replace p384 := eq_true p384
               replace q384 := eq_true q384
               have p385 : 0 ≤ (x6_1 : Int) := zI wE
               have q385 : x6_1 < (l0_1.length : Int) := zI wE
               obtain ⟨ad385, e385, hx385_0⟩ := Kd.at_string HR0_1.out x6_1 p385 q385
               obtain rfl : ad384 = ad385 := (by injection e385)
               replace hx385_0 := (HB.out.cell (zM w _ hx385_0)).trans hx385_0
               replace p385 := eq_true p385
               replace q385 := eq_true q385
               go_wp2_with (first | ((with_reducible refine gate_builtin (b := .append) (xs := #[.tmp 29, .tmp 35]) rfl ?_); at_builtin; refine Kd.R_append Kd.string (w0 := w) w.heap.size rfl (.tmp 29) (.tmp 35) 38 9 (.string ⟨#[]⟩) 16 rfl Try.underlying38 info9 rfl (by decide) (by omega) u5 x5_1 (rdOf ByteArray.empty l0_1 x6_1) [.string (rdOf ByteArray.empty l0_1 x6_1)] (fun k_ => (w.heap.size ≤ k_)) (fun _ => False) rfl rfl ?aP (fun _ hk => hk.elim) ?aF ?aO ?aB ?aS ?aL ?_; (case aP => exact rfl); (case aB => exact (wB GE380.out)); (case aF => exact (fun k_ hk => (yI (zV (wB GE380.out)) hk))); (case aO => exact (wK HO_5.out)); (case aS => exact (zV (wB GE380.out))); (case aL => have := LMc12.out; omega); intro v387 w14 ho hb hg hat; rw [← Ny386.out] at ho; have n0_ := zA (Kd.V_afterv (ok := (fun k_ => (P0_2_ k_ ∨ w.heap.size ≤ k_) ∧ k_ ≠ gb380)) (by (with_reducible repeat (first | apply Kd.V_alloc | apply Kd.V_drewN | apply Kd.V_drew)); exact Kd.V_mono HO_381002.out (fun _ hk => ⟨⟨hk.1, hk.2.2⟩, hk.2.1⟩)) hg hat); have n1_ := zA (blk_grown (g := gb380) (o := .cells #[.bool true, .slice (some ad384) l0_1.length c0_1, .slice A0_2 l0_2.length c0_2] 56 (0, 0)) (wJ BK380.out) hg (Kd.R_ne HO_5.out BK380.out (by decide))); have n2_ := zA (hb); have n3_ := zA (ho); clear HO_381002; clear BK380; clear HB; clear HO_5; have HO_381002 := n0_; have BK380 := n1_; have HB := n2_; have HO388 := n3_; clear n0_ n1_ n2_ n3_; clear ho hb hg hat))
               go_roundg k1
               case measure => have := HK1.out; omega
               case rel => exact ⟨(y386), (wrap64 (x6_1 + 1)), wF, H', ⟨by have := HK1.out; omega⟩, ⟨wK HO388.out⟩, ⟨by (with_reducible repeat (first | apply Kd.V_alloc | apply Kd.V_drewN | apply Kd.V_drew)); exact Kd.V_mono HO_381002.out (fun _ hk => ⟨hk.1.1, ⟨hk.2, hk.1.2⟩⟩)⟩, ⟨wJ BK380.out⟩, ⟨wB GE380.out⟩⟩
              ·rw [if_neg c12] at H
               exact absurd H (by simp)
            · rw [if_neg c11] at H
              have c11b0 : (Op.bytesLess ((rdOf ByteArray.empty l0_1 x6_1).toList) a1.toList) = false := by simpa using c11
              clear c11
              have H' := zA H
              clear H
              have hcz15_0 : wr.cell? ⟨gb380, 0, none⟩ = some (.bool true) := (blk_cell BK380.out 0).trans rfl
              have hcz15_1 : wr.cell? ⟨gb380, 1, none⟩ = some (.slice A0_1 l0_1.length c0_1) := (blk_cell BK380.out 1).trans rfl
              have hcz15_2 : wr.cell? ⟨gb380, 2, none⟩ = some (.slice A0_2 l0_2.length c0_2) := (blk_cell BK380.out 2).trans rfl
              have hfz15_0 := zG BK380.out 0
              have hfz15_1 := zG BK380.out 1
              have hfz15_2 := zG BK380.out 2
              have p384 : 0 ≤ (x6_1 : Int) := zI wE
              have q384 : x6_1 < (l0_1.length : Int) := zI wE
              obtain ⟨ad384, e384, hx384_0⟩ := Kd.at_string HR0_1.out x6_1 p384 q384
              cases e384
              replace hx384_0 := (HB.out.cell (zM w _ hx384_0)).trans hx384_0
              replace p384 := eq_true p384
              replace q384 := eq_true q384
              go_wp2
              go_meet
              case rel => exact ⟨_, (x5_1), H', ⟨by have := HK1.out; first | omega | exact zY _⟩, ⟨wK HO_5.out⟩, ⟨wL HO_381002.out⟩, ⟨wJ BK380.out⟩, ⟨wB GE380.out⟩⟩
          · rw [if_neg c10] at H
            exact absurd H (by simp)
         ·rw [if_neg c9] at H
          have c9b0 : decide (x6_1 < (l0_1.length : Int)) = false := zK c9
          clear c9
          (first | rw [c9b0] | (simp only [i64_w, i32_w]; rw [c9b0]) | skip)
          have H' := zA H
          clear H
          have hcz16_0 : wr.cell? ⟨gb380, 0, none⟩ = some (.bool true) := (blk_cell BK380.out 0).trans rfl
          have hcz16_1 : wr.cell? ⟨gb380, 1, none⟩ = some (.slice A0_1 l0_1.length c0_1) := (blk_cell BK380.out 1).trans rfl
          have hcz16_2 : wr.cell? ⟨gb380, 2, none⟩ = some (.slice A0_2 l0_2.length c0_2) := (blk_cell BK380.out 2).trans rfl
          have hfz16_0 := zG BK380.out 0
          have hfz16_1 := zG BK380.out 1
          have hfz16_2 := zG BK380.out 2
          go_wp2
          go_meet
          case rel => exact ⟨_, (x5_1), H', ⟨by have := HK1.out; first | omega | exact zY _⟩, ⟨wK HO_5.out⟩, ⟨wL HO_381002.out⟩, ⟨wJ BK380.out⟩, ⟨wB GE380.out⟩⟩
   case rest =>
     clear HC4
     try clear c1
     try clear p2
     try clear c3
     try clear p3
     try clear q3
     try clear hx3
     try clear c5
     try clear p6
     try clear c9
     try clear c9b0
     try clear c10
     try clear c10b0
     try clear c11
     try clear c11b0
     try clear c12
     try clear hcz13_0
     try clear hcz13_1
     try clear hcz13_2
     try clear hcz15_0
     try clear hcz15_1
     try clear hcz15_2
     try clear hcz16_0
     try clear hcz16_1
     try clear hcz16_2
     try clear hcz6_0
     try clear hcz6_1
     try clear hcz6_2
     try clear hfz13_0
     try clear hfz13_1
     try clear hfz13_2
     try clear hfz15_0
     try clear hfz15_1
     try clear hfz15_2
     try clear hfz16_0
     try clear hfz16_1
     try clear hfz16_2
     try clear hfz6_0
     try clear hfz6_1
     try clear hfz6_2
     try clear hx384_0
     try clear hx385_0
     try clear p2
     try clear p384
     try clear p385
     try clear p6
     try clear q384
     try clear q385
     obtain ⟨kq, x5_3, HA, HJ3, HO_5, HO_381002, BK380, HB⟩ := hcut
     cases kq with
     | zero => exact absurd HA.out (by simp [spec_l3Ins.j1])
     | succ kj3 =>
       have H := HA.out
       clear HA
       simp only [spec_l3Ins.j1] at H
       by_cases c17 : x5_3.length < 8796093022208
       · rw [if_pos c17] at H
         have LMc17 := zA c17
         clear c17
         obtain ⟨y389, hy389⟩ : ∃ y_ : List ByteArray, y_ = (x5_3 ++ [a1]) := ⟨_, rfl⟩
         replace H : (if 0 ≤ (x5_3.length : Int) then (if (x5_3.length : Int) ≤ (l0_1.length : Int) then (if y389.length + (l0_1.drop ((x5_3.length : Int) : Int).toNat).length < 8796093022208 then ((spec_l3Split.f true (y389 ++ (l0_1.drop ((x5_3.length : Int) : Int).toNat)) ([] : List (S56))).bind fun t396 => (some t396)) else (none)) else (none)) else (none)) = some r := wO hy389 H
         have Ny389 := zA hy389
         clear hy389
         by_cases c18 : 0 ≤ (x5_3.length : Int)
         ·rw [if_pos c18] at H
          have c18b0 := eq_true c18
          have c18b1 : decide (0 ≤ (x5_3.length : Int)) = true := zJ c18
          clear c18
          by_cases c19 : (x5_3.length : Int) ≤ (l0_1.length : Int)
          · rw [if_pos c19] at H
            have c19b0 := eq_true c19
            have c19b1 : decide ((x5_3.length : Int) ≤ (l0_1.length : Int)) = true := zJ c19
            clear c19
            by_cases c20 : y389.length + (l0_1.drop ((x5_3.length : Int) : Int).toNat).length < 8796093022208
            · rw [if_pos c20] at H
              have LMc20 := zA c20
              clear c20
              obtain ⟨y393, hy393⟩ : ∃ y_ : List ByteArray, y_ = (y389 ++ (l0_1.drop ((x5_3.length : Int) : Int).toNat)) := ⟨_, rfl⟩
              replace H : ((spec_l3Split.f true y393 ([] : List (S56))).bind fun t396 => (some t396)) = some r := wO hy393 H
              have Ny393 := zA hy393
              clear hy393
              replace H := Option.bind_eq_some_iff.mp H
              obtain ⟨t396, A210, H⟩ := H
              replace H : (some t396) = some r := H
              have A21 := zA A210
              clear A210
              obtain rfl := zL H
              obtain ⟨Ao22, co22, eo22⟩ := Kd.R_slice HO_5.out
              subst eo22
              go_wp2_with (first | ((with_reducible refine gate_builtin (b := .append) (xs := #[.tmp 39, .tmp 41]) rfl ?_); at_builtin; refine Kd.R_append Kd.string (w0 := w) w.heap.size rfl (.tmp 39) (.tmp 41) 38 9 (.string ⟨#[]⟩) 16 rfl Try.underlying38 info9 rfl (by decide) (by omega) (.slice Ao22 x5_3.length co22) x5_3 a1 [.string a1] (fun k_ => (w.heap.size ≤ k_)) (fun _ => False) rfl rfl ?aP (fun _ hk => hk.elim) ?aF ?aO ?aB ?aS ?aL ?_; (case aP => exact rfl); (case aB => exact (wB GE380.out)); (case aF => exact (fun k_ hk => (yI (zV (wB GE380.out)) hk))); (case aO => exact (wK HO_5.out)); (case aS => exact (zV (wB GE380.out))); (case aL => have := LMc17.out; omega); intro v390 w23 ho hb hg hat; rw [← Ny389.out] at ho; have n0_ := zA (Kd.V_afterv (ok := (fun k_ => (P0_2_ k_ ∨ w.heap.size ≤ k_) ∧ k_ ≠ gb380)) (by (with_reducible repeat (first | apply Kd.V_alloc | apply Kd.V_drewN | apply Kd.V_drew)); exact Kd.V_mono HO_381002.out (fun _ hk => ⟨⟨hk.1, hk.2.2⟩, hk.2.1⟩)) hg hat); have n1_ := zA (blk_grown (g := gb380) (o := .cells #[.bool true, .slice A0_1 l0_1.length c0_1, .slice A0_2 l0_2.length c0_2] 56 (0, 0)) (wJ BK380.out) hg (Kd.R_ne HO_5.out BK380.out (by decide))); have n2_ := zA (hb); have n3_ := zA (ho); clear HO_381002; clear BK380; clear HB; clear HO_5; have HO_381002 := n0_; have BK380 := n1_; have HB := n2_; have HO391 := n3_; clear n0_ n1_ n2_ n3_; clear ho hb hg hat; have hcz24_0 : w23.cell? ⟨gb380, 0, none⟩ = some (.bool true) := (blk_cell BK380.out 0).trans rfl; have hcz24_1 : w23.cell? ⟨gb380, 1, none⟩ = some (.slice A0_1 l0_1.length c0_1) := (blk_cell BK380.out 1).trans rfl; have hcz24_2 : w23.cell? ⟨gb380, 2, none⟩ = some (.slice A0_2 l0_2.length c0_2) := (blk_cell BK380.out 2).trans rfl; have hfz24_0 := zG BK380.out 0; have hfz24_1 := zG BK380.out 1; have hfz24_2 := zG BK380.out 2; obtain ⟨i025, hi025, _, hsz25, _⟩ := info_parts info9; obtain ⟨A25, hcut25, hA25, hC25⟩ := print_drop_of (P := Try.prog) Value.string (⟨#[]⟩ : ByteArray) 38 9 .i64 Try.underlying38 hi025 hsz25 A0_1 c0_1 l0_1 (x5_3.length : Int) (zI wE) (zI wE) HC0_1.out; have HR392 := zA (Kd.C_of_reads (h1 := fun _ => rfl) (hA25 _ (Kd.reads_of_C HR0_1.out))); have HC392 := zA hC25; clear hA25 hC25 hi025 hsz25) | ((with_reducible refine gate_builtin (b := .append) (xs := #[.tmp 43, .tmp 47]) rfl ?_); at_builtin; refine Kd.R_append_rows Kd.string (w0 := w) w.heap.size rfl (.tmp 43) (.tmp 47) 38 9 (.string ⟨#[]⟩) 16 rfl Try.underlying38 info9 rfl (by decide) (by omega) v390 y389 (l0_1.drop ((x5_3.length : Int) : Int).toNat) _ _ _ (fun k_ => (w.heap.size ≤ k_)) (fun _ => False) rfl rfl ?aO ?aR (fun _ _ h => h) (fun _ h => h.elim) ?aF ?aB ?aS ?aL ?_; (case aR => first | (have hlx_ := (show (l0_1.drop ((x5_3.length : Int) : Int).toNat).length = (l0_1.length - (x5_3.length : Int).toNat) from zX); have g_ := (zQ HR392.out HB.out); rw [hlx_] at g_; exact g_) | (rw [← show (l0_1.drop ((x5_3.length : Int) : Int).toNat).length = (l0_1.length - (x5_3.length : Int).toNat) from zX]; repeat (first | exact (zQ HR392.out HB.out) | (with_reducible refine zR ?_ _) | (with_reducible refine zS ?_ _) | (with_reducible refine zT ?_))) | (repeat (first | exact (zQ HR392.out HB.out) | (with_reducible refine zR ?_ _) | (with_reducible refine zS ?_ _) | (with_reducible refine zT ?_)))); (case aB => exact (wB GE380.out)); (case aF => exact (fun k_ hk => (yI (zV (wB GE380.out)) hk))); (case aO => exact (wK HO391.out)); (case aS => exact (zV (wB GE380.out))); (case aL => have := LMc20.out; have hlx_ := (show (l0_1.drop ((x5_3.length : Int) : Int).toNat).length = (l0_1.length - (x5_3.length : Int).toNat) from zX); omega); intro v394 w26 ho hb hg hat; rw [← Ny393.out] at ho; have n0_ := zA (Kd.V_afterv (ok := (fun k_ => (P0_2_ k_ ∨ w.heap.size ≤ k_) ∧ k_ ≠ gb380)) (wL HO_381002.out) hg hat); have n1_ := zA (blk_grown (g := gb380) (o := .cells #[.bool true, .slice A0_1 l0_1.length c0_1, .slice A0_2 l0_2.length c0_2] 56 (0, 0)) (wJ BK380.out) hg (Kd.R_ne HO391.out BK380.out (by decide))); have n2_ := zA (hb); have n3_ := zA (ho); clear HO_381002; clear BK380; clear HB; clear HO391; have HO_381002 := n0_; have BK380 := n1_; have HB := n2_; have HO395 := n3_; clear n0_ n1_ n2_ n3_; clear ho hb hg hat; obtain ⟨Ao27, co27, eo27⟩ := Kd.R_slice HO395.out; subst eo27) | ((with_reducible refine gate_callee (f := 74) rfl ?_); refine goesL_ (some 50) rfl rfl Try.func74 (by kernel_rfl) rfl #[.agg #[.bool true, .slice Ao27 y393.length co27, .slice none 0 0]] rfl wH ?_; (refine (spec_l3Split.calls true (fun k_ => some k_ = (.slice Ao27 y393.length co27 : Value).ownBlock) _ _ y393 (fun k_ => False) _ _ ([] : List (S56)) t396 _ ?side1 ?side2 A21.out).mono ?_); (case side1 => exact Kd.R_V (Kd.R_tight rfl (Kd.R_types (HO395.out) BK380.out (by decide)))); (case side2 => exact Kd.V_nil _ _ _ _ _); rintro e w28 ⟨v397, rfl, ho0, hb⟩; refine ⟨_, rfl, ?_⟩; have n0_ := zA (Kd.V_elder' (wL HO_381002.out) (Kd.N_base ho0) hb); have n1_ := zA (Kd.R_below (wK HO395.out) hb); have n2_ := zA (Kd.N_lower (yC (ok' := fun k_ => (P0_2_ k_ ∨ w.heap.size ≤ k_) ∧ k_ ≠ gb380) ho0 (fun k_ hk_ => ⟨Or.elim hk_ (fun hs_ => Or.elim hs_ (fun hs_ => (.inr (((Kd.R_types (HO395.out) BK380.out (by decide)).1 k_ hs_.symm).1))) (fun hs_ => (hs_).elim)) (fun hn_ => (.inr (yI (zV (wB GE380.out)) hn_))), Or.elim hk_ (fun hs_ => Or.elim hs_ (fun hs_ => ((Kd.R_types (HO395.out) BK380.out (by decide)).1 k_ hs_.symm).2) (fun hs_ => (hs_).elim)) (fun hn_ => (Kd.freshB (g := gb380) (o := .cells #[.bool true, .slice A0_1 l0_1.length c0_1, .slice A0_2 l0_2.length c0_2] 56 (0, 0)) (wJ BK380.out) k_ hn_))⟩)) (zV (wB GE380.out))); have n3_ := zA (zH (g := gb380) (o := .cells #[.bool true, .slice A0_1 l0_1.length c0_1, .slice A0_2 l0_2.length c0_2] 56 (0, 0)) (wJ BK380.out) hb); have n4_ := zA (zU (wB GE380.out) hb); clear HO_381002; clear HO395; clear BK380; clear HB; have HO_381002 := n0_; have HO395 := n1_; have HO398 := n2_; have BK380 := n3_; have HB := n4_; clear n0_ n1_ n2_ n3_ n4_; (try clear hb); (try clear hb2); (try clear hk); (try clear hi); (try clear ho0)))
              go_ret
              exact ⟨_, wG, by (with_reducible repeat (first | apply Kd.N_alloc | apply Kd.N_drewN | apply Kd.N_drew)); exact yC HO398.out (fun _ hk => hk.1), wB GE380.out⟩
            · rw [if_neg c20] at H
              exact absurd H (by simp)
          · rw [if_neg c19] at H
            exact absurd H (by simp)
         ·rw [if_neg c18] at H
          exact absurd H (by simp)
       · rw [if_neg c17] at H
         exact absurd H (by simp)
 · replace c3 := Bool.eq_false_iff.mpr c3
   subst c3
   have H1 : ((spec_l3Child.f k false l0_1 l0_2 a1).bind fun t399 => ((some (([] : List (S56)) : List (S56))).bind fun y400 => (if 0 ≤ t399 then (if t399 ≤ (l0_2.length : Int) then ((some (l0_2.take (t399 : Int).toNat : List (S56))).bind fun y403 => (if y400.length + y403.length < 2513169434916 then ((some (y400 ++ y403 : List (S56))).bind fun y408 => (if t399 < (l0_2.length : Int) then ((spec_l3Ins.f k ((rd_T56 l0_2 t399).f0) ((rd_T56 l0_2 t399).f1) ((rd_T56 l0_2 t399).f2) a1).bind fun t412 => (if y408.length + t412.length < 2513169434916 then ((some (y408 ++ t412 : List (S56))).bind fun y415 => (if 0 ≤ (wrap64 (t399 + 1)) then (if (wrap64 (t399 + 1)) ≤ (l0_2.length : Int) then ((some (l0_2.drop ((wrap64 (t399 + 1)) : Int).toNat : List (S56))).bind fun y418 => (if y415.length + y418.length < 2513169434916 then ((spec_l3Split.f false ([] : List ByteArray) (y415 ++ y418)).bind fun t426 => (some t426)) else (none))) else (none)) else (none))) else (none))) else (none))) else (none))) else (none)) else (none)))) = some r := by rw [if_neg (show ¬ (false = true) by decide)] at H; exact H
   clear H
   have H := H1
   clear H1
   replace H := Option.bind_eq_some_iff.mp H
   obtain ⟨t399, A290, H⟩ := H
   replace H : ((some (([] : List (S56)) : List (S56))).bind fun y400 => (if 0 ≤ t399 then (if t399 ≤ (l0_2.length : Int) then ((some (l0_2.take (t399 : Int).toNat : List (S56))).bind fun y403 => (if y400.length + y403.length < 2513169434916 then ((some (y400 ++ y403 : List (S56))).bind fun y408 => (if t399 < (l0_2.length : Int) then ((spec_l3Ins.f k ((rd_T56 l0_2 t399).f0) ((rd_T56 l0_2 t399).f1) ((rd_T56 l0_2 t399).f2) a1).bind fun t412 => (if y408.length + t412.length < 2513169434916 then ((some (y408 ++ t412 : List (S56))).bind fun y415 => (if 0 ≤ (wrap64 (t399 + 1)) then (if (wrap64 (t399 + 1)) ≤ (l0_2.length : Int) then ((some (l0_2.drop ((wrap64 (t399 + 1)) : Int).toNat : List (S56))).bind fun y418 => (if y415.length + y418.length < 2513169434916 then ((spec_l3Split.f false ([] : List ByteArray) (y415 ++ y418)).bind fun t426 => (some t426)) else (none))) else (none)) else (none))) else (none))) else (none))) else (none))) else (none)) else (none))) = some r := H
   have A29 := zA A290
   clear A290
   obtain ⟨y400, hy400⟩ : ∃ y_ : List (S56), y_ = (([] : List (S56))) := ⟨_, rfl⟩
   replace H : (if 0 ≤ t399 then (if t399 ≤ (l0_2.length : Int) then ((some (l0_2.take (t399 : Int).toNat : List (S56))).bind fun y403 => (if y400.length + y403.length < 2513169434916 then ((some (y400 ++ y403 : List (S56))).bind fun y408 => (if t399 < (l0_2.length : Int) then ((spec_l3Ins.f k ((rd_T56 l0_2 t399).f0) ((rd_T56 l0_2 t399).f1) ((rd_T56 l0_2 t399).f2) a1).bind fun t412 => (if y408.length + t412.length < 2513169434916 then ((some (y408 ++ t412 : List (S56))).bind fun y415 => (if 0 ≤ (wrap64 (t399 + 1)) then (if (wrap64 (t399 + 1)) ≤ (l0_2.length : Int) then ((some (l0_2.drop ((wrap64 (t399 + 1)) : Int).toNat : List (S56))).bind fun y418 => (if y415.length + y418.length < 2513169434916 then ((spec_l3Split.f false ([] : List ByteArray) (y415 ++ y418)).bind fun t426 => (some t426)) else (none))) else (none)) else (none))) else (none))) else (none))) else (none))) else (none)) else (none)) = some r := wO hy400 H
   have Ny400 := zA hy400
   clear hy400
   by_cases c30 : 0 ≤ t399
   · rw [if_pos c30] at H
     have c30b0 := eq_true c30
     have c30b1 : decide (0 ≤ t399) = true := zJ c30
     clear c30
     by_cases c31 : t399 ≤ (l0_2.length : Int)
     · rw [if_pos c31] at H
       have c31b0 := eq_true c31
       have c31b1 : decide (t399 ≤ (l0_2.length : Int)) = true := zJ c31
       clear c31
       obtain ⟨y403, hy403⟩ : ∃ y_ : List (S56), y_ = (l0_2.take (t399 : Int).toNat) := ⟨_, rfl⟩
       replace H : (if y400.length + y403.length < 2513169434916 then ((some (y400 ++ y403 : List (S56))).bind fun y408 => (if t399 < (l0_2.length : Int) then ((spec_l3Ins.f k ((rd_T56 l0_2 t399).f0) ((rd_T56 l0_2 t399).f1) ((rd_T56 l0_2 t399).f2) a1).bind fun t412 => (if y408.length + t412.length < 2513169434916 then ((some (y408 ++ t412 : List (S56))).bind fun y415 => (if 0 ≤ (wrap64 (t399 + 1)) then (if (wrap64 (t399 + 1)) ≤ (l0_2.length : Int) then ((some (l0_2.drop ((wrap64 (t399 + 1)) : Int).toNat : List (S56))).bind fun y418 => (if y415.length + y418.length < 2513169434916 then ((spec_l3Split.f false ([] : List ByteArray) (y415 ++ y418)).bind fun t426 => (some t426)) else (none))) else (none)) else (none))) else (none))) else (none))) else (none)) = some r := wO hy403 H
       have Ny403 := zA hy403
       clear hy403
       by_cases c32 : y400.length + y403.length < 2513169434916
       · rw [if_pos c32] at H
         have LMc32 := zA c32
         clear c32
         obtain ⟨y408, hy408⟩ : ∃ y_ : List (S56), y_ = (y400 ++ y403) := ⟨_, rfl⟩
         replace H : (if t399 < (l0_2.length : Int) then ((spec_l3Ins.f k ((rd_T56 l0_2 t399).f0) ((rd_T56 l0_2 t399).f1) ((rd_T56 l0_2 t399).f2) a1).bind fun t412 => (if y408.length + t412.length < 2513169434916 then ((some (y408 ++ t412 : List (S56))).bind fun y415 => (if 0 ≤ (wrap64 (t399 + 1)) then (if (wrap64 (t399 + 1)) ≤ (l0_2.length : Int) then ((some (l0_2.drop ((wrap64 (t399 + 1)) : Int).toNat : List (S56))).bind fun y418 => (if y415.length + y418.length < 2513169434916 then ((spec_l3Split.f false ([] : List ByteArray) (y415 ++ y418)).bind fun t426 => (some t426)) else (none))) else (none)) else (none))) else (none))) else (none)) = some r := wO hy408 H
         have Ny408 := zA hy408
         clear hy408
         by_cases c33 : t399 < (l0_2.length : Int)
         ·rw [if_pos c33] at H
          have c33b0 : decide (t399 < (l0_2.length : Int)) = true := zJ c33
          clear c33
          replace H := Option.bind_eq_some_iff.mp H
          obtain ⟨t412, A340, H⟩ := H
          replace H : (if y408.length + t412.length < 2513169434916 then ((some (y408 ++ t412 : List (S56))).bind fun y415 => (if 0 ≤ (wrap64 (t399 + 1)) then (if (wrap64 (t399 + 1)) ≤ (l0_2.length : Int) then ((some (l0_2.drop ((wrap64 (t399 + 1)) : Int).toNat : List (S56))).bind fun y418 => (if y415.length + y418.length < 2513169434916 then ((spec_l3Split.f false ([] : List ByteArray) (y415 ++ y418)).bind fun t426 => (some t426)) else (none))) else (none)) else (none))) else (none)) = some r := H
          have A34 := zA A340
          clear A340
          by_cases c35 : y408.length + t412.length < 2513169434916
          · rw [if_pos c35] at H
            have LMc35 := zA c35
            clear c35
            obtain ⟨y415, hy415⟩ : ∃ y_ : List (S56), y_ = (y408 ++ t412) := ⟨_, rfl⟩
            replace H : (if 0 ≤ (wrap64 (t399 + 1)) then (if (wrap64 (t399 + 1)) ≤ (l0_2.length : Int) then ((some (l0_2.drop ((wrap64 (t399 + 1)) : Int).toNat : List (S56))).bind fun y418 => (if y415.length + y418.length < 2513169434916 then ((spec_l3Split.f false ([] : List ByteArray) (y415 ++ y418)).bind fun t426 => (some t426)) else (none))) else (none)) else (none)) = some r := wO hy415 H
            have Ny415 := zA hy415
            clear hy415
            obtain ⟨ji36, hji36⟩ : ∃ j_ : Int, (wrap64 (t399 + 1)) = j_ := ⟨_, rfl⟩
            replace H : (if 0 ≤ (ji36) then (if (ji36) ≤ (l0_2.length : Int) then ((some (l0_2.drop ((ji36) : Int).toNat : List (S56))).bind fun y418 => (if y415.length + y418.length < 2513169434916 then ((spec_l3Split.f false ([] : List ByteArray) (y415 ++ y418)).bind fun t426 => (some t426)) else (none))) else (none)) else (none)) = some r := by first | (rw [hji36] at H; exact H) | (simp only [hji36] at H ⊢; exact H)
            (try rw [hji36] at A29)
            (try rw [hji36] at A34)
            have hji36w : (IntKind.i64.wrap (t399 + 1)) = ji36 := (i64_w _).trans hji36
            by_cases c37 : 0 ≤ (ji36)
            · rw [if_pos c37] at H
              have c37b0 := eq_true c37
              have c37b1 : decide (0 ≤ (ji36)) = true := zJ c37
              clear c37
              by_cases c38 : (ji36) ≤ (l0_2.length : Int)
              ·rw [if_pos c38] at H
               have c38b0 := eq_true c38
               have c38b1 : decide ((ji36) ≤ (l0_2.length : Int)) = true := zJ c38
               clear c38
               obtain ⟨y418, hy418⟩ : ∃ y_ : List (S56), y_ = (l0_2.drop ((ji36) : Int).toNat) := ⟨_, rfl⟩
               replace H : (if y415.length + y418.length < 2513169434916 then ((spec_l3Split.f false ([] : List ByteArray) (y415 ++ y418)).bind fun t426 => (some t426)) else (none)) = some r := wO hy418 H
               have Ny418 := zA hy418
               clear hy418
               by_cases c39 : y415.length + y418.length < 2513169434916
               ·rw [if_pos c39] at H
                have LMc39 := zA c39
                clear c39
                obtain ⟨y423, hy423⟩ : ∃ y_ : List (S56), y_ = (y415 ++ y418) := ⟨_, rfl⟩
                replace H : ((spec_l3Split.f false ([] : List ByteArray) y423).bind fun t426 => (some t426)) = some r := wO hy423 H
                have Ny423 := zA hy423
                clear hy423
                replace H := Option.bind_eq_some_iff.mp H
                obtain ⟨t426, A400, H⟩ := H
                replace H : (some t426) = some r := H
                have A40 := zA A400
                clear A400
                obtain rfl := zL H
                go_enter Try.func54, Try.ntmps54
                go_wp2_with (first | ((with_reducible refine gate_dst (N := 2) rfl ?_); refine box_event ?hg (N := 2) ?hd (cs := #[.bool false, .slice A0_1 l0_1.length c0_1, .slice A0_2 l0_2.length c0_2]) (t := 56) ?hr ?_; (case hd => rfl); (case hg => rfl); (case hr => first | (go_simp; done) | (go_simp; rfl)); intro gb380 hg w41 hbox hb; have n0_ := zA (Kd.V_below (Kd.V_elderB (wL HO0_2.out) gb380 (Nat.le_of_eq hg.symm)) hb); have n1_ := zA (zU wA hb); have n2_ := zA (hbox); have n3_ := zA ((by rw [hg]; exact (zV wA) : w.heap.size ≤ gb380)); have n4_ := zA ((by rw [hg]; exact (zV wA) : w.heap.size ≤ gb380)); clear HO0_2; clear HB; have HO0_2 := n0_; have HB := n1_; have BK380 := n2_; have GW380 := n3_; have GE380 := n4_; clear n0_ n1_ n2_ n3_ n4_; clear hb hbox hg; have hcz42_0 : w41.cell? ⟨gb380, 0, none⟩ = some (.bool false) := (blk_cell BK380.out 0).trans rfl; have hcz42_1 : w41.cell? ⟨gb380, 1, none⟩ = some (.slice A0_1 l0_1.length c0_1) := (blk_cell BK380.out 1).trans rfl; have hcz42_2 : w41.cell? ⟨gb380, 2, none⟩ = some (.slice A0_2 l0_2.length c0_2) := (blk_cell BK380.out 2).trans rfl; have hfz42_0 := zG BK380.out 0; have hfz42_1 := zG BK380.out 1; have hfz42_2 := zG BK380.out 2) | ((with_reducible refine gate_callee (f := 75) rfl ?_); refine goesL_ (some 53) rfl rfl Try.func75 (by kernel_rfl) rfl #[.agg #[.bool false, .slice A0_1 l0_1.length c0_1, .slice A0_2 l0_2.length c0_2], .string a1] rfl wH ?_; (with_reducible refine (spec_l3Child.calls k false _ _ l0_1 _ _ l0_2 a1 t399 _ ?side1 ?side2 ?side3 ?side4 A29.out).mono ?_); (case side1 => repeat (first | exact (zQ HR0_1.out HB.out) | (with_reducible refine zR ?_ _) | (with_reducible refine zS ?_ _) | (with_reducible refine zT ?_))); (case side2 => exact HC0_1.out); (case side3 => repeat (first | exact (Kd.V_reads' HO0_2.out).2.2 | (with_reducible refine zR ?_ _) | (with_reducible refine zS ?_ _) | (with_reducible refine zT ?_))); (case side4 => exact (Kd.V_reads' HO0_2.out).2.1); rintro e w43 ⟨rfl, hb⟩; refine ⟨_, rfl, ?_⟩; have n0_ := zA (Kd.V_below (wL HO0_2.out) hb); have n1_ := zA (zH (g := gb380) (o := .cells #[.bool false, .slice A0_1 l0_1.length c0_1, .slice A0_2 l0_2.length c0_2] 56 (0, 0)) (wJ BK380.out) hb); have n2_ := zA (zU (wB GE380.out) hb); clear HO0_2; clear BK380; clear HB; have HO0_2 := n0_; have BK380 := n1_; have HB := n2_; clear n0_ n1_ n2_; (try clear hb); (try clear hb2); (try clear hk); (try clear hi)) | ((with_reducible refine gate_dst (N := 54) rfl ?_); refine Kd.N_lit k56 _ 56 ?hg (N' := 54) ?hd (xs := ([] : List (S56))) (inner := []) (ok := (fun k_ => (P0_2_ k_ ∨ w.heap.size ≤ k_) ∧ k_ ≠ gb380)) (okp := (fun k_ => (P0_2_ k_ ∨ w.heap.size ≤ k_) ∧ k_ ≠ gb380)) ?hr ?hp (fun _ hk => hk) ((show ∀ k_, w43.heap.size ≤ k_ → (fun k_ => (P0_2_ k_ ∨ w.heap.size ≤ k_) ∧ k_ ≠ gb380) k_ from fun k_ hk => ⟨(.inr (yI (zV (wB GE380.out)) hk)), Kd.freshB (g := gb380) (o := .cells #[.bool false, .slice A0_1 l0_1.length c0_1, .slice A0_2 l0_2.length c0_2] 56 (0, 0)) (wJ BK380.out) k_ hk⟩) _ (zY _)) (zZ _ _) (zY _) (by simp) ?_; (case hd => rfl); (case hg => rfl); (case hr => first | (go_simp; done) | (go_simp; rfl)); (case hp => exact (Reps.none _ _)); intro v401 w44 ho45 hb hg_ hnew_; clear hg_ hnew_; (first | rw [← Ny400.out] at ho45 | (simp only [Int.reduceToNat] at ho45; rw [← Ny400.out] at ho45)); have n0_ := zA (Kd.V_elder' (wL HO0_2.out) (Kd.N_base ho45) hb); have n1_ := zA (Kd.N_lower ho45 (zV (wB GE380.out))); have n2_ := zA (zH (g := gb380) (o := .cells #[.bool false, .slice A0_1 l0_1.length c0_1, .slice A0_2 l0_2.length c0_2] 56 (0, 0)) (wJ BK380.out) hb); have n3_ := zA (zU (wB GE380.out) hb); clear HO0_2; clear BK380; clear HB; have HO0_2 := n0_; have HO402 := n1_; have BK380 := n2_; have HB := n3_; clear n0_ n1_ n2_ n3_; clear hb ho45; have hcz46_0 : w44.cell? ⟨gb380, 0, none⟩ = some (.bool false) := (blk_cell BK380.out 0).trans rfl; have hcz46_1 : w44.cell? ⟨gb380, 1, none⟩ = some (.slice A0_1 l0_1.length c0_1) := (blk_cell BK380.out 1).trans rfl; have hcz46_2 : w44.cell? ⟨gb380, 2, none⟩ = some (.slice A0_2 l0_2.length c0_2) := (blk_cell BK380.out 2).trans rfl; have hfz46_0 := zG BK380.out 0; have hfz46_1 := zG BK380.out 1; have hfz46_2 := zG BK380.out 2; have q47 : (t399 : Int) ≤ ((l0_2.length : Int) : Int) := zI wE; obtain ⟨i047, hi047, _, hsz47, _⟩ := info_parts info56; have hroom47 : l0_2.length ≤ c0_2 := (Kd.V_reads' HO0_2.out).2.1; have hC47 : Kd.F k56 _ _ A0_2 l0_2.length l0_2 := (Kd.V_at (base := w.heap.size) HO0_2.out).2.2; have hcut47 := cut_to (P := Try.prog) 54 56 .i64 Try.underlying54 hi047 A0_2 l0_2.length c0_2 t399 (zI wE) q47 hroom47; have hr47 := Kd.F_take (m := (t399 : Int).toNat) hC47 (by omega); have hy47 : y403.length = (t399 : Int).toNat := (by rw [Ny403.out, zW]; omega); rw [← Ny403.out] at hr47; rw [← hy47] at hcut47; have HO407 := zA (show Kd.V k56 56 _ w.heap.size _ (.slice A0_2 y403.length c0_2) y403 from Kd.V_mk (by omega) hr47); have HC407 := zA (show y403.length ≤ c0_2 from by omega); clear hr47 hC47 hroom47 hi047 hsz47; have KY47 := zA hy47; clear hy47; replace q47 := eq_true q47) | ((with_reducible refine gate_builtin (b := .append) (xs := #[.tmp 54, .tmp 58]) rfl ?_); at_builtin; refine Kd.N_append_rows k56 (w0 := w) w.heap.size rfl (.tmp 54) (.tmp 58) 54 56 (.agg #[(.bool false), (.slice none 0 0), (.slice none 0 0)]) 56 rfl Try.underlying54 info56 rfl (by decide) (by omega) v401 y400 y403 _ _ _ (fun k_ => (P0_2_ k_ ∨ w.heap.size ≤ k_) ∧ k_ ≠ gb380) (fun k_ => ((fun k_ => (P0_2_ k_ ∨ w.heap.size ≤ k_) ∧ k_ ≠ gb380)) k_ ∧ some k_ ≠ (v401 : Value).ownBlock) rfl rfl ?aO ?aR (fun _ hk => hk) ?aF ?aB ?aS ?aL ?_; (case aR => exact (by skip; exact Kd.V_F (Kd.V_mono (ok' := (fun k_ => ((fun k_ => (P0_2_ k_ ∨ w.heap.size ≤ k_) ∧ k_ ≠ gb380)) k_ ∧ some k_ ≠ (v401 : Value).ownBlock)) (HO407.out) (fun k_ hk => ⟨⟨hk.1.1, hk.1.2⟩, hk.2⟩)))); (case aB => exact (wB GE380.out)); (case aF => exact (fun k_ hk => ⟨(.inr (yI (zV (wB GE380.out)) hk)), Kd.freshB (g := gb380) (o := .cells #[.bool false, .slice A0_1 l0_1.length c0_1, .slice A0_2 l0_2.length c0_2] 56 (0, 0)) (wJ BK380.out) k_ hk⟩)); (case aO => exact (wN HO402.out)); (case aS => exact (zV (wB GE380.out))); (case aL => have := LMc32.out; omega); intro v409 w48 ho hb hg hat; rw [← Ny408.out] at ho; have n0_ := zA (Kd.V_afterv (ok := (fun k_ => (P0_2_ k_ ∨ w.heap.size ≤ k_) ∧ k_ ≠ gb380)) (wL HO0_2.out) hg hat); have n1_ := zA (blk_grown (g := gb380) (o := .cells #[.bool false, .slice A0_1 l0_1.length c0_1, .slice A0_2 l0_2.length c0_2] 56 (0, 0)) (wJ BK380.out) hg (Kd.N_away HO402.out (fun _ hk => hk.2))); have n2_ := zA (Kd.V_afterv (ok := (fun k_ => (P0_2_ k_ ∨ w.heap.size ≤ k_) ∧ k_ ≠ gb380)) (wL HO407.out) hg hat); have n3_ := zA (hb); have n4_ := zA (ho); clear HO0_2; clear BK380; clear HO407; clear HB; clear HO402; have HO0_2 := n0_; have BK380 := n1_; have HO407 := n2_; have HB := n3_; have HO410 := n4_; clear n0_ n1_ n2_ n3_ n4_; clear ho hb hg hat; have hcz49_0 : w48.cell? ⟨gb380, 0, none⟩ = some (.bool false) := (blk_cell BK380.out 0).trans rfl; have hcz49_1 : w48.cell? ⟨gb380, 1, none⟩ = some (.slice A0_1 l0_1.length c0_1) := (blk_cell BK380.out 1).trans rfl; have hcz49_2 : w48.cell? ⟨gb380, 2, none⟩ = some (.slice A0_2 l0_2.length c0_2) := (blk_cell BK380.out 2).trans rfl; have hfz49_0 := zG BK380.out 0; have hfz49_1 := zG BK380.out 1; have hfz49_2 := zG BK380.out 2; have p411 : 0 ≤ (t399 : Int) := zI wE; have q411 : t399 < (l0_2.length : Int) := zI wE; obtain ⟨ad411, A411_1, c411_1, A411_2, c411_2, e411, hx411_0, hx411_1, hx411_2, hl411_1, hi411_1, hl411_2, hi411_2⟩ := at_T56 (Kd.V_reads' HO0_2.out).2.2 t399 p411 q411; cases e411; obtain ⟨ce411, hce411, hMe411, hcc411⟩ := Kd.V_get HO0_2.out z56 t399 p411 (by first | exact q411 | exact zI wE | (have e_ := (Kd.V_reads' HO0_2.out).1; omega)); obtain ⟨ua411_1, uc411_1, ua411_2, uc411_2, rfl, ul411_1, ge411_1, ul411_2, ge411_2⟩ := k56_openF hMe411; have hv411_1 := hcc411 1 _ rfl; rw [add_field _ _ 1 (by omega)] at hv411_1; replace hv411_1 := zL (hv411_1.symm.trans hx411_1); injection hv411_1 with hva_ hvn_ hvc_; rw [hva_] at ge411_1; rw [hvc_] at ul411_1; have HL411_1 := zA (show Kd.V Kd.string 9 _ w.heap.size _ _ ((rd_T56 l0_2 t399).f1) from Kd.V_mk ul411_1 ge411_1); clear hva_ hvn_ hvc_ ge411_1 ul411_1; have hv411_2 := hcc411 2 _ rfl; rw [add_field _ _ 2 (by omega)] at hv411_2; replace hv411_2 := zL (hv411_2.symm.trans hx411_2); injection hv411_2 with hva_ hvn_ hvc_; rw [hva_] at ge411_2; rw [hvc_] at ul411_2; have HL411_2 := zA (show Kd.V k56 56 _ w.heap.size _ _ ((rd_T56 l0_2 t399).f2) from Kd.V_mk ul411_2 ge411_2); clear hva_ hvn_ hvc_ ge411_2 ul411_2; clear hcc411 hce411; have HR411_1 := zA hi411_1; have HC411_1 := zA hl411_1; clear hi411_1 hl411_1; have HR411_2 := zA hi411_2; have HC411_2 := zA hl411_2; clear hi411_2 hl411_2; replace p411 := eq_true p411; replace q411 := eq_true q411) | ((with_reducible refine gate_callee (f := 54) rfl ?_); refine goesL_ (some 67) rfl rfl Try.func54 (by kernel_rfl) rfl #[.agg #[.bool ((rd_T56 l0_2 t399).f0), .slice A411_1 ((rd_T56 l0_2 t399).f1).length c411_1, .slice A411_2 ((rd_T56 l0_2 t399).f2).length c411_2], .string a1] rfl wH ?_; (with_reducible refine (ih k (by omega) ((rd_T56 l0_2 t399).f0) _ _ ((rd_T56 l0_2 t399).f1) (fun k_ => (((P0_2_ k_ ∨ w.heap.size ≤ k_) ∧ k_ ≠ gb380) ∧ some k_ ≠ (v409 : Value).ownBlock)) _ _ ((rd_T56 l0_2 t399).f2) a1 t412 _ ?side1 ?side2 ?side3 A34.out).mono ?_); (case side1 => repeat (first | exact (by repeat (first | (with_reducible exact HR411_1.out) | (with_reducible refine zR ?_ _) | (with_reducible refine zS ?_ _) | (with_reducible refine zT ?_) | exact HR411_1.out)) | (with_reducible refine zR ?_ _) | (with_reducible refine zS ?_ _) | (with_reducible refine zT ?_))); (case side2 => exact HC411_1.out); (case side3 => exact HL411_2.out); rintro e w50 ⟨v413, rfl, ho0, hb⟩; refine ⟨_, rfl, ?_⟩; have n0_ := zA (Kd.V_elder' (wL HO0_2.out) (Kd.N_base ho0) hb); have n1_ := zA (Kd.V_elder' (wL HO407.out) (Kd.N_base ho0) hb); have n2_ := zA (Kd.N_elder' (wN HO410.out) (Kd.N_base ho0) hb); have n3_ := zA (Kd.V_elder' (wL HL411_1.out) (Kd.N_base ho0) hb); have n4_ := zA (Kd.V_elder' (wL HL411_2.out) (Kd.N_base ho0) hb); have n5_ := zA (Kd.N_lower (yC (ok' := fun k_ => (P0_2_ k_ ∨ w.heap.size ≤ k_) ∧ some k_ ≠ (v409 : Value).ownBlock ∧ k_ ≠ gb380) ho0 (fun k_ hk_ => ⟨Or.elim hk_ (fun hs_ => hs_.1.1) (fun hn_ => (.inr (yI (zV (wB GE380.out)) hn_))), Or.elim hk_ (fun hs_ => hs_.2) (fun hn_ => (Kd.fresh' (Kd.N_lt (wN HO410.out)) k_ hn_)), Or.elim hk_ (fun hs_ => hs_.1.2) (fun hn_ => (Kd.freshB (g := gb380) (o := .cells #[.bool false, .slice A0_1 l0_1.length c0_1, .slice (some ad411) l0_2.length c0_2] 56 (0, 0)) (wJ BK380.out) k_ hn_))⟩)) (zV (wB GE380.out))); have n6_ := zA (zH (g := gb380) (o := .cells #[.bool false, .slice A0_1 l0_1.length c0_1, .slice (some ad411) l0_2.length c0_2] 56 (0, 0)) (wJ BK380.out) hb); have n7_ := zA (zQ (by repeat (first | (with_reducible exact HR411_1.out) | (with_reducible refine zR ?_ _) | (with_reducible refine zS ?_ _) | (with_reducible refine zT ?_) | exact HR411_1.out)) hb); have n8_ := zA (zQ (by repeat (first | (with_reducible exact HR411_2.out) | (with_reducible refine zR ?_ _) | (with_reducible refine zS ?_ _) | (with_reducible refine zT ?_) | exact HR411_2.out)) hb); have n9_ := zA (zU (wB GE380.out) hb); clear HO0_2; clear HO407; clear HO410; clear HL411_1; clear HL411_2; clear BK380; clear HR411_1; clear HR411_2; clear HB; have HO0_2 := n0_; have HO407 := n1_; have HO410 := n2_; have HL411_1 := n3_; have HL411_2 := n4_; have HO414 := n5_; have BK380 := n6_; have HR411_1 := n7_; have HR411_2 := n8_; have HB := n9_; clear n0_ n1_ n2_ n3_ n4_ n5_ n6_ n7_ n8_ n9_; (try clear hb); (try clear hb2); (try clear hk); (try clear hi); (try clear ho0); obtain ⟨Ao52, co52, eo52⟩ := Kd.N_slice HO414.out; subst eo52) | ((with_reducible refine gate_builtin (b := .append) (xs := #[.tmp 60, .tmp 67]) rfl ?_); at_builtin; refine Kd.N_append_rows k56 (w0 := w) w.heap.size rfl (.tmp 60) (.tmp 67) 54 56 (.agg #[(.bool false), (.slice none 0 0), (.slice none 0 0)]) 56 rfl Try.underlying54 info56 rfl (by decide) (by omega) v409 y408 t412 _ _ _ (fun k_ => (P0_2_ k_ ∨ w.heap.size ≤ k_) ∧ k_ ≠ gb380) (fun k_ => ((fun k_ => (P0_2_ k_ ∨ w.heap.size ≤ k_) ∧ k_ ≠ gb380)) k_ ∧ some k_ ≠ (v409 : Value).ownBlock) rfl rfl ?aO ?aR (fun _ hk => hk) ?aF ?aB ?aS ?aL ?_; (case aR => exact (by skip; exact Kd.N_F (yC (ok' := (fun k_ => ((fun k_ => (P0_2_ k_ ∨ w.heap.size ≤ k_) ∧ k_ ≠ gb380)) k_ ∧ some k_ ≠ (v409 : Value).ownBlock)) (HO414.out) (fun k_ hk => ⟨⟨hk.1, hk.2.2⟩, hk.2.1⟩)))); (case aB => exact (wB GE380.out)); (case aF => exact (fun k_ hk => ⟨(.inr (yI (zV (wB GE380.out)) hk)), Kd.freshB (g := gb380) (o := .cells #[.bool false, .slice A0_1 l0_1.length c0_1, .slice (some ad411) l0_2.length c0_2] 56 (0, 0)) (wJ BK380.out) k_ hk⟩)); (case aO => exact (by (with_reducible repeat (first | apply Kd.N_alloc | apply Kd.N_drewN | apply Kd.N_drew)); exact yC HO410.out (fun _ hk => ⟨hk.1.1, hk.1.2⟩))); (case aS => exact (zV (wB GE380.out))); (case aL => have := LMc35.out; omega); intro v416 w51 ho hb hg hat; rw [← Ny415.out] at ho; have n0_ := zA (Kd.V_afterv (ok := (fun k_ => (P0_2_ k_ ∨ w.heap.size ≤ k_) ∧ some k_ ≠ (.slice Ao52 t412.length co52 : Value).ownBlock ∧ k_ ≠ gb380)) (by (with_reducible repeat (first | apply Kd.V_alloc | apply Kd.V_drewN | apply Kd.V_drew)); exact Kd.V_mono HO0_2.out (fun _ hk => ⟨⟨hk.1.1.1, ⟨hk.2, hk.1.1.2⟩⟩, hk.1.2⟩)) hg hat); have n1_ := zA (blk_grown (g := gb380) (o := .cells #[.bool false, .slice A0_1 l0_1.length c0_1, .slice (some ad411) l0_2.length c0_2] 56 (0, 0)) (wJ BK380.out) hg (Kd.N_away HO410.out (fun _ hk => hk.1.2))); have n2_ := zA (Kd.V_afterv (ok := (fun k_ => (P0_2_ k_ ∨ w.heap.size ≤ k_) ∧ some k_ ≠ (.slice Ao52 t412.length co52 : Value).ownBlock ∧ k_ ≠ gb380)) (by (with_reducible repeat (first | apply Kd.V_alloc | apply Kd.V_drewN | apply Kd.V_drew)); exact Kd.V_mono HO407.out (fun _ hk => ⟨⟨hk.1.1.1, ⟨hk.2, hk.1.1.2⟩⟩, hk.1.2⟩)) hg hat); have n3_ := zA (Kd.V_afterv (ok := (fun k_ => (P0_2_ k_ ∨ w.heap.size ≤ k_) ∧ some k_ ≠ (.slice Ao52 t412.length co52 : Value).ownBlock ∧ k_ ≠ gb380)) (by (with_reducible repeat (first | apply Kd.V_alloc | apply Kd.V_drewN | apply Kd.V_drew)); exact Kd.V_mono HL411_1.out (fun _ hk => ⟨⟨hk.1.1.1, ⟨hk.2, hk.1.1.2⟩⟩, hk.1.2⟩)) hg hat); have n4_ := zA (Kd.V_afterv (ok := (fun k_ => (P0_2_ k_ ∨ w.heap.size ≤ k_) ∧ some k_ ≠ (.slice Ao52 t412.length co52 : Value).ownBlock ∧ k_ ≠ gb380)) (by (with_reducible repeat (first | apply Kd.V_alloc | apply Kd.V_drewN | apply Kd.V_drew)); exact Kd.V_mono HL411_2.out (fun _ hk => ⟨⟨hk.1.1.1, ⟨hk.2, hk.1.1.2⟩⟩, hk.1.2⟩)) hg hat); have n5_ := zA (Kd.N_afterv (ok := (fun k_ => (P0_2_ k_ ∨ w.heap.size ≤ k_) ∧ k_ ≠ gb380)) (by (with_reducible repeat (first | apply Kd.N_alloc | apply Kd.N_drewN | apply Kd.N_drew)); exact yC HO414.out (fun _ hk => ⟨⟨hk.1, hk.2.2⟩, hk.2.1⟩)) hg hat); have n6_ := zA (hb); have n7_ := zA (ho); clear HO0_2; clear BK380; clear HO407; clear HL411_1; clear HL411_2; clear HO414; clear HB; clear HO410; have HO0_2 := n0_; have BK380 := n1_; have HO407 := n2_; have HL411_1 := n3_; have HL411_2 := n4_; have HO414 := n5_; have HB := n6_; have HO417 := n7_; clear n0_ n1_ n2_ n3_ n4_ n5_ n6_ n7_; clear ho hb hg hat; have hcz53_0 : w51.cell? ⟨gb380, 0, none⟩ = some (.bool false) := (blk_cell BK380.out 0).trans rfl; have hcz53_1 : w51.cell? ⟨gb380, 1, none⟩ = some (.slice A0_1 l0_1.length c0_1) := (blk_cell BK380.out 1).trans rfl; have hcz53_2 : w51.cell? ⟨gb380, 2, none⟩ = some (.slice (some ad411) l0_2.length c0_2) := (blk_cell BK380.out 2).trans rfl; have hfz53_0 := zG BK380.out 0; have hfz53_1 := zG BK380.out 1; have hfz53_2 := zG BK380.out 2; have q54 : ((ji36) : Int) ≤ ((l0_2.length : Int) : Int) := zI wE; obtain ⟨i054, hi054, _, hsz54, _⟩ := info_parts info56; have hroom54 : l0_2.length ≤ c0_2 := (Kd.V_reads' HO0_2.out).2.1; have hC54 : Kd.F k56 _ _ (some ad411) l0_2.length l0_2 := (Kd.V_at (base := w.heap.size) HO0_2.out).2.2; have q054 : (0 : Int) ≤ ((ji36) : Int) := zI wE; have hcut54 := cut_from (P := Try.prog) 54 56 .i64 Try.underlying54 hi054 3 hsz54 (some ad411) l0_2.length c0_2 (ji36) q054 q54; have hr54 := Kd.F_cut (m := ((ji36) : Int).toNat) (c := c0_2) hC54 (by omega) hroom54; obtain ⟨A54, hA54⟩ : ∃ A1, A1 = (if c0_2 = ((ji36) : Int).toNat then (some ad411) else ((some ad411) : Option Addr).map (·.add (((ji36) : Int).toNat * 3))) := ⟨_, rfl⟩; obtain ⟨c54, hc54⟩ : ∃ c1, c1 = c0_2 - ((ji36) : Int).toNat := ⟨_, rfl⟩; have hy54 : y418.length = l0_2.length - ((ji36) : Int).toNat := (by rw [Ny418.out, zX] <;> omega); rw [show (l0_2).drop ((ji36) : Int).toNat = y418 from Ny418.out.symm] at hr54; replace hr54 : Kd.F k56 _ _ A54 y418.length y418 := (by rw [hA54]; exact hr54); rw [← hy54, ← hA54, ← hc54] at hcut54; have HO422 := zA (show Kd.V k56 56 _ w.heap.size _ (.slice A54 y418.length c54) y418 from Kd.V_mk (by rw [hy54, hc54]; exact Nat.sub_le_sub_right hroom54 _) hr54); have HC422 := zA (show y418.length ≤ c54 from by rw [hy54, hc54]; exact Nat.sub_le_sub_right hroom54 _); clear hr54 hC54 hroom54 hi054 hsz54 hc54; have KY54 := zA hy54; have KA54 := zA hA54; clear hy54 hA54; replace q54 := eq_true q54) | ((with_reducible refine gate_builtin (b := .append) (xs := #[.tmp 69, .tmp 74]) rfl ?_); at_builtin; refine Kd.N_append_rows k56 (w0 := w) w.heap.size rfl (.tmp 69) (.tmp 74) 54 56 (.agg #[(.bool false), (.slice none 0 0), (.slice none 0 0)]) 56 rfl Try.underlying54 info56 rfl (by decide) (by omega) v416 y415 y418 _ _ _ (fun k_ => (P0_2_ k_ ∨ w.heap.size ≤ k_) ∧ k_ ≠ gb380) (fun k_ => ((fun k_ => (P0_2_ k_ ∨ w.heap.size ≤ k_) ∧ k_ ≠ gb380)) k_ ∧ some k_ ≠ (v416 : Value).ownBlock) rfl rfl ?aO ?aR (fun _ hk => hk) ?aF ?aB ?aS ?aL ?_; (case aR => exact (by skip; exact Kd.V_F (Kd.V_mono (ok' := (fun k_ => ((fun k_ => (P0_2_ k_ ∨ w.heap.size ≤ k_) ∧ k_ ≠ gb380)) k_ ∧ some k_ ≠ (v416 : Value).ownBlock)) (HO422.out) (fun k_ hk => ⟨⟨hk.1.1, hk.1.2.2⟩, hk.2⟩)))); (case aB => exact (wB GE380.out)); (case aF => exact (fun k_ hk => ⟨(.inr (yI (zV (wB GE380.out)) hk)), Kd.freshB (g := gb380) (o := .cells #[.bool false, .slice A0_1 l0_1.length c0_1, .slice (some ad411) l0_2.length c0_2] 56 (0, 0)) (wJ BK380.out) k_ hk⟩)); (case aO => exact (wN HO417.out)); (case aS => exact (zV (wB GE380.out))); (case aL => have := LMc39.out; omega); intro v424 w55 ho hb hg hat; rw [← Ny423.out] at ho; have n0_ := zA (Kd.V_afterv (ok := (fun k_ => (P0_2_ k_ ∨ w.heap.size ≤ k_) ∧ some k_ ≠ (.slice Ao52 t412.length co52 : Value).ownBlock ∧ k_ ≠ gb380)) (wL HO0_2.out) hg hat); have n1_ := zA (blk_grown (g := gb380) (o := .cells #[.bool false, .slice A0_1 l0_1.length c0_1, .slice (some ad411) l0_2.length c0_2] 56 (0, 0)) (wJ BK380.out) hg (Kd.N_away HO417.out (fun _ hk => hk.2))); have n2_ := zA (Kd.V_afterv (ok := (fun k_ => (P0_2_ k_ ∨ w.heap.size ≤ k_) ∧ some k_ ≠ (.slice Ao52 t412.length co52 : Value).ownBlock ∧ k_ ≠ gb380)) (wL HO407.out) hg hat); have n3_ := zA (Kd.V_afterv (ok := (fun k_ => (P0_2_ k_ ∨ w.heap.size ≤ k_) ∧ some k_ ≠ (.slice Ao52 t412.length co52 : Value).ownBlock ∧ k_ ≠ gb380)) (wL HL411_1.out) hg hat); have n4_ := zA (Kd.V_afterv (ok := (fun k_ => (P0_2_ k_ ∨ w.heap.size ≤ k_) ∧ some k_ ≠ (.slice Ao52 t412.length co52 : Value).ownBlock ∧ k_ ≠ gb380)) (wL HL411_2.out) hg hat); have n5_ := zA (Kd.N_afterv (ok := (fun k_ => (P0_2_ k_ ∨ w.heap.size ≤ k_) ∧ k_ ≠ gb380)) (wN HO414.out) hg hat); have n6_ := zA (Kd.V_afterv (ok := (fun k_ => (P0_2_ k_ ∨ w.heap.size ≤ k_) ∧ some k_ ≠ (.slice Ao52 t412.length co52 : Value).ownBlock ∧ k_ ≠ gb380)) (wL HO422.out) hg hat); have n7_ := zA (hb); have n8_ := zA (ho); clear HO0_2; clear BK380; clear HO407; clear HL411_1; clear HL411_2; clear HO414; clear HO422; clear HB; clear HO417; have HO0_2 := n0_; have BK380 := n1_; have HO407 := n2_; have HL411_1 := n3_; have HL411_2 := n4_; have HO414 := n5_; have HO422 := n6_; have HB := n7_; have HO425 := n8_; clear n0_ n1_ n2_ n3_ n4_ n5_ n6_ n7_ n8_; clear ho hb hg hat; obtain ⟨Ao56, co56, eo56⟩ := Kd.N_slice HO425.out; subst eo56) | ((with_reducible refine gate_callee (f := 74) rfl ?_); refine goesL_ (some 77) rfl rfl Try.func74 (by kernel_rfl) rfl #[.agg #[.bool false, .slice none 0 0, .slice Ao56 y423.length co56]] rfl wH ?_; (refine (spec_l3Split.calls false (fun k_ => False) _ _ ([] : List ByteArray) (fun k_ => ((P0_2_ k_ ∨ w.heap.size ≤ k_) ∧ k_ ≠ gb380)) _ _ y423 t426 _ ?side1 ?side2 A40.out).mono ?_); (case side1 => exact Kd.V_nil _ _ _ _ _); (case side2 => exact Kd.N_V (HO425.out)); rintro e w57 ⟨v427, rfl, ho0, hb⟩; refine ⟨_, rfl, ?_⟩; have n0_ := zA (Kd.V_elder' (wL HO0_2.out) (Kd.N_base ho0) hb); have n1_ := zA (Kd.V_elder' (wL HO407.out) (Kd.N_base ho0) hb); have n2_ := zA (Kd.V_elder' (wL HL411_1.out) (Kd.N_base ho0) hb); have n3_ := zA (Kd.V_elder' (wL HL411_2.out) (Kd.N_base ho0) hb); have n4_ := zA (Kd.N_elder' (wN HO414.out) (Kd.N_base ho0) hb); have n5_ := zA (Kd.V_elder' (wL HO422.out) (Kd.N_base ho0) hb); have n6_ := zA (Kd.N_elder' (wN HO425.out) (Kd.N_base ho0) hb); have n7_ := zA (Kd.N_lower (yC (ok' := fun k_ => (P0_2_ k_ ∨ w.heap.size ≤ k_) ∧ k_ ≠ gb380) ho0 (fun k_ hk_ => ⟨Or.elim hk_ (fun hs_ => Or.elim hs_ (fun hs_ => (hs_).elim) (fun hs_ => hs_.1)) (fun hn_ => (.inr (yI (zV (wB GE380.out)) hn_))), Or.elim hk_ (fun hs_ => Or.elim hs_ (fun hs_ => (hs_).elim) (fun hs_ => hs_.2)) (fun hn_ => (Kd.freshB (g := gb380) (o := .cells #[.bool false, .slice A0_1 l0_1.length c0_1, .slice (some ad411) l0_2.length c0_2] 56 (0, 0)) (wJ BK380.out) k_ hn_))⟩)) (zV (wB GE380.out))); have n8_ := zA (zH (g := gb380) (o := .cells #[.bool false, .slice A0_1 l0_1.length c0_1, .slice (some ad411) l0_2.length c0_2] 56 (0, 0)) (wJ BK380.out) hb); have n9_ := zA (zU (wB GE380.out) hb); clear HO0_2; clear HO407; clear HL411_1; clear HL411_2; clear HO414; clear HO422; clear HO425; clear BK380; clear HB; have HO0_2 := n0_; have HO407 := n1_; have HL411_1 := n2_; have HL411_2 := n3_; have HO414 := n4_; have HO422 := n5_; have HO425 := n6_; have HO428 := n7_; have BK380 := n8_; have HB := n9_; clear n0_ n1_ n2_ n3_ n4_ n5_ n6_ n7_ n8_ n9_; (try clear hb); (try clear hb2); (try clear hk); (try clear hi); (try clear ho0)))
                go_ret
                exact ⟨_, by first | rfl | (simp [errW_none, errW_some] <;> rfl) | (simp only [← hji36]; first | rfl | (simp [errW_none, errW_some] <;> rfl)) | (simp [*, errW_none, errW_some] <;> rfl), by (with_reducible repeat (first | apply Kd.N_alloc | apply Kd.N_drewN | apply Kd.N_drew)); exact yC HO428.out (fun _ hk => hk.1), wB GE380.out⟩
               ·rw [if_neg c39] at H
                exact absurd H (by simp)
              ·rw [if_neg c38] at H
               exact absurd H (by simp)
            · rw [if_neg c37] at H
              exact absurd H (by simp)
          · rw [if_neg c35] at H
            exact absurd H (by simp)
         ·rw [if_neg c33] at H
          exact absurd H (by simp)
       · rw [if_neg c32] at H
         exact absurd H (by simp)
     · rw [if_neg c31] at H
       exact absurd H (by simp)
   · rw [if_neg c30] at H
     exact absurd H (by simp)

/-! ### laws_eqTreeRes: function 28 -/
def laws_eqTreeRes.f (k : Nat) (a0_0 : Bool) (l0_1 : List (S90)) (a1_0 : Bool) (l1_1 : List (S90)) : Option (Bool) := if (a0_0 != a1_0) = true then (some false) else ((laws_eqTree.f k l0_1 l1_1).bind fun t455 => (if t455 = true then (some true) else (some false)))
set_option maxHeartbeats 4000000 in
set_option maxRecDepth 100000 in
theorem laws_eqTreeRes.calls (k : Nat) (a0_0 : Bool) (A0_1 : Option Addr) (c0_1 : Nat) (l0_1 : List (S90)) (a1_0 : Bool) (A1_1 : Option Addr) (c1_1 : Nat) (l1_1 : List (S90)) (r : Bool) (w : World) (hr0_1 : Kd.C k90 w A0_1 l0_1.length l0_1) (hc0_1 : l0_1.length ≤ c0_1) (hr1_1 : Kd.C k90 w A1_1 l1_1.length l1_1) (hc1_1 : l1_1.length ≤ c1_1) (h : laws_eqTreeRes.f k a0_0 l0_1 a1_0 l1_1 = some r) :
  Calls Try.prog 28 #[.agg #[.bool a0_0, .slice A0_1 l0_1.length c0_1], .agg #[.bool a1_0, .slice A1_1 l1_1.length c1_1]] w fun e w' => e = .returned (.bool r) ∧ Below w.heap.size w w' := by
 have hu := Try.underlying44
 have hu2 := Try.underlying24
 have hb0 : Below w.heap.size w ((w.alloc (.cells #[.bool a0_0, .slice A0_1 l0_1.length c0_1] 44)).alloc (.cells #[.bool a1_0, .slice A1_1 l1_1.length c1_1] 44)) := below_alloc (below_alloc (zZ _ _) _) _
 have K0 := zF (blk_new w (.cells #[.bool a0_0, .slice A0_1 l0_1.length c0_1] 44)) (.cells #[.bool a1_0, .slice A1_1 l1_1.length c1_1] 44)
 have K1 := blk_new (w.alloc (.cells #[.bool a0_0, .slice A0_1 l0_1.length c0_1] 44)) (.cells #[.bool a1_0, .slice A1_1 l1_1.length c1_1] 44)
 rw [show (w.alloc (.cells #[.bool a0_0, .slice A0_1 l0_1.length c0_1] 44)).heap.size = w.heap.size + 1 by simp] at K1
 have HK := zA K0
 have HK1 := zA K1
 have HB := zA hb0
 have C0 := zA (And.intro (zQ hr0_1 hb0) hc0_1)
 have C1 := zA (And.intro (zQ hr1_1 hb0) hc1_1)
 unfold laws_eqTreeRes.f at h
 have HH := zA h
 clear hb0 K0 K1 hr0_1 hc0_1 hr1_1 hc1_1 h
 go_enter Try.func28, Try.ntmps28
 go_upto_region 1 with (fail)
 generalize (w.alloc (.cells #[.bool a0_0, .slice A0_1 l0_1.length c0_1] 44)).alloc (.cells #[.bool a1_0, .slice A1_1 l1_1.length c1_1] 44) = W2 at *
 have x0 : W2.cell? ⟨w.heap.size, 0, none⟩ = some (.bool a0_0) := (blk_cell HK.out 0).trans rfl
 have x1 : W2.cell? ⟨w.heap.size, 1, none⟩ = some (.slice A0_1 l0_1.length c0_1) := (blk_cell HK.out 1).trans rfl
 have y0 : W2.cell? ⟨w.heap.size + 1, 0, none⟩ = some (.bool a1_0) := (blk_cell HK1.out 0).trans rfl
 have y1 : W2.cell? ⟨w.heap.size + 1, 1, none⟩ = some (.slice A1_1 l1_1.length c1_1) := (blk_cell HK1.out 1).trans rfl
 have h := HH.out
 clear HH
 by_cases c0 : (a0_0 != a1_0) = true
 ·rw [if_pos c0] at h
  injection h with h
  subst h
  have c2 : a0_0 ≠ a1_0 := by simpa using c0
  clear c0
  cases a0_0 <;> cases a1_0 <;> first | exact absurd rfl c2 | (clear c2; go_wp2_with fail; go_ret; exact ⟨rfl, HB.out⟩)
 ·rw [if_neg c0] at h
  have c1 : (a0_0 != a1_0) = false := by simpa using c0
  have c2 : a0_0 = a1_0 := by simpa using c0
  subst c2
  clear c0
  obtain ⟨t1, e1, h⟩ := Option.bind_eq_some_iff.mp h
  have E1 := zA e1
  have HH := zA h
  clear e1 h
  go_wp2_with fail
  refine (laws_eqTree.calls k _ _ _ _ _ _ t1 W2 C0.out.1 C0.out.2 C1.out.1 C1.out.2 E1.out).mono ?_
  rintro e W3 ⟨rfl, hb⟩
  have HB3 := zA (HB.out.trans ⟨hb.os, hb.tape, hb.output, hb.size, fun k hk => hb.block k (yJ hk HB.out.size)⟩)
  clear hb
  have h := HH.out
  clear HH
  cases t1 with
  | false =>
    injection h with h
    subst h
    go_wp2_with fail
    go_ret
    exact ⟨rfl, HB3.out⟩
  | true =>
    rw [if_pos rfl] at h
    injection h with h
    subst h
    go_wp2_with fail
    go_ret
    exact ⟨rfl, HB3.out⟩

/-! ### laws_heldInt64S: function 64 -/
def laws_heldInt64S.l0 : Nat → List Int → Int → Int → Option (Int)
 | 0, _, _, _ => none
 | k + 1, x0, x1, x5 => if x5 < (x0.length : Int) then (if 0 ≤ x5 then (if (rd x0 x5) = x1 then (laws_heldInt64S.l0 k x0 (wrap64 (x1 + 1)) (wrap64 (x5 + 1))) else (some (-1))) else (none)) else (some x1)
def laws_heldInt64S.f (k : Nat) (l0 : List Int) (a1 : Int) : Option (Int) := laws_heldInt64S.l0 k l0 a1 0
set_option maxHeartbeats 8000000 in
set_option maxRecDepth 100000 in
theorem laws_heldInt64S.calls (k : Nat) (A0 : Option Addr) (c0 : Nat) (l0 : List Int) (a1 : Int) (r : Int) (w : World) (hr0 : Kd.C (Kd.int .i64) w A0 l0.length l0) (hc0 : l0.length ≤ c0) (h : laws_heldInt64S.f k l0 a1 = some r) :
  Calls Try.prog 64 #[.slice A0 l0.length c0, .int .i64 a1] w fun e w' => e = .returned (.int .i64 r) ∧ Drawn0 w w' := by
 have HR0 := zA hr0
 have HC0 := zA hc0
 clear hr0 hc0
 have H : (laws_heldInt64S.l0 k l0 a1 0) = some r := h
 clear h
 have H' := zA H
 clear H
 go_enter Try.func64, Try.ntmps64
 go_wp2
 go_loopg [1, 5] k (fun kq v1 v5 w' => ∃ (x1_1 : Int) (x5_1 : Int), v1 = .int .i64 x1_1 ∧ v5 = .int .i64 x5_1 ∧ Aside0 (laws_heldInt64S.l0 kq l0 x1_1 x5_1 = some r) ∧ Aside0 (kq ≤ k) ∧ Drawn0 w w')
 case atStart => exact ⟨(a1), (0), wF, wF, H', ⟨zY _⟩, wI⟩
 case round =>
  clear H'
  try clear p2
  obtain ⟨x1_1, x5_1, rfl, rfl, HA, HK1, ⟨m1, rfl⟩⟩ := hrel
  cases gk with
  | zero => exact absurd HA.out (by simp [laws_heldInt64S.l0])
  | succ k1 =>
    have H := HA.out
    clear HA
    simp only [laws_heldInt64S.l0] at H
    by_cases c3 : x5_1 < (l0.length : Int)
    ·rw [if_pos c3] at H
     have c3b0 : decide (x5_1 < (l0.length : Int)) = true := zJ c3
     clear c3
     by_cases c4 : 0 ≤ x5_1
     ·rw [if_pos c4] at H
      have c4b0 : decide (0 ≤ x5_1) = true := zJ c4
      clear c4
      by_cases c5 : (rd l0 x5_1) = x1_1
      ·rw [if_pos c5] at H
       have c5b0 : ((rd l0 x5_1) == x1_1) = true := beq_iff_eq.mpr c5
       have c5b1 : ((rd l0 x5_1) != x1_1) = false := bne_eq_false_iff_eq.mpr c5
       clear c5
       have H' := zA H
       clear H
       have p457 : 0 ≤ (x5_1 : Int) := zI wE
       have q457 : x5_1 < (l0.length : Int) := zI wE
       obtain ⟨ad457, e457, hx457_0⟩ := Kd.at_int HR0.out x5_1 p457 q457
       cases e457
       replace p457 := eq_true p457
       replace q457 := eq_true q457
       go_wp2
       go_roundg k1
       case measure => have := HK1.out; omega
       case rel => exact ⟨(wrap64 (x1_1 + 1)), (wrap64 (x5_1 + 1)), wF, wF, H', ⟨by have := HK1.out; omega⟩, wI⟩
      ·rw [if_neg c5] at H
       have c5b0 : ((rd l0 x5_1) == x1_1) = false := beq_eq_false_iff_ne.mpr c5
       have c5b1 : ((rd l0 x5_1) != x1_1) = true := bne_iff_ne.mpr c5
       obtain rfl := zL H
       have p457 : 0 ≤ (x5_1 : Int) := zI wE
       have q457 : x5_1 < (l0.length : Int) := zI wE
       obtain ⟨ad457, e457, hx457_0⟩ := Kd.at_int HR0.out x5_1 p457 q457
       cases e457
       replace p457 := eq_true p457
       replace q457 := eq_true q457
       go_wp2
       go_ret
       exact ⟨wF, wI⟩
     ·rw [if_neg c4] at H
      exact absurd H (by simp)
    ·rw [if_neg c3] at H
     have c3b0 : decide (x5_1 < (l0.length : Int)) = false := zK c3
     clear c3
     obtain rfl := zL H
     go_wp2
     go_ret
     exact ⟨wF, wI⟩

/-! ### laws_heldTNodeS: function 42 -/
def laws_heldTNodeS.l0 : Nat → List (S90) → Int → Int → Option (Int)
 | 0, _, _, _ => none
 | k + 1, x0, x1, x5 => if x5 < (x0.length : Int) then (if 0 ≤ x5 then (if (((rd_T90 x0 x5).f0) != ((Int.tmod x1 3) == 0)) = true then (some (-1)) else ((laws_heldStringS.f k ((rd_T90 x0 x5).f1) (wrap64 (x1 + 1))).bind fun t460 => (if t460 < 0 then (some (-1)) else ((laws_heldInt64S.f k ((rd_T90 x0 x5).f2) t460).bind fun t462 => (if t462 < 0 then (some (-1)) else (if ((rd_T90 x0 x5).f3) = t462 then (laws_heldTNodeS.l0 k x0 (wrap64 (t462 + 1)) (wrap64 (x5 + 1))) else (some (-1)))))))) else (none)) else (some x1)
def laws_heldTNodeS.f (k : Nat) (l0 : List (S90)) (a1 : Int) : Option (Int) := laws_heldTNodeS.l0 k l0 a1 0
set_option maxHeartbeats 8000000 in
set_option maxRecDepth 100000 in
theorem laws_heldTNodeS.calls (k : Nat) (A0 : Option Addr) (c0 : Nat) (l0 : List (S90)) (a1 : Int) (r : Int) (w : World) (hr0 : Kd.C k90 w A0 l0.length l0) (hc0 : l0.length ≤ c0) (h : laws_heldTNodeS.f k l0 a1 = some r) :
  Calls Try.prog 42 #[.slice A0 l0.length c0, .int .i64 a1] w fun e w' => e = .returned (.int .i64 r) ∧ Below w.heap.size w w' := by
 have HR0 := zA hr0
 have HC0 := zA hc0
 clear hr0 hc0
 have HB := zA (zZ w.heap.size w)
 have H : (laws_heldTNodeS.l0 k l0 a1 0) = some r := h
 clear h
 have H' := zA H
 clear H
 go_enter Try.func42, Try.ntmps42
 go_wp2
 go_loopg [1, 5] k (fun kq v1 v5 w' => ∃ (x1_1 : Int) (x5_1 : Int), v1 = .int .i64 x1_1 ∧ v5 = .int .i64 x5_1 ∧ Aside0 (laws_heldTNodeS.l0 kq l0 x1_1 x5_1 = some r) ∧ Aside0 (kq ≤ k) ∧ Aside0 (Below w.heap.size w w'))
 case atStart => exact ⟨(a1), (0), wF, wF, H', ⟨zY _⟩, ⟨wA⟩⟩
 case round =>
  clear H'
  try clear p2
  obtain ⟨x1_1, x5_1, rfl, rfl, HA, HK1, HB⟩ := hrel
  cases gk with
  | zero => exact absurd HA.out (by simp [laws_heldTNodeS.l0])
  | succ k1 =>
    have H := HA.out
    clear HA
    simp only [laws_heldTNodeS.l0] at H
    by_cases c3 : x5_1 < (l0.length : Int)
    ·rw [if_pos c3] at H
     have c3b0 : decide (x5_1 < (l0.length : Int)) = true := zJ c3
     clear c3
     by_cases c4 : 0 ≤ x5_1
     ·rw [if_pos c4] at H
      have c4b0 : decide (0 ≤ x5_1) = true := zJ c4
      clear c4
      by_cases c5 : (((rd_T90 l0 x5_1).f0) != ((Int.tmod x1_1 3) == 0)) = true
      ·rw [if_pos c5] at H
       have c5b0 : (((rd_T90 l0 x5_1).f0) != ((Int.tmod x1_1 3) == 0)) = true := c5
       (try (have c5b1 : decide (((rd_T90 l0 x5_1).f0) = ((Int.tmod x1_1 3) == 0)) = false := by simpa using c5))
       (try (have c5b2 : (((rd_T90 l0 x5_1).f0) == ((Int.tmod x1_1 3) == 0)) = false := by simpa using c5))
       (try (have c5b3 : ¬ (((rd_T90 l0 x5_1).f0) = ((Int.tmod x1_1 3) == 0)) := by simpa using c5))
       clear c5
       obtain rfl := zL H
       have p458 : 0 ≤ (x5_1 : Int) := zI wE
       have q458 : x5_1 < (l0.length : Int) := zI wE
       obtain ⟨ad458, A458_1, c458_1, A458_2, c458_2, e458, hx458_0, hx458_1, hx458_2, hx458_3, hl458_1, hi458_1, hl458_2, hi458_2⟩ := at_T90 HR0.out x5_1 p458 q458
       cases e458
       replace hx458_0 := (HB.out.cell (zM w _ hx458_0)).trans hx458_0
       replace hx458_1 := (HB.out.cell (zM w _ hx458_1)).trans hx458_1
       replace hx458_2 := (HB.out.cell (zM w _ hx458_2)).trans hx458_2
       replace hx458_3 := (HB.out.cell (zM w _ hx458_3)).trans hx458_3
       have HR458_1 := zA hi458_1
       have HC458_1 := zA hl458_1
       clear hi458_1 hl458_1
       have HR458_2 := zA hi458_2
       have HC458_2 := zA hl458_2
       clear hi458_2 hl458_2
       replace p458 := eq_true p458
       replace q458 := eq_true q458
       go_wp2
       go_ret
       exact ⟨wG, wA⟩
      ·rw [if_neg c5] at H
       have c5b0 : (((rd_T90 l0 x5_1).f0) != ((Int.tmod x1_1 3) == 0)) = false := by simpa using c5
       (try (have c5b1 : decide (((rd_T90 l0 x5_1).f0) = ((Int.tmod x1_1 3) == 0)) = true := by simpa using c5))
       (try (have c5b2 : (((rd_T90 l0 x5_1).f0) == ((Int.tmod x1_1 3) == 0)) = true := by simpa using c5))
       clear c5
       replace H := Option.bind_eq_some_iff.mp H
       obtain ⟨t460, A60, H⟩ := H
       replace H : (if t460 < 0 then (some (-1)) else ((laws_heldInt64S.f k1 ((rd_T90 l0 x5_1).f2) t460).bind fun t462 => (if t462 < 0 then (some (-1)) else (if ((rd_T90 l0 x5_1).f3) = t462 then (laws_heldTNodeS.l0 k1 l0 (wrap64 (t462 + 1)) (wrap64 (x5_1 + 1))) else (some (-1)))))) = some r := H
       have A6 := zA A60
       clear A60
       by_cases c7 : t460 < 0
       · rw [if_pos c7] at H
         have c7b0 : decide (t460 < 0) = true := zJ c7
         clear c7
         obtain rfl := zL H
         have p458 : 0 ≤ (x5_1 : Int) := zI wE
         have q458 : x5_1 < (l0.length : Int) := zI wE
         obtain ⟨ad458, A458_1, c458_1, A458_2, c458_2, e458, hx458_0, hx458_1, hx458_2, hx458_3, hl458_1, hi458_1, hl458_2, hi458_2⟩ := at_T90 HR0.out x5_1 p458 q458
         cases e458
         replace hx458_0 := (HB.out.cell (zM w _ hx458_0)).trans hx458_0
         replace hx458_1 := (HB.out.cell (zM w _ hx458_1)).trans hx458_1
         replace hx458_2 := (HB.out.cell (zM w _ hx458_2)).trans hx458_2
         replace hx458_3 := (HB.out.cell (zM w _ hx458_3)).trans hx458_3
         have HR458_1 := zA hi458_1
         have HC458_1 := zA hl458_1
         clear hi458_1 hl458_1
         have HR458_2 := zA hi458_2
         have HC458_2 := zA hl458_2
         clear hi458_2 hl458_2
         replace p458 := eq_true p458
         replace q458 := eq_true q458
         have p459 : 0 ≤ (x5_1 : Int) := zI wE
         have q459 : x5_1 < (l0.length : Int) := zI wE
         obtain ⟨ad459, A459_1, c459_1, A459_2, c459_2, e459, hx459_0, hx459_1, hx459_2, hx459_3, hl459_1, hi459_1, hl459_2, hi459_2⟩ := at_T90 HR0.out x5_1 p459 q459
         obtain rfl : ad458 = ad459 := (by injection e459)
         replace hx459_0 := (HB.out.cell (zM w _ hx459_0)).trans hx459_0
         replace hx459_1 := (HB.out.cell (zM w _ hx459_1)).trans hx459_1
         replace hx459_2 := (HB.out.cell (zM w _ hx459_2)).trans hx459_2
         replace hx459_3 := (HB.out.cell (zM w _ hx459_3)).trans hx459_3
         have HR459_1 := zA hi459_1
         have HC459_1 := zA hl459_1
         clear hi459_1 hl459_1
         have HR459_2 := zA hi459_2
         have HC459_2 := zA hl459_2
         clear hi459_2 hl459_2
         replace p459 := eq_true p459
         replace q459 := eq_true q459
         have ea_ := zL (hx458_1.symm.trans hx459_1)
         injection ea_ with ea_ en_ ec_
         subst ea_
         subst ec_
         clear en_
         have ea_ := zL (hx458_2.symm.trans hx459_2)
         injection ea_ with ea_ en_ ec_
         subst ea_
         subst ec_
         clear en_
         go_wp2_with (first | ((with_reducible refine gate_callee (f := 25) rfl ?_); refine goesL_ (some 29) rfl rfl Try.func25 (by kernel_rfl) rfl #[.slice A458_1 ((rd_T90 l0 x5_1).f1).length c458_1, .int .i64 (wrap64 (x1_1 + 1))] rfl wH ?_; (with_reducible refine (laws_heldStringS.calls k1 _ _ ((rd_T90 l0 x5_1).f1) (wrap64 (x1_1 + 1)) t460 _ ?side1 ?side2 A6.out).mono ?_); (case side1 => repeat (first | exact (zQ HR459_1.out HB.out) | (with_reducible refine zR ?_ _) | (with_reducible refine zS ?_ _) | (with_reducible refine zT ?_))); (case side2 => exact HC459_1.out); rintro e w8 ⟨rfl, hb⟩; refine ⟨_, rfl, ?_⟩; have n0_ := zA (zU wA hb); clear HB; have HB := n0_; clear n0_; (try clear hb); (try clear hb2); (try clear hk); (try clear hi)))
         go_ret
         exact ⟨wG, wA⟩
       · rw [if_neg c7] at H
         have c7b0 : decide (t460 < 0) = false := zK c7
         clear c7
         replace H := Option.bind_eq_some_iff.mp H
         obtain ⟨t462, A90, H⟩ := H
         replace H : (if t462 < 0 then (some (-1)) else (if ((rd_T90 l0 x5_1).f3) = t462 then (laws_heldTNodeS.l0 k1 l0 (wrap64 (t462 + 1)) (wrap64 (x5_1 + 1))) else (some (-1)))) = some r := H
         have A9 := zA A90
         clear A90
         by_cases c10 : t462 < 0
         ·rw [if_pos c10] at H
          have c10b0 : decide (t462 < 0) = true := zJ c10
          clear c10
          obtain rfl := zL H
          have p458 : 0 ≤ (x5_1 : Int) := zI wE
          have q458 : x5_1 < (l0.length : Int) := zI wE
          obtain ⟨ad458, A458_1, c458_1, A458_2, c458_2, e458, hx458_0, hx458_1, hx458_2, hx458_3, hl458_1, hi458_1, hl458_2, hi458_2⟩ := at_T90 HR0.out x5_1 p458 q458
          cases e458
          replace hx458_0 := (HB.out.cell (zM w _ hx458_0)).trans hx458_0
          replace hx458_1 := (HB.out.cell (zM w _ hx458_1)).trans hx458_1
          replace hx458_2 := (HB.out.cell (zM w _ hx458_2)).trans hx458_2
          replace hx458_3 := (HB.out.cell (zM w _ hx458_3)).trans hx458_3
          have HR458_1 := zA hi458_1
          have HC458_1 := zA hl458_1
          clear hi458_1 hl458_1
          have HR458_2 := zA hi458_2
          have HC458_2 := zA hl458_2
          clear hi458_2 hl458_2
          replace p458 := eq_true p458
          replace q458 := eq_true q458
          have p459 : 0 ≤ (x5_1 : Int) := zI wE
          have q459 : x5_1 < (l0.length : Int) := zI wE
          obtain ⟨ad459, A459_1, c459_1, A459_2, c459_2, e459, hx459_0, hx459_1, hx459_2, hx459_3, hl459_1, hi459_1, hl459_2, hi459_2⟩ := at_T90 HR0.out x5_1 p459 q459
          obtain rfl : ad458 = ad459 := (by injection e459)
          replace hx459_0 := (HB.out.cell (zM w _ hx459_0)).trans hx459_0
          replace hx459_1 := (HB.out.cell (zM w _ hx459_1)).trans hx459_1
          replace hx459_2 := (HB.out.cell (zM w _ hx459_2)).trans hx459_2
          replace hx459_3 := (HB.out.cell (zM w _ hx459_3)).trans hx459_3
          have HR459_1 := zA hi459_1
          have HC459_1 := zA hl459_1
          clear hi459_1 hl459_1
          have HR459_2 := zA hi459_2
          have HC459_2 := zA hl459_2
          clear hi459_2 hl459_2
          replace p459 := eq_true p459
          replace q459 := eq_true q459
          have ea_ := zL (hx458_1.symm.trans hx459_1)
          injection ea_ with ea_ en_ ec_
          subst ea_
          subst ec_
          clear en_
          have ea_ := zL (hx458_2.symm.trans hx459_2)
          injection ea_ with ea_ en_ ec_
          subst ea_
          subst ec_
          clear en_
          go_wp2_with (first | ((with_reducible refine gate_callee (f := 25) rfl ?_); refine goesL_ (some 29) rfl rfl Try.func25 (by kernel_rfl) rfl #[.slice A458_1 ((rd_T90 l0 x5_1).f1).length c458_1, .int .i64 (wrap64 (x1_1 + 1))] rfl wH ?_; (with_reducible refine (laws_heldStringS.calls k1 _ _ ((rd_T90 l0 x5_1).f1) (wrap64 (x1_1 + 1)) t460 _ ?side1 ?side2 A6.out).mono ?_); (case side1 => repeat (first | exact (zQ HR459_1.out HB.out) | (with_reducible refine zR ?_ _) | (with_reducible refine zS ?_ _) | (with_reducible refine zT ?_))); (case side2 => exact HC459_1.out); rintro e w11 ⟨rfl, hb⟩; refine ⟨_, rfl, ?_⟩; have n0_ := zA (zU wA hb); clear HB; have HB := n0_; clear n0_; (try clear hb); (try clear hb2); (try clear hk); (try clear hi); have p461 : 0 ≤ (x5_1 : Int) := zI wE; have q461 : x5_1 < (l0.length : Int) := zI wE; obtain ⟨ad461, A461_1, c461_1, A461_2, c461_2, e461, hx461_0, hx461_1, hx461_2, hx461_3, hl461_1, hi461_1, hl461_2, hi461_2⟩ := at_T90 HR0.out x5_1 p461 q461; obtain rfl : ad458 = ad461 := (by injection e461); replace hx461_0 := (HB.out.cell (zM w _ hx461_0)).trans hx461_0; replace hx461_1 := (HB.out.cell (zM w _ hx461_1)).trans hx461_1; replace hx461_2 := (HB.out.cell (zM w _ hx461_2)).trans hx461_2; replace hx461_3 := (HB.out.cell (zM w _ hx461_3)).trans hx461_3; have HR461_1 := zA hi461_1; have HC461_1 := zA hl461_1; clear hi461_1 hl461_1; have HR461_2 := zA hi461_2; have HC461_2 := zA hl461_2; clear hi461_2 hl461_2; replace p461 := eq_true p461; replace q461 := eq_true q461) | ((with_reducible refine gate_callee (f := 64) rfl ?_); refine goesL_ (some 38) rfl rfl Try.func64 (by kernel_rfl) rfl #[.slice A461_2 ((rd_T90 l0 x5_1).f2).length c461_2, .int .i64 t460] rfl wH ?_; (with_reducible refine (laws_heldInt64S.calls k1 _ _ ((rd_T90 l0 x5_1).f2) t460 t462 _ ?side1 ?side2 A9.out).mono ?_); (case side1 => repeat (first | exact (zQ HR461_2.out HB.out) | (with_reducible refine zR ?_ _) | (with_reducible refine zS ?_ _) | (with_reducible refine zT ?_))); (case side2 => exact HC461_2.out); rintro e w' ⟨rfl, ⟨nd, rfl⟩⟩; refine ⟨_, rfl, ?_⟩))
          go_ret
          exact ⟨wG, wA⟩
         ·rw [if_neg c10] at H
          have c10b0 : decide (t462 < 0) = false := zK c10
          clear c10
          by_cases c12 : ((rd_T90 l0 x5_1).f3) = t462
          ·rw [if_pos c12] at H
           have c12b0 : (((rd_T90 l0 x5_1).f3) == t462) = true := beq_iff_eq.mpr c12
           have c12b1 : (((rd_T90 l0 x5_1).f3) != t462) = false := bne_eq_false_iff_eq.mpr c12
           clear c12
           have H' := zA H
           clear H
           have p458 : 0 ≤ (x5_1 : Int) := zI wE
           have q458 : x5_1 < (l0.length : Int) := zI wE
           obtain ⟨ad458, A458_1, c458_1, A458_2, c458_2, e458, hx458_0, hx458_1, hx458_2, hx458_3, hl458_1, hi458_1, hl458_2, hi458_2⟩ := at_T90 HR0.out x5_1 p458 q458
           cases e458
           replace hx458_0 := (HB.out.cell (zM w _ hx458_0)).trans hx458_0
           replace hx458_1 := (HB.out.cell (zM w _ hx458_1)).trans hx458_1
           replace hx458_2 := (HB.out.cell (zM w _ hx458_2)).trans hx458_2
           replace hx458_3 := (HB.out.cell (zM w _ hx458_3)).trans hx458_3
           have HR458_1 := zA hi458_1
           have HC458_1 := zA hl458_1
           clear hi458_1 hl458_1
           have HR458_2 := zA hi458_2
           have HC458_2 := zA hl458_2
           clear hi458_2 hl458_2
           replace p458 := eq_true p458
           replace q458 := eq_true q458
           have p459 : 0 ≤ (x5_1 : Int) := zI wE
           have q459 : x5_1 < (l0.length : Int) := zI wE
           obtain ⟨ad459, A459_1, c459_1, A459_2, c459_2, e459, hx459_0, hx459_1, hx459_2, hx459_3, hl459_1, hi459_1, hl459_2, hi459_2⟩ := at_T90 HR0.out x5_1 p459 q459
           obtain rfl : ad458 = ad459 := (by injection e459)
           replace hx459_0 := (HB.out.cell (zM w _ hx459_0)).trans hx459_0
           replace hx459_1 := (HB.out.cell (zM w _ hx459_1)).trans hx459_1
           replace hx459_2 := (HB.out.cell (zM w _ hx459_2)).trans hx459_2
           replace hx459_3 := (HB.out.cell (zM w _ hx459_3)).trans hx459_3
           have HR459_1 := zA hi459_1
           have HC459_1 := zA hl459_1
           clear hi459_1 hl459_1
           have HR459_2 := zA hi459_2
           have HC459_2 := zA hl459_2
           clear hi459_2 hl459_2
           replace p459 := eq_true p459
           replace q459 := eq_true q459
           have ea_ := zL (hx458_1.symm.trans hx459_1)
           injection ea_ with ea_ en_ ec_
           subst ea_
           subst ec_
           clear en_
           have ea_ := zL (hx458_2.symm.trans hx459_2)
           injection ea_ with ea_ en_ ec_
           subst ea_
           subst ec_
           clear en_
           go_wp2_with (first | ((with_reducible refine gate_callee (f := 25) rfl ?_); refine goesL_ (some 29) rfl rfl Try.func25 (by kernel_rfl) rfl #[.slice A458_1 ((rd_T90 l0 x5_1).f1).length c458_1, .int .i64 (wrap64 (x1_1 + 1))] rfl wH ?_; (with_reducible refine (laws_heldStringS.calls k1 _ _ ((rd_T90 l0 x5_1).f1) (wrap64 (x1_1 + 1)) t460 _ ?side1 ?side2 A6.out).mono ?_); (case side1 => repeat (first | exact (zQ HR459_1.out HB.out) | (with_reducible refine zR ?_ _) | (with_reducible refine zS ?_ _) | (with_reducible refine zT ?_))); (case side2 => exact HC459_1.out); rintro e w13 ⟨rfl, hb⟩; refine ⟨_, rfl, ?_⟩; have n0_ := zA (zU wA hb); clear HB; have HB := n0_; clear n0_; (try clear hb); (try clear hb2); (try clear hk); (try clear hi); have p461 : 0 ≤ (x5_1 : Int) := zI wE; have q461 : x5_1 < (l0.length : Int) := zI wE; obtain ⟨ad461, A461_1, c461_1, A461_2, c461_2, e461, hx461_0, hx461_1, hx461_2, hx461_3, hl461_1, hi461_1, hl461_2, hi461_2⟩ := at_T90 HR0.out x5_1 p461 q461; obtain rfl : ad458 = ad461 := (by injection e461); replace hx461_0 := (HB.out.cell (zM w _ hx461_0)).trans hx461_0; replace hx461_1 := (HB.out.cell (zM w _ hx461_1)).trans hx461_1; replace hx461_2 := (HB.out.cell (zM w _ hx461_2)).trans hx461_2; replace hx461_3 := (HB.out.cell (zM w _ hx461_3)).trans hx461_3; have HR461_1 := zA hi461_1; have HC461_1 := zA hl461_1; clear hi461_1 hl461_1; have HR461_2 := zA hi461_2; have HC461_2 := zA hl461_2; clear hi461_2 hl461_2; replace p461 := eq_true p461; replace q461 := eq_true q461) | ((with_reducible refine gate_callee (f := 64) rfl ?_); refine goesL_ (some 38) rfl rfl Try.func64 (by kernel_rfl) rfl #[.slice A461_2 ((rd_T90 l0 x5_1).f2).length c461_2, .int .i64 t460] rfl wH ?_; (with_reducible refine (laws_heldInt64S.calls k1 _ _ ((rd_T90 l0 x5_1).f2) t460 t462 _ ?side1 ?side2 A9.out).mono ?_); (case side1 => repeat (first | exact (zQ HR461_2.out HB.out) | (with_reducible refine zR ?_ _) | (with_reducible refine zS ?_ _) | (with_reducible refine zT ?_))); (case side2 => exact HC461_2.out); rintro e w' ⟨rfl, ⟨nd, rfl⟩⟩; refine ⟨_, rfl, ?_⟩; have p463 : 0 ≤ (x5_1 : Int) := zI wE; have q463 : x5_1 < (l0.length : Int) := zI wE; obtain ⟨ad463, A463_1, c463_1, A463_2, c463_2, e463, hx463_0, hx463_1, hx463_2, hx463_3, hl463_1, hi463_1, hl463_2, hi463_2⟩ := at_T90 HR0.out x5_1 p463 q463; obtain rfl : ad458 = ad463 := (by injection e463); replace hx463_0 := (HB.out.cell (zM w _ hx463_0)).trans hx463_0; replace hx463_1 := (HB.out.cell (zM w _ hx463_1)).trans hx463_1; replace hx463_2 := (HB.out.cell (zM w _ hx463_2)).trans hx463_2; replace hx463_3 := (HB.out.cell (zM w _ hx463_3)).trans hx463_3; have HR463_1 := zA hi463_1; have HC463_1 := zA hl463_1; clear hi463_1 hl463_1; have HR463_2 := zA hi463_2; have HC463_2 := zA hl463_2; clear hi463_2 hl463_2; replace p463 := eq_true p463; replace q463 := eq_true q463; have ea_ := zL (hx461_1.symm.trans hx463_1); injection ea_ with ea_ en_ ec_; subst ea_; subst ec_; clear en_; have ea_ := zL (hx461_2.symm.trans hx463_2); injection ea_ with ea_ en_ ec_; subst ea_; subst ec_; clear en_))
           go_roundg k1
           case measure => have := HK1.out; omega
           case rel => exact ⟨(wrap64 (t462 + 1)), (wrap64 (x5_1 + 1)), wF, wF, H', ⟨by have := HK1.out; omega⟩, ⟨wA⟩⟩
          ·rw [if_neg c12] at H
           have c12b0 : (((rd_T90 l0 x5_1).f3) == t462) = false := beq_eq_false_iff_ne.mpr c12
           have c12b1 : (((rd_T90 l0 x5_1).f3) != t462) = true := bne_iff_ne.mpr c12
           obtain rfl := zL H
           have p458 : 0 ≤ (x5_1 : Int) := zI wE
           have q458 : x5_1 < (l0.length : Int) := zI wE
           obtain ⟨ad458, A458_1, c458_1, A458_2, c458_2, e458, hx458_0, hx458_1, hx458_2, hx458_3, hl458_1, hi458_1, hl458_2, hi458_2⟩ := at_T90 HR0.out x5_1 p458 q458
           cases e458
           replace hx458_0 := (HB.out.cell (zM w _ hx458_0)).trans hx458_0
           replace hx458_1 := (HB.out.cell (zM w _ hx458_1)).trans hx458_1
           replace hx458_2 := (HB.out.cell (zM w _ hx458_2)).trans hx458_2
           replace hx458_3 := (HB.out.cell (zM w _ hx458_3)).trans hx458_3
           have HR458_1 := zA hi458_1
           have HC458_1 := zA hl458_1
           clear hi458_1 hl458_1
           have HR458_2 := zA hi458_2
           have HC458_2 := zA hl458_2
           clear hi458_2 hl458_2
           replace p458 := eq_true p458
           replace q458 := eq_true q458
           have p459 : 0 ≤ (x5_1 : Int) := zI wE
           have q459 : x5_1 < (l0.length : Int) := zI wE
           obtain ⟨ad459, A459_1, c459_1, A459_2, c459_2, e459, hx459_0, hx459_1, hx459_2, hx459_3, hl459_1, hi459_1, hl459_2, hi459_2⟩ := at_T90 HR0.out x5_1 p459 q459
           obtain rfl : ad458 = ad459 := (by injection e459)
           replace hx459_0 := (HB.out.cell (zM w _ hx459_0)).trans hx459_0
           replace hx459_1 := (HB.out.cell (zM w _ hx459_1)).trans hx459_1
           replace hx459_2 := (HB.out.cell (zM w _ hx459_2)).trans hx459_2
           replace hx459_3 := (HB.out.cell (zM w _ hx459_3)).trans hx459_3
           have HR459_1 := zA hi459_1
           have HC459_1 := zA hl459_1
           clear hi459_1 hl459_1
           have HR459_2 := zA hi459_2
           have HC459_2 := zA hl459_2
           clear hi459_2 hl459_2
           replace p459 := eq_true p459
           replace q459 := eq_true q459
           have ea_ := zL (hx458_1.symm.trans hx459_1)
           injection ea_ with ea_ en_ ec_
           subst ea_
           subst ec_
           clear en_
           have ea_ := zL (hx458_2.symm.trans hx459_2)
           injection ea_ with ea_ en_ ec_
           subst ea_
           subst ec_
           clear en_
           go_wp2_with (first | ((with_reducible refine gate_callee (f := 25) rfl ?_); refine goesL_ (some 29) rfl rfl Try.func25 (by kernel_rfl) rfl #[.slice A458_1 ((rd_T90 l0 x5_1).f1).length c458_1, .int .i64 (wrap64 (x1_1 + 1))] rfl wH ?_; (with_reducible refine (laws_heldStringS.calls k1 _ _ ((rd_T90 l0 x5_1).f1) (wrap64 (x1_1 + 1)) t460 _ ?side1 ?side2 A6.out).mono ?_); (case side1 => repeat (first | exact (zQ HR459_1.out HB.out) | (with_reducible refine zR ?_ _) | (with_reducible refine zS ?_ _) | (with_reducible refine zT ?_))); (case side2 => exact HC459_1.out); rintro e w14 ⟨rfl, hb⟩; refine ⟨_, rfl, ?_⟩; have n0_ := zA (zU wA hb); clear HB; have HB := n0_; clear n0_; (try clear hb); (try clear hb2); (try clear hk); (try clear hi); have p461 : 0 ≤ (x5_1 : Int) := zI wE; have q461 : x5_1 < (l0.length : Int) := zI wE; obtain ⟨ad461, A461_1, c461_1, A461_2, c461_2, e461, hx461_0, hx461_1, hx461_2, hx461_3, hl461_1, hi461_1, hl461_2, hi461_2⟩ := at_T90 HR0.out x5_1 p461 q461; obtain rfl : ad458 = ad461 := (by injection e461); replace hx461_0 := (HB.out.cell (zM w _ hx461_0)).trans hx461_0; replace hx461_1 := (HB.out.cell (zM w _ hx461_1)).trans hx461_1; replace hx461_2 := (HB.out.cell (zM w _ hx461_2)).trans hx461_2; replace hx461_3 := (HB.out.cell (zM w _ hx461_3)).trans hx461_3; have HR461_1 := zA hi461_1; have HC461_1 := zA hl461_1; clear hi461_1 hl461_1; have HR461_2 := zA hi461_2; have HC461_2 := zA hl461_2; clear hi461_2 hl461_2; replace p461 := eq_true p461; replace q461 := eq_true q461) | ((with_reducible refine gate_callee (f := 64) rfl ?_); refine goesL_ (some 38) rfl rfl Try.func64 (by kernel_rfl) rfl #[.slice A461_2 ((rd_T90 l0 x5_1).f2).length c461_2, .int .i64 t460] rfl wH ?_; (with_reducible refine (laws_heldInt64S.calls k1 _ _ ((rd_T90 l0 x5_1).f2) t460 t462 _ ?side1 ?side2 A9.out).mono ?_); (case side1 => repeat (first | exact (zQ HR461_2.out HB.out) | (with_reducible refine zR ?_ _) | (with_reducible refine zS ?_ _) | (with_reducible refine zT ?_))); (case side2 => exact HC461_2.out); rintro e w' ⟨rfl, ⟨nd, rfl⟩⟩; refine ⟨_, rfl, ?_⟩; have p463 : 0 ≤ (x5_1 : Int) := zI wE; have q463 : x5_1 < (l0.length : Int) := zI wE; obtain ⟨ad463, A463_1, c463_1, A463_2, c463_2, e463, hx463_0, hx463_1, hx463_2, hx463_3, hl463_1, hi463_1, hl463_2, hi463_2⟩ := at_T90 HR0.out x5_1 p463 q463; obtain rfl : ad458 = ad463 := (by injection e463); replace hx463_0 := (HB.out.cell (zM w _ hx463_0)).trans hx463_0; replace hx463_1 := (HB.out.cell (zM w _ hx463_1)).trans hx463_1; replace hx463_2 := (HB.out.cell (zM w _ hx463_2)).trans hx463_2; replace hx463_3 := (HB.out.cell (zM w _ hx463_3)).trans hx463_3; have HR463_1 := zA hi463_1; have HC463_1 := zA hl463_1; clear hi463_1 hl463_1; have HR463_2 := zA hi463_2; have HC463_2 := zA hl463_2; clear hi463_2 hl463_2; replace p463 := eq_true p463; replace q463 := eq_true q463; have ea_ := zL (hx461_1.symm.trans hx463_1); injection ea_ with ea_ en_ ec_; subst ea_; subst ec_; clear en_; have ea_ := zL (hx461_2.symm.trans hx463_2); injection ea_ with ea_ en_ ec_; subst ea_; subst ec_; clear en_))
           go_ret
           exact ⟨wG, wA⟩
     ·rw [if_neg c4] at H
      exact absurd H (by simp)
    ·rw [if_neg c3] at H
     have c3b0 : decide (x5_1 < (l0.length : Int)) = false := zK c3
     clear c3
     obtain rfl := zL H
     go_wp2
     go_ret
     exact ⟨wG, wA⟩

/-! ### laws_heldTree: function 14 -/
def laws_heldTree.f (k : Nat) (l0_0 : List (S90)) (a1 : Int) : Option (Int) := (laws_heldTNodeS.f k l0_0 a1).bind fun t465 => (if t465 < 0 then (some (-1)) else (some t465))
set_option maxHeartbeats 4000000 in
set_option maxRecDepth 100000 in
theorem laws_heldTree.calls (k : Nat) (A0_0 : Option Addr) (c0_0 : Nat) (l0_0 : List (S90)) (a1 : Int) (r : Int) (w : World) (hr0_0 : Kd.C k90 w A0_0 l0_0.length l0_0) (hc0_0 : l0_0.length ≤ c0_0) (h : laws_heldTree.f k l0_0 a1 = some r) :
  Calls Try.prog 14 #[.agg #[.slice A0_0 l0_0.length c0_0], .int .i64 a1] w fun e w' => e = .returned (.int .i64 r) ∧ Below w.heap.size w w' := by
 have hu := Try.underlying24
 have hb0 : Below w.heap.size w (w.alloc (.cells #[.slice A0_0 l0_0.length c0_0] 24)) := below_alloc (zZ _ _) _
 have HK := zA (blk_new w (.cells #[.slice A0_0 l0_0.length c0_0] 24))
 have HB := zA hb0
 have C0 := zA (And.intro (zQ hr0_0 hb0) hc0_0)
 unfold laws_heldTree.f at h
 obtain ⟨t1, e1, h⟩ := Option.bind_eq_some_iff.mp h
 have E1 := zA e1
 have HH := zA h
 clear hb0 hr0_0 hc0_0 e1 h
 go_enter Try.func14, Try.ntmps14
 go_upto_region 1 with (fail)
 generalize w.alloc (.cells #[.slice A0_0 l0_0.length c0_0] 24) = W2 at *
 have x0 : W2.cell? ⟨w.heap.size, 0, none⟩ = some (.slice A0_0 l0_0.length c0_0) := (blk_cell HK.out 0).trans rfl
 go_wp2_with fail
 refine (laws_heldTNodeS.calls k _ _ _ _ t1 W2 C0.out.1 C0.out.2 E1.out).mono ?_
 rintro e W3 ⟨rfl, hb⟩
 have HB3 := zA (HB.out.trans ⟨hb.os, hb.tape, hb.output, hb.size, fun k hk => hb.block k (yJ hk HB.out.size)⟩)
 clear hb
 have h := HH.out
 clear HH
 by_cases c0 : t1 < 0
 ·rw [if_pos c0] at h
  injection h with h
  subst h
  have c1 := zJ c0
  go_wp2_with fail
  go_ret
  exact ⟨rfl, HB3.out⟩
 ·rw [if_neg c0] at h
  injection h with h
  subst h
  have c1 := zK c0
  go_wp2_with fail
  go_ret
  exact ⟨rfl, HB3.out⟩

/-! ### laws_heldTreeRes: function 30 -/
def laws_heldTreeRes.f (k : Nat) (a0_0 : Bool) (l0_1 : List (S90)) (a1 : Int) : Option (Int) := (laws_heldTree.f k l0_1 a1).bind fun t467 => (if t467 < 0 then (some (-1)) else (some t467))
set_option maxHeartbeats 4000000 in
set_option maxRecDepth 100000 in
theorem laws_heldTreeRes.calls (k : Nat) (a0_0 : Bool) (A0_1 : Option Addr) (c0_1 : Nat) (l0_1 : List (S90)) (a1 : Int) (r : Int) (w : World) (hr0_1 : Kd.C k90 w A0_1 l0_1.length l0_1) (hc0_1 : l0_1.length ≤ c0_1) (h : laws_heldTreeRes.f k a0_0 l0_1 a1 = some r) :
  Calls Try.prog 30 #[.agg #[.bool a0_0, .slice A0_1 l0_1.length c0_1], .int .i64 a1] w fun e w' => e = .returned (.int .i64 r) ∧ Below w.heap.size w w' := by
 have hu := Try.underlying44
 have hu2 := Try.underlying24
 have hb0 : Below w.heap.size w (w.alloc (.cells #[.bool a0_0, .slice A0_1 l0_1.length c0_1] 44)) := below_alloc (zZ _ _) _
 have HK := zA (blk_new w (.cells #[.bool a0_0, .slice A0_1 l0_1.length c0_1] 44))
 have HB := zA hb0
 have C0 := zA (And.intro (zQ hr0_1 hb0) hc0_1)
 unfold laws_heldTreeRes.f at h
 obtain ⟨t1, e1, h⟩ := Option.bind_eq_some_iff.mp h
 have E1 := zA e1
 have HH := zA h
 clear hb0 hr0_1 hc0_1 e1 h
 go_enter Try.func30, Try.ntmps30
 go_upto_region 1 with (fail)
 generalize w.alloc (.cells #[.bool a0_0, .slice A0_1 l0_1.length c0_1] 44) = W2 at *
 have x0 : W2.cell? ⟨w.heap.size, 0, none⟩ = some (.bool a0_0) := (blk_cell HK.out 0).trans rfl
 have x1 : W2.cell? ⟨w.heap.size, 1, none⟩ = some (.slice A0_1 l0_1.length c0_1) := (blk_cell HK.out 1).trans rfl
 go_wp2_with fail
 refine (laws_heldTree.calls k _ _ _ _ t1 W2 C0.out.1 C0.out.2 E1.out).mono ?_
 rintro e W3 ⟨rfl, hb⟩
 have HB3 := zA (HB.out.trans ⟨hb.os, hb.tape, hb.output, hb.size, fun k hk => hb.block k (yJ hk HB.out.size)⟩)
 clear hb
 have h := HH.out
 clear HH
 by_cases c0 : t1 < 0
 ·rw [if_pos c0] at h
  injection h with h
  subst h
  have c1 := zJ c0
  go_wp2_with fail
  go_ret
  exact ⟨rfl, HB3.out⟩
 ·rw [if_neg c0] at h
  injection h with h
  subst h
  have c1 := zK c0
  go_wp2_with fail
  go_ret
  exact ⟨rfl, HB3.out⟩

/-! ### L_base: a text by hand -/
-- words of this session's own: stores into a variable's block that is elder than what is held
theorem below_allocB {B : Nat} {w W : World} (h : Below B w W) (hB : B ≤ W.heap.size) (o : Obj) : Below B w (W.alloc o) := h.alloc hB o
theorem S_iv {α : Type} {d : Kd α} {e b : Nat} {w : World} {ok : Nat → Prop} {v : Value} {xs : List α} (h : Kd.S d e w b ok v xs) (B lo : Nat) (hB : B ≤ b) (hlo : lo ≤ b) : Kd.S d e w B (fun k => (lo ≤ k ∧ k < w.heap.size) ∧ ok k) v xs :=
 yB (Kd.S_lower (Kd.S_bound h) hB) (fun k hk => ⟨⟨yI hlo hk.2.1, hk.2.2.1⟩, hk.1⟩)

/-! ### L_t3: a text by hand -/
-- import Derived.Laws.ResultCell
-- words of the tree group: trees by depth, what l3Nest answers, blocks of three cells
theorem blk_cells3 {w : World} {g t : Nat} {a b c : Value} (h : w.heap[g]? = some (.cells #[a, b, c] t (0, 0))) : w.cell? ⟨g, 0, none⟩ = some a ∧ w.cell? ⟨g, 1, none⟩ = some b ∧ w.cell? ⟨g, 2, none⟩ = some c ∧
  w.frozen? ⟨g, 0, none⟩ = false ∧ w.frozen? ⟨g, 1, none⟩ = false ∧ w.frozen? ⟨g, 2, none⟩ = false :=
 ⟨(blk_cell h 0).trans rfl, (blk_cell h 1).trans rfl, (blk_cell h 2).trans rfl, zG h 0, zG h 1, zG h 2⟩
theorem blk_cells4 {w : World} {g t : Nat} {a b c d : Value} (h : w.heap[g]? = some (.cells #[a, b, c, d] t (0, 0))) : w.cell? ⟨g, 0, none⟩ = some a ∧ w.cell? ⟨g, 1, none⟩ = some b ∧ w.cell? ⟨g, 2, none⟩ = some c ∧ w.cell? ⟨g, 3, none⟩ = some d ∧
  w.frozen? ⟨g, 0, none⟩ = false ∧ w.frozen? ⟨g, 1, none⟩ = false ∧ w.frozen? ⟨g, 2, none⟩ = false ∧ w.frozen? ⟨g, 3, none⟩ = false :=
 ⟨(blk_cell h 0).trans rfl, (blk_cell h 1).trans rfl, (blk_cell h 2).trans rfl, (blk_cell h 3).trans rfl, zG h 0, zG h 1, zG h 2, zG h 3⟩
theorem blk_set3 {w : World} {g t : Nat} {a b c a' b' c' : Value} (h : w.heap[g]? = some (.cells #[a, b, c] t (0, 0))) :
  (((w.setCell ⟨g, 0, none⟩ a').setCell ⟨g, 1, none⟩ b').setCell ⟨g, 2, none⟩ c').heap[g]? = some (.cells #[a', b', c'] t (0, 0)) :=
 blk_put (blk_put (blk_put h 0 a' rfl) 1 b' rfl) 2 c' rfl
theorem set3_other {W : World} {g k : Nat} (v0 v1 v2 : Value) (hk : k ≠ g) : (((W.setCell ⟨g, 0, none⟩ v0).setCell ⟨g, 1, none⟩ v1).setCell ⟨g, 2, none⟩ v2).heap[k]? = W.heap[k]? :=
 (Below.heap_setCell _ ⟨g, 2, none⟩ v2 k hk).trans ((Below.heap_setCell _ ⟨g, 1, none⟩ v1 k hk).trans (Below.heap_setCell _ ⟨g, 0, none⟩ v0 k hk))
theorem below_set3 {B g : Nat} {w W : World} (h : Below B w W) (hb : B ≤ g) (v0 v1 v2 : Value) : Below B w (((W.setCell ⟨g, 0, none⟩ v0).setCell ⟨g, 1, none⟩ v1).setCell ⟨g, 2, none⟩ v2) := ((h.setCell hb v0).setCell hb v1).setCell hb v2
theorem results_three {P : Program} {fn : Func} {p u v : Tmp} {ty : TypeId} (h : fn.results = #[.cell p ty, .tmp u, .tmp v]) (tmps : Array Value) (w : World) (g : Nat) (t : TypeId) (cs : Array Value) (fr : Nat × Nat) (d : TypeDesc)
  (hp : tmps.getD p undef = .pointer (some ⟨g, 0, none⟩)) (hg : w.heap[g]? = some (.cells cs t fr))
  (hu : P.underlying ty = some d) (hd : (match d with | .struct _ | .array _ _ => true | _ => false) = true) (hi : (P.info? ty).map (·.size) = some cs.size) :
  (results fn tmps).run P w = .ok (.tuple #[.agg cs, tmps.getD u undef, tmps.getD v undef]) w := by
 have hr : (results fn tmps).run P w = ((asAddr (tmps.getD p undef)).run P w).andThen fun a w₁ => ((loadVar ty a).run P w₁).andThen fun x w₂ => .ok (.tuple #[x, tmps.getD u undef, tmps.getD v undef]) w₂ := by
  simp only [results, h]
  simp [Sem.run_bind, Result.andThen]
 rw [hr, hp]
 simp [asAddr, run_loadVar_row w g t ty cs fr d hg hu hd hi]
theorem results_two {P : Program} {fn : Func} {p u : Tmp} {ty : TypeId} (h : fn.results = #[.cell p ty, .tmp u]) (tmps : Array Value) (w : World) (g : Nat) (t : TypeId) (cs : Array Value) (fr : Nat × Nat) (d : TypeDesc)
  (hp : tmps.getD p undef = .pointer (some ⟨g, 0, none⟩)) (hg : w.heap[g]? = some (.cells cs t fr))
  (hu : P.underlying ty = some d) (hd : (match d with | .struct _ | .array _ _ => true | _ => false) = true) (hi : (P.info? ty).map (·.size) = some cs.size) :
  (results fn tmps).run P w = .ok (.tuple #[.agg cs, tmps.getD u undef]) w := by
 rw [results_cell_tmp h, hp]
 simp [asAddr, run_loadVar_row w g t ty cs fr d hg hu hd hi]
theorem at_F90 {W : World} {A : Option Addr} {n : Nat} {xs : List S90} {ok : Nat → Prop} (h : Kd.F k90 W ok A n xs) (i : Int) (h0 : 0 ≤ i) (h1 : i < n) : ∃ ad A1 c1 A2 c2, A = some ad ∧ W.cell? (ad.add (i.toNat * 4)) = some (.bool (rd_T90 xs i).f0) ∧ W.cell? ⟨(ad.add (i.toNat * 4)).block, (ad.add (i.toNat * 4)).off + 1, none⟩ = some (.slice A1 (rd_T90 xs i).f1.length c1) ∧ W.cell? ⟨(ad.add (i.toNat * 4)).block, (ad.add (i.toNat * 4)).off + 2, none⟩ = some (.slice A2 (rd_T90 xs i).f2.length c2) ∧ W.cell? ⟨(ad.add (i.toNat * 4)).block, (ad.add (i.toNat * 4)).off + 3, none⟩ = some (.int .i64 (rd_T90 xs i).f3) ∧ (rd_T90 xs i).f1.length ≤ c1 ∧ Kd.F Kd.string W ok A1 (rd_T90 xs i).f1.length (rd_T90 xs i).f1 ∧ (rd_T90 xs i).f2.length ≤ c2 ∧ Kd.F (Kd.int .i64) W ok A2 (rd_T90 xs i).f2.length (rd_T90 xs i).f2 := by
 obtain ⟨ad, c, e, _, hK, hc0, _⟩ := Kd.F_get h z90 i h0 h1
 have hc : ∀ j u, c[j]? = some u → W.cell? (ad.add (i.toNat * 4 + j)) = some u := hc0
 obtain ⟨A1, c1, A2, c2, rfl, l1, g1, l2, g2⟩ := k90_openF hK
 exact ⟨ad, A1, c1, A2, c2, e, hc 0 _ rfl, by rw [← add_field _ _ 1 (by omega)]; exact hc 1 _ rfl, by rw [← add_field _ _ 2 (by omega)]; exact hc 2 _ rfl, by rw [← add_field _ _ 3 (by omega)]; exact hc 3 _ rfl, l1, g1, l2, g2⟩
def keysD : Nat → S56 → List ByteArray
 | 0, t => t.f1
 | d + 1, t => (t.f2.map (keysD d)).flatten
def nestL (rec : Int → S56 × Int × Bool) (b : Bool) : List Int → Int → List S56 → S56 × Int × Bool
 | [], next, acc => (⟨false, [], acc⟩, next, b)
 | k :: ks, next, acc => if k = next then (if (rec next).2.2 = true then nestL rec b ks (rec next).2.1 (acc ++ [(rec next).1]) else (⟨false, [], acc⟩, next, false)) else (⟨false, [], acc⟩, next, false)
def nestD (ns : List S90) : Nat → Int → S56 × Int × Bool
 | 0, i => (z56, i, false)
 | d + 1, i => if 0 ≤ i ∧ i < (ns.length : Int) then (if (rd_T90 ns i).f0 = true then (⟨true, (rd_T90 ns i).f1, []⟩, i + 1, decide ((rd_T90 ns i).f2.length = 0)) else nestL (nestD ns d) (decide (0 < (rd_T90 ns i).f2.length)) (rd_T90 ns i).f2 (i + 1) []) else (z56, i, false)
theorem drop_rd (l : List Int) (i : Nat) (h : i < l.length) : l.drop i = rd l (i : Int) :: l.drop (i + 1) := by
 rw [List.drop_eq_getElem_cons h]
 congr 1
 unfold rd
 simp [List.getD_eq_getElem?_getD, h]
theorem below_lo {lo : Nat} {w W W1 : World} (h : Below lo w W) (hb : Below W.heap.size W W1) (hl : lo ≤ W.heap.size) : Below lo w W1 := below_then h hl hb
theorem below_same {lo : Nat} {w W W1 : World} (h : Below lo w W) (hb : Below lo W W1) : Below lo w W1 :=
 ⟨hb.os.trans h.os, hb.tape.trans h.tape, hb.output.trans h.output, yI h.size hb.size, fun k hk => (hb.block k hk).trans (h.block k hk)⟩
theorem below_less {lo hi : Nat} {w W : World} (h : Below hi w W) (hl : lo ≤ hi) : Below lo w W := ⟨h.os, h.tape, h.output, h.size, fun k hk => h.block k (by omega)⟩
end Go.Proofs.Ytfjcfklgnlmjjaa.PB
