-- Made by this session's programs out of the translation and of its own texts.
import Derived.Test.YteddpdonmhiplaaMFnExactReadAreac
namespace Go.Proofs.Yteddpdonmhiplaa.PR
open Go.RowKit Go.Proofs.YteddpdonmhiplaaW.PrintWords Go.Proofs.YteddpdonmhiplaaW.PrintLast Go.Proofs.YteddpdonmhiplaaW.PrintMore
attribute [local go_sem] max2_int min2_int max_two min_two max_three min_three max_four min_four   -- for this text's walks alone
set_option linter.unusedVariables false
set_option linter.unusedSimpArgs false

/-! ### spec_l2Sectors: function 69 -/
mutual
def spec_l2Sectors.l0 : Nat → Int → List Int → Int → List (List Int) → Int → Option ((List (List Int)))
 | 0, _, _, _, _, _ => none
 | k + 1, x0, x1, x5, x6, x7 => if x7 < x5 then (if 0 ≤ (wrap64 (x7 * 48)) then (if (wrap64 (x7 * 48)) ≤ (x1.length : Int) then ((some (x1.drop ((wrap64 (x7 * 48)) : Int).toNat : List Int)).bind fun y594 => (if (y594.length : Int) > 48 then (if 48 ≤ (y594.length : Int) then (spec_l2Sectors.j1 k x0 x1 x5 x6 x7 (y594.take 48)) else (none)) else (spec_l2Sectors.j1 k x0 x1 x5 x6 x7 y594))) else (none)) else (none)) else (some x6)
def spec_l2Sectors.j1 : Nat → Int → List Int → Int → List (List Int) → Int → List Int → Option ((List (List Int)))
 | 0, _, _, _, _, _, _ => none
 | k + 1, x0, x1, x5, x6, x7, x8 => (spec_l2Put.f k x0 4).bind fun t604 => ((spec_l2Put.f k x7 2).bind fun t607 => ((spec_l2Put.f k x5 2).bind fun t610 => ((spec_l2Put.f k (x8.length : Int) 2).bind fun t613 => ((spec_l2Cat.f k (([t604, t607, t610, t613, (([82, 49] : List Int))] : List (List Int)))).bind fun t622 => ((spec_l1Zeros.f k (wrap64 (48 - (x8.length : Int)))).bind fun t625 => ((spec_l2Cat.f k (([t622, x8, t625] : List (List Int)))).bind fun t631 => ((spec_l2Seal.f k t631).bind fun t634 => (if x6.length < 5864062014805 then (spec_l2Sectors.l0 k x0 x1 x5 (x6 ++ [t634]) (wrap64 (x7 + 1))) else (none)))))))))
end
def spec_l2Sectors.f (k : Nat) (a0 : Int) (l1 : List Int) : Option ((List (List Int))) := (spec_RecSectors.f k (l1.length : Int)).bind fun t590 => (spec_l2Sectors.l0 k a0 l1 t590 (([] : List (List Int))) 0)
set_option maxHeartbeats 8000000 in
set_option maxRecDepth 100000 in
theorem spec_l2Sectors.calls (k : Nat) (a0 : Int) (P1_ : Nat → Prop) (A1 : Option Addr) (c1 : Nat) (l1 : List Int) (r : List (List Int)) (w : World) (hs1 : Kd.V (Kd.int .u8) 5 w w.heap.size (fun k_ => P1_ k_) (.slice A1 l1.length c1) l1) (h : spec_l2Sectors.f k a0 l1 = some r) :
  Calls Try.prog 69 #[.int .i64 a0, .slice A1 l1.length c1] w fun e w' => ∃ v0_ : Value, e = .returned (v0_) ∧ Kd.N (Kd.slice 5 (Kd.int .u8)) 22 w' w.heap.size (fun k_ => (P1_ k_ ∨ w.heap.size ≤ k_)) v0_ r ∧ Below w.heap.size w w' := by
 have HO1 := Aside0.mk (show Kd.V (Kd.int .u8) 5 w w.heap.size (fun k_ => (P1_ k_ ∨ w.heap.size ≤ k_)) (.slice A1 l1.length c1) l1 from Kd.V_mono hs1 (fun k_ hk => .inl hk))
 have HB := Aside0.mk (Below.refl w.heap.size w)
 have H : ((spec_RecSectors.f k (l1.length : Int)).bind fun t590 => (spec_l2Sectors.l0 k a0 l1 t590 (([] : List (List Int))) 0)) = some r := h
 clear h
 replace H := Option.bind_eq_some_iff.mp H
 obtain ⟨t590, A30, H⟩ := H
 replace H : (spec_l2Sectors.l0 k a0 l1 t590 (([] : List (List Int))) 0) = some r := H
 have A3 := Aside0.mk A30
 clear A30
 obtain ⟨y591, hy591⟩ : ∃ y_ : List (List Int), y_ = (([] : List (List Int))) := ⟨_, rfl⟩
 replace H : (spec_l2Sectors.l0 k a0 l1 t590 y591 0) = some r := by first | (rw [hy591]; with_reducible exact H) | (have H2_ := (Option.bind_some _ _).symm.trans H; rw [hy591]; with_reducible exact H2_) | (have H2_ := (Option.bind_some _ _).symm.trans H; with_reducible exact H2_) | with_reducible exact H | (rw [hy591]; exact H) | exact H
 have Ny591 := Aside0.mk hy591
 clear hy591
 have H' := Aside0.mk H
 clear H
 go_enter Try.func69, Try.ntmps69
 go_wp2_with (first | ((with_reducible refine gate_callee (f := 46) rfl ?_); refine goesL_ (some 12) rfl rfl Try.func46 (by kernel_rfl) rfl #[.int .i64 (l1.length : Int)] rfl (by (try simp only [List.map_toArray, List.map_cons, List.map_nil]); first | done | rfl | (simp only [List.length_drop, List.length_take]; rfl)) ?_; (with_reducible refine (spec_RecSectors.calls k (l1.length : Int) t590 _ A3.out).mono ?_); rintro e w' ⟨rfl, ⟨nd, rfl⟩⟩; refine ⟨_, rfl, ?_⟩) | ((with_reducible refine gate_dst (N := 13) rfl ?_); refine Kd.N_lit (Kd.slice 5 (Kd.int .u8)) _ 22 ?hg (N' := 13) ?hd (xs := ([] : List (List Int))) (inner := []) (ok := (fun k_ => (P1_ k_ ∨ w.heap.size ≤ k_))) (okp := (fun k_ => (P1_ k_ ∨ w.heap.size ≤ k_))) ?hr ?hp (fun _ hk => hk) ((show ∀ k_, w.heap.size ≤ k_ → (fun k_ => (P1_ k_ ∨ w.heap.size ≤ k_)) k_ from fun k_ hk => (.inr (Nat.le_trans (below_size (by repeat (first | (with_reducible first | exact HB.out | apply below_alloc | apply pw_below_drewN | apply below_drew1) | exact HB.out))) hk))) _ (Nat.le_refl _)) (Below.refl _ _) (Nat.le_refl _) (by simp) ?_; (case hd => rfl); (case hg => rfl); (case hr => first | (go_simp; done) | (go_simp; rfl)); (case hp => exact (Reps.none _ _)); intro v592 w4 ho5 hb hg_ hnew_; clear hg_ hnew_; (first | rw [← Ny591.out] at ho5 | (simp only [Int.reduceToNat] at ho5; rw [← Ny591.out] at ho5)); have n0_ := Aside0.mk (Kd.V_elder' (by (with_reducible repeat (first | apply Kd.V_alloc | apply Kd.V_drewN | apply Kd.V_drew)); exact HO1.out) (Kd.N_base ho5) hb); have n1_ := Aside0.mk (Kd.N_lower ho5 (below_size (by repeat (first | (with_reducible first | exact HB.out | apply below_alloc | apply pw_below_drewN | apply below_drew1) | exact HB.out)))); have n2_ := Aside0.mk (below_step (by repeat (first | (with_reducible first | exact HB.out | apply below_alloc | apply pw_below_drewN | apply below_drew1) | exact HB.out)) hb); clear HO1; clear HB; have HO1 := n0_; have HO593 := n1_; have HB := n2_; clear n0_ n1_ n2_; clear hb ho5))
 go_loopg [6, 7] k (fun kq v6 v7 w' => ∃ (x6_1 : List (List Int)) (x7_1 : Int), v7 = .int .i64 x7_1 ∧ Aside0 (spec_l2Sectors.l0 kq a0 l1 t590 x6_1 x7_1 = some r) ∧ Aside0 (kq ≤ k) ∧ Aside0 (Kd.V (Kd.int .u8) 5 w' w.heap.size (fun k_ => (P1_ k_ ∨ w.heap.size ≤ k_) ∧ some k_ ≠ (v6 : Value).ownBlock) (.slice A1 l1.length c1) l1) ∧ Aside0 (Kd.N (Kd.slice 5 (Kd.int .u8)) 22 w' w.heap.size (fun k_ => (P1_ k_ ∨ w.heap.size ≤ k_)) v6 x6_1) ∧ Aside0 (Below w.heap.size w w'))
 case atStart => exact ⟨(y591), (0), (by first | rfl | (simp; done) | (simp [*]; done)), H', ⟨Nat.le_refl _⟩, ⟨by (with_reducible repeat (first | apply Kd.V_alloc | apply Kd.V_drewN | apply Kd.V_drew)); exact HO1.out⟩, ⟨by (with_reducible repeat (first | apply Kd.N_alloc | apply Kd.N_drewN | apply Kd.N_drew)); exact HO593.out⟩, ⟨by repeat (first | (with_reducible first | exact HB.out | apply below_alloc | apply pw_below_drewN | apply below_drew1) | exact HB.out)⟩⟩
 case round =>
  clear H'
  try clear c1
  try clear p2
  try clear c4
  obtain ⟨x6_1, x7_1, rfl, HA, HK1, HO_1, HO_6, HB⟩ := hrel
  cases gk with
  | zero => exact absurd HA.out (by simp [spec_l2Sectors.l0])
  | succ k1 =>
    have H := HA.out
    clear HA
    simp only [spec_l2Sectors.l0] at H
    by_cases c6 : x7_1 < t590
    ·rw [if_pos c6] at H
     have c6b0 : decide (x7_1 < t590) = true := decide_eq_true c6
     clear c6
     obtain ⟨ji7, hji7⟩ : ∃ j_ : Int, (wrap64 (x7_1 * 48)) = j_ := ⟨_, rfl⟩
     replace H : (if 0 ≤ (ji7) then (if (ji7) ≤ (l1.length : Int) then ((some (l1.drop ((ji7) : Int).toNat : List Int)).bind fun y594 => (if (y594.length : Int) > 48 then (if 48 ≤ (y594.length : Int) then (spec_l2Sectors.j1 k1 a0 l1 t590 x6_1 x7_1 (y594.take 48)) else (none)) else (spec_l2Sectors.j1 k1 a0 l1 t590 x6_1 x7_1 y594))) else (none)) else (none)) = some r := by first | (rw [hji7] at H; exact H) | (simp only [hji7] at H ⊢; exact H)
     have hji7w : (IntKind.i64.wrap (x7_1 * 48)) = ji7 := (i64_w _).trans hji7
     by_cases c8 : 0 ≤ (ji7)
     ·rw [if_pos c8] at H
      have c8b0 := eq_true c8
      have c8b1 : decide (0 ≤ (ji7)) = true := decide_eq_true c8
      clear c8
      by_cases c9 : (ji7) ≤ (l1.length : Int)
      ·rw [if_pos c9] at H
       have c9b0 := eq_true c9
       have c9b1 : decide ((ji7) ≤ (l1.length : Int)) = true := decide_eq_true c9
       clear c9
       obtain ⟨y594, hy594⟩ : ∃ y_ : List Int, y_ = (l1.drop ((ji7) : Int).toNat) := ⟨_, rfl⟩
       replace H : (if (y594.length : Int) > 48 then (if 48 ≤ (y594.length : Int) then (spec_l2Sectors.j1 k1 a0 l1 t590 x6_1 x7_1 (y594.take 48)) else (none)) else (spec_l2Sectors.j1 k1 a0 l1 t590 x6_1 x7_1 y594)) = some r := by first | (rw [hy594]; with_reducible exact H) | (have H2_ := (Option.bind_some _ _).symm.trans H; rw [hy594]; with_reducible exact H2_) | (have H2_ := (Option.bind_some _ _).symm.trans H; with_reducible exact H2_) | with_reducible exact H | (rw [hy594]; exact H) | exact H
       have Ny594 := Aside0.mk hy594
       clear hy594
       have HC10 := Aside0.mk H
       clear H
       have q11 : ((ji7) : Int) ≤ ((l1.length : Int) : Int) := of_decide_eq_true (by first | (with_reducible assumption) | assumption)
       obtain ⟨i011, hi011, _, hsz11, _⟩ := info_parts info5
       have hroom11 : l1.length ≤ c1 := (Kd.V_reads' HO_1.out).2.1
       have hC11 : Kd.F (Kd.int .u8) _ _ A1 l1.length l1 := (Kd.V_at (base := w.heap.size) HO_1.out).2.2
       have q011 : (0 : Int) ≤ ((ji7) : Int) := of_decide_eq_true (by first | (with_reducible assumption) | assumption)
       have hcut11 := cut_from (P := Try.prog) 22 5 .i64 Try.underlying22 hi011 1 hsz11 A1 l1.length c1 (ji7) q011 q11
       have hr11 := Kd.F_cut (m := ((ji7) : Int).toNat) (c := c1) hC11 (by omega) hroom11
       obtain ⟨A11, hA11⟩ : ∃ A1_, A1_ = (if c1 = ((ji7) : Int).toNat then A1 else (A1 : Option Addr).map (·.add (((ji7) : Int).toNat * 1))) := ⟨_, rfl⟩
       obtain ⟨c11, hc11⟩ : ∃ c1_, c1_ = c1 - ((ji7) : Int).toNat := ⟨_, rfl⟩
       have hy11 : y594.length = l1.length - ((ji7) : Int).toNat := (by rw [Ny594.out, List.length_drop] <;> omega)
       rw [show (l1).drop ((ji7) : Int).toNat = y594 from Ny594.out.symm] at hr11
       replace hr11 : Kd.F (Kd.int .u8) _ _ A11 y594.length y594 := (by rw [hA11]; exact hr11)
       rw [← hy11, ← hA11, ← hc11] at hcut11
       have HO598 := Aside0.mk (show Kd.V (Kd.int .u8) 5 _ w.heap.size _ (.slice A11 y594.length c11) y594 from Kd.V_mk (by rw [hy11, hc11]; exact Nat.sub_le_sub_right hroom11 _) hr11)
       have HC598 := Aside0.mk (show y594.length ≤ c11 from by rw [hy11, hc11]; exact Nat.sub_le_sub_right hroom11 _)
       clear hr11 hC11 hroom11 hi011 hsz11 hc11
       have KY11 := Aside0.mk hy11
       have KA11 := Aside0.mk hA11
       clear hy11 hA11
       replace q11 := eq_true q11
       go_upto_if 25 with (fail)
       go_cut [8] (fun v8 wc => ∃ (kq : Nat) (x8_9 : List Int), Aside0 (spec_l2Sectors.j1 kq a0 l1 t590 x6_1 x7_1 x8_9 = some r) ∧ Aside0 (kq ≤ k1) ∧ Aside0 (Kd.V (Kd.int .u8) 5 wc w.heap.size (fun k_ => (P1_ k_ ∨ w.heap.size ≤ k_) ∧ some k_ ≠ (u6 : Value).ownBlock) (.slice A1 l1.length c1) l1) ∧ Aside0 (Kd.N (Kd.slice 5 (Kd.int .u8)) 22 wc w.heap.size (fun k_ => (P1_ k_ ∨ w.heap.size ≤ k_)) u6 x6_1) ∧ Aside0 (Kd.V (Kd.int .u8) 5 wc w.heap.size (fun k_ => (P1_ k_ ∨ w.heap.size ≤ k_) ∧ some k_ ≠ (u6 : Value).ownBlock) v8 x8_9) ∧ Aside0 (Below w.heap.size w wc))
       case first =>
        have H := HC10.out
        clear HC10
        by_cases c12 : (y594.length : Int) > 48
        · rw [if_pos c12] at H
          have c12b0 : decide (48 < (y594.length : Int)) = true := decide_eq_true c12
          have c12b1 : decide (48 < y594.length) = true := decide_eq_true (by omega)
          clear c12
          (first | rw [c12b0] | (simp only [i64_w, i32_w]; rw [c12b0]) | skip)
          by_cases c13 : 48 ≤ (y594.length : Int)
          · rw [if_pos c13] at H
            have c13b0 := eq_true c13
            have c13b1 : decide (48 ≤ (y594.length : Int)) = true := decide_eq_true c13
            clear c13
            obtain ⟨y599, hy599⟩ : ∃ y_ : List Int, y_ = (y594.take 48) := ⟨_, rfl⟩
            replace H : (spec_l2Sectors.j1 k1 a0 l1 t590 x6_1 x7_1 y599) = some r := by first | (rw [hy599]; with_reducible exact H) | (have H2_ := (Option.bind_some _ _).symm.trans H; rw [hy599]; with_reducible exact H2_) | (have H2_ := (Option.bind_some _ _).symm.trans H; with_reducible exact H2_) | with_reducible exact H | (rw [hy599]; exact H) | exact H
            have Ny599 := Aside0.mk hy599
            clear hy599
            have H' := Aside0.mk H
            clear H
            have q14 : (48 : Int) ≤ ((y594.length : Int) : Int) := of_decide_eq_true (by first | (with_reducible assumption) | assumption)
            obtain ⟨i014, hi014, _, hsz14, _⟩ := info_parts info5
            have hroom14 : y594.length ≤ c11 := (Kd.V_reads' HO598.out).2.1
            have hC14 : Kd.F (Kd.int .u8) _ _ A11 y594.length y594 := (Kd.V_at (base := w.heap.size) HO598.out).2.2
            have hcut14 := cut_to (P := Try.prog) 22 5 .i64 Try.underlying22 hi014 A11 y594.length c11 48 (by omega) q14 hroom14
            have hr14 := Kd.F_take (m := 48) hC14 (by omega)
            have hy14 : y599.length = (48 : Int).toNat := (by rw [Ny599.out, List.length_take]; omega)
            rw [← Ny599.out] at hr14
            rw [← hy14] at hcut14
            have HO603 := Aside0.mk (show Kd.V (Kd.int .u8) 5 _ w.heap.size _ (.slice A11 y599.length c11) y599 from Kd.V_mk (by omega) hr14)
            have HC603 := Aside0.mk (show y599.length ≤ c11 from by omega)
            clear hr14 hC14 hroom14 hi014 hsz14
            have KY14 := Aside0.mk hy14
            clear hy14
            replace q14 := eq_true q14
            go_wp2
            go_meet
            case rel => exact ⟨_, (y599), H', ⟨by have := HK1.out; first | omega | exact Nat.le_refl _⟩, ⟨by (with_reducible repeat (first | apply Kd.V_alloc | apply Kd.V_drewN | apply Kd.V_drew)); exact HO_1.out⟩, ⟨by (with_reducible repeat (first | apply Kd.N_alloc | apply Kd.N_drewN | apply Kd.N_drew)); exact HO_6.out⟩, ⟨by (with_reducible repeat (first | apply Kd.V_alloc | apply Kd.V_drewN | apply Kd.V_drew)); exact HO603.out⟩, ⟨by repeat (first | (with_reducible first | exact HB.out | apply below_alloc | apply pw_below_drewN | apply below_drew1) | exact HB.out)⟩⟩
          · rw [if_neg c13] at H
            exact absurd H (by simp)
        · rw [if_neg c12] at H
          have c12b0 : decide (48 < (y594.length : Int)) = false := decide_eq_false c12
          have c12b1 : decide (48 < y594.length) = false := decide_eq_false (by omega)
          clear c12
          (first | rw [c12b0] | (simp only [i64_w, i32_w]; rw [c12b0]) | skip)
          have H' := Aside0.mk H
          clear H
          go_wp2
          go_meet
          case rel => exact ⟨_, (y594), H', ⟨by have := HK1.out; first | omega | exact Nat.le_refl _⟩, ⟨by (with_reducible repeat (first | apply Kd.V_alloc | apply Kd.V_drewN | apply Kd.V_drew)); exact HO_1.out⟩, ⟨by (with_reducible repeat (first | apply Kd.N_alloc | apply Kd.N_drewN | apply Kd.N_drew)); exact HO_6.out⟩, ⟨by (with_reducible repeat (first | apply Kd.V_alloc | apply Kd.V_drewN | apply Kd.V_drew)); exact HO598.out⟩, ⟨by repeat (first | (with_reducible first | exact HB.out | apply below_alloc | apply pw_below_drewN | apply below_drew1) | exact HB.out)⟩⟩
       case rest =>
        clear HC10
        try clear c1
        try clear q1
        try clear p2
        try clear c4
        try clear c6
        try clear c6b0
        try clear p6
        try clear c8
        try clear c8b0
        try clear c8b1
        try clear c9
        try clear c9b0
        try clear c9b1
        try clear c11
        try clear q11
        try clear c12
        try clear c12b0
        try clear c12b1
        try clear c13
        try clear c13b0
        try clear c13b1
        try clear q14
        try clear p2
        try clear q011
        try clear q11
        try clear q14
        obtain ⟨kq, x8_9, HA, HJ9, HO_1, HO_6, HO_8, HB⟩ := hcut
        cases kq with
        | zero => exact absurd HA.out (by simp [spec_l2Sectors.j1])
        | succ kj9 =>
          have H := HA.out
          clear HA
          simp only [spec_l2Sectors.j1] at H
          replace H := Option.bind_eq_some_iff.mp H
          obtain ⟨t604, A150, H⟩ := H
          replace H : ((spec_l2Put.f kj9 x7_1 2).bind fun t607 => ((spec_l2Put.f kj9 t590 2).bind fun t610 => ((spec_l2Put.f kj9 (x8_9.length : Int) 2).bind fun t613 => ((spec_l2Cat.f kj9 (([t604, t607, t610, t613, (([82, 49] : List Int))] : List (List Int)))).bind fun t622 => ((spec_l1Zeros.f kj9 (wrap64 (48 - (x8_9.length : Int)))).bind fun t625 => ((spec_l2Cat.f kj9 (([t622, x8_9, t625] : List (List Int)))).bind fun t631 => ((spec_l2Seal.f kj9 t631).bind fun t634 => (if x6_1.length < 5864062014805 then (spec_l2Sectors.l0 kj9 a0 l1 t590 (x6_1 ++ [t634]) (wrap64 (x7_1 + 1))) else (none))))))))) = some r := H
          have A15 := Aside0.mk A150
          clear A150
          replace H := Option.bind_eq_some_iff.mp H
          obtain ⟨t607, A160, H⟩ := H
          replace H : ((spec_l2Put.f kj9 t590 2).bind fun t610 => ((spec_l2Put.f kj9 (x8_9.length : Int) 2).bind fun t613 => ((spec_l2Cat.f kj9 (([t604, t607, t610, t613, (([82, 49] : List Int))] : List (List Int)))).bind fun t622 => ((spec_l1Zeros.f kj9 (wrap64 (48 - (x8_9.length : Int)))).bind fun t625 => ((spec_l2Cat.f kj9 (([t622, x8_9, t625] : List (List Int)))).bind fun t631 => ((spec_l2Seal.f kj9 t631).bind fun t634 => (if x6_1.length < 5864062014805 then (spec_l2Sectors.l0 kj9 a0 l1 t590 (x6_1 ++ [t634]) (wrap64 (x7_1 + 1))) else (none)))))))) = some r := H
          have A16 := Aside0.mk A160
          clear A160
          replace H := Option.bind_eq_some_iff.mp H
          obtain ⟨t610, A170, H⟩ := H
          replace H : ((spec_l2Put.f kj9 (x8_9.length : Int) 2).bind fun t613 => ((spec_l2Cat.f kj9 (([t604, t607, t610, t613, (([82, 49] : List Int))] : List (List Int)))).bind fun t622 => ((spec_l1Zeros.f kj9 (wrap64 (48 - (x8_9.length : Int)))).bind fun t625 => ((spec_l2Cat.f kj9 (([t622, x8_9, t625] : List (List Int)))).bind fun t631 => ((spec_l2Seal.f kj9 t631).bind fun t634 => (if x6_1.length < 5864062014805 then (spec_l2Sectors.l0 kj9 a0 l1 t590 (x6_1 ++ [t634]) (wrap64 (x7_1 + 1))) else (none))))))) = some r := H
          have A17 := Aside0.mk A170
          clear A170
          replace H := Option.bind_eq_some_iff.mp H
          obtain ⟨t613, A180, H⟩ := H
          replace H : ((spec_l2Cat.f kj9 (([t604, t607, t610, t613, (([82, 49] : List Int))] : List (List Int)))).bind fun t622 => ((spec_l1Zeros.f kj9 (wrap64 (48 - (x8_9.length : Int)))).bind fun t625 => ((spec_l2Cat.f kj9 (([t622, x8_9, t625] : List (List Int)))).bind fun t631 => ((spec_l2Seal.f kj9 t631).bind fun t634 => (if x6_1.length < 5864062014805 then (spec_l2Sectors.l0 kj9 a0 l1 t590 (x6_1 ++ [t634]) (wrap64 (x7_1 + 1))) else (none)))))) = some r := H
          have A18 := Aside0.mk A180
          clear A180
          obtain ⟨y616, hy616⟩ : ∃ y_ : List Int, y_ = (([82, 49] : List Int)) := ⟨_, rfl⟩
          replace H : ((spec_l2Cat.f kj9 (([t604, t607, t610, t613, y616] : List (List Int)))).bind fun t622 => ((spec_l1Zeros.f kj9 (wrap64 (48 - (x8_9.length : Int)))).bind fun t625 => ((spec_l2Cat.f kj9 (([t622, x8_9, t625] : List (List Int)))).bind fun t631 => ((spec_l2Seal.f kj9 t631).bind fun t634 => (if x6_1.length < 5864062014805 then (spec_l2Sectors.l0 kj9 a0 l1 t590 (x6_1 ++ [t634]) (wrap64 (x7_1 + 1))) else (none)))))) = some r := by first | (rw [hy616]; with_reducible exact H) | (have H2_ := (Option.bind_some _ _).symm.trans H; rw [hy616]; with_reducible exact H2_) | (have H2_ := (Option.bind_some _ _).symm.trans H; with_reducible exact H2_) | with_reducible exact H | (rw [hy616]; exact H) | exact H
          have Ny616 := Aside0.mk hy616
          clear hy616
          obtain ⟨y619, hy619⟩ : ∃ y_ : List (List Int), y_ = (([t604, t607, t610, t613, y616] : List (List Int))) := ⟨_, rfl⟩
          replace H : ((spec_l2Cat.f kj9 y619).bind fun t622 => ((spec_l1Zeros.f kj9 (wrap64 (48 - (x8_9.length : Int)))).bind fun t625 => ((spec_l2Cat.f kj9 (([t622, x8_9, t625] : List (List Int)))).bind fun t631 => ((spec_l2Seal.f kj9 t631).bind fun t634 => (if x6_1.length < 5864062014805 then (spec_l2Sectors.l0 kj9 a0 l1 t590 (x6_1 ++ [t634]) (wrap64 (x7_1 + 1))) else (none)))))) = some r := by first | (rw [hy619]; with_reducible exact H) | (have H2_ := (Option.bind_some _ _).symm.trans H; rw [hy619]; with_reducible exact H2_) | (have H2_ := (Option.bind_some _ _).symm.trans H; with_reducible exact H2_) | with_reducible exact H | (rw [hy619]; exact H) | exact H
          have Ny619 := Aside0.mk hy619
          clear hy619
          replace H := Option.bind_eq_some_iff.mp H
          obtain ⟨t622, A190, H⟩ := H
          replace H : ((spec_l1Zeros.f kj9 (wrap64 (48 - (x8_9.length : Int)))).bind fun t625 => ((spec_l2Cat.f kj9 (([t622, x8_9, t625] : List (List Int)))).bind fun t631 => ((spec_l2Seal.f kj9 t631).bind fun t634 => (if x6_1.length < 5864062014805 then (spec_l2Sectors.l0 kj9 a0 l1 t590 (x6_1 ++ [t634]) (wrap64 (x7_1 + 1))) else (none))))) = some r := H
          have A19 := Aside0.mk A190
          clear A190
          replace H := Option.bind_eq_some_iff.mp H
          obtain ⟨t625, A200, H⟩ := H
          replace H : ((spec_l2Cat.f kj9 (([t622, x8_9, t625] : List (List Int)))).bind fun t631 => ((spec_l2Seal.f kj9 t631).bind fun t634 => (if x6_1.length < 5864062014805 then (spec_l2Sectors.l0 kj9 a0 l1 t590 (x6_1 ++ [t634]) (wrap64 (x7_1 + 1))) else (none)))) = some r := H
          have A20 := Aside0.mk A200
          clear A200
          obtain ⟨y628, hy628⟩ : ∃ y_ : List (List Int), y_ = (([t622, x8_9, t625] : List (List Int))) := ⟨_, rfl⟩
          replace H : ((spec_l2Cat.f kj9 y628).bind fun t631 => ((spec_l2Seal.f kj9 t631).bind fun t634 => (if x6_1.length < 5864062014805 then (spec_l2Sectors.l0 kj9 a0 l1 t590 (x6_1 ++ [t634]) (wrap64 (x7_1 + 1))) else (none)))) = some r := by first | (rw [hy628]; with_reducible exact H) | (have H2_ := (Option.bind_some _ _).symm.trans H; rw [hy628]; with_reducible exact H2_) | (have H2_ := (Option.bind_some _ _).symm.trans H; with_reducible exact H2_) | with_reducible exact H | (rw [hy628]; exact H) | exact H
          have Ny628 := Aside0.mk hy628
          clear hy628
          replace H := Option.bind_eq_some_iff.mp H
          obtain ⟨t631, A210, H⟩ := H
          replace H : ((spec_l2Seal.f kj9 t631).bind fun t634 => (if x6_1.length < 5864062014805 then (spec_l2Sectors.l0 kj9 a0 l1 t590 (x6_1 ++ [t634]) (wrap64 (x7_1 + 1))) else (none))) = some r := H
          have A21 := Aside0.mk A210
          clear A210
          replace H := Option.bind_eq_some_iff.mp H
          obtain ⟨t634, A220, H⟩ := H
          replace H : (if x6_1.length < 5864062014805 then (spec_l2Sectors.l0 kj9 a0 l1 t590 (x6_1 ++ [t634]) (wrap64 (x7_1 + 1))) else (none)) = some r := H
          have A22 := Aside0.mk A220
          clear A220
          by_cases c23 : x6_1.length < 5864062014805
          · rw [if_pos c23] at H
            have LMc23 := Aside0.mk c23
            clear c23
            obtain ⟨y637, hy637⟩ : ∃ y_ : List (List Int), y_ = (x6_1 ++ [t634]) := ⟨_, rfl⟩
            replace H : (spec_l2Sectors.l0 kj9 a0 l1 t590 y637 (wrap64 (x7_1 + 1))) = some r := by first | (rw [hy637]; with_reducible exact H) | (have H2_ := (Option.bind_some _ _).symm.trans H; rw [hy637]; with_reducible exact H2_) | (have H2_ := (Option.bind_some _ _).symm.trans H; with_reducible exact H2_) | with_reducible exact H | (rw [hy637]; exact H) | exact H
            have Ny637 := Aside0.mk hy637
            clear hy637
            have H' := Aside0.mk H
            clear H
            obtain ⟨Ao27, co27, eo27⟩ := Kd.V_slice HO_8.out
            subst eo27
            have H0 := Aside0.mk (Below.refl wc.heap.size wc)
            have XR := Aside0.mk (show RW wc Ao27 co27 x8_9 from ⟨(Kd.V_reads' HO_8.out).2.1, (Kd.V_reads' HO_8.out).2.2⟩)
            clear HO_8
            go_wp2_with fail
            refine (spec_l2Put.calls kj9 a0 4 t604 _ A15.out).mono ?_
            rintro e W1 ⟨v_, rfl, ho0, hb⟩
            obtain ⟨B1, d1, rfl⟩ := Kd.R_slice ho0
            have F1 := Aside0.mk (RW.of_R ho0)
            replace H0 := Aside0.mk (below_step H0.out hb)
            clear ho0 hb
            go_wp2_with fail
            refine (spec_l2Put.calls kj9 x7_1 2 t607 _ A16.out).mono ?_
            rintro e W2 ⟨v_, rfl, ho0, hb⟩
            obtain ⟨B2, d2, rfl⟩ := Kd.R_slice ho0
            have F2 := Aside0.mk (RW.of_R ho0)
            replace F1 := Aside0.mk (F1.out.below hb)
            replace H0 := Aside0.mk (below_step H0.out hb)
            clear ho0 hb
            go_wp2_with fail
            refine (spec_l2Put.calls kj9 t590 2 t610 _ A17.out).mono ?_
            rintro e W3 ⟨v_, rfl, ho0, hb⟩
            obtain ⟨B3, d3, rfl⟩ := Kd.R_slice ho0
            have F3 := Aside0.mk (RW.of_R ho0)
            replace F1 := Aside0.mk (F1.out.below hb)
            replace F2 := Aside0.mk (F2.out.below hb)
            replace H0 := Aside0.mk (below_step H0.out hb)
            clear ho0 hb
            go_wp2_with fail
            refine (spec_l2Put.calls kj9 (x8_9.length : Int) 2 t613 _ A18.out).mono ?_
            rintro e W4 ⟨v_, rfl, ho0, hb⟩
            obtain ⟨B4, d4, rfl⟩ := Kd.R_slice ho0
            have F4 := Aside0.mk (RW.of_R ho0)
            replace F1 := Aside0.mk (F1.out.below hb)
            replace F2 := Aside0.mk (F2.out.below hb)
            replace F3 := Aside0.mk (F3.out.below hb)
            replace H0 := Aside0.mk (below_step H0.out hb)
            clear ho0 hb
            have hlit : LitB (W4.alloc (.cells #[.int .u8 82, .int .u8 49] 5)) wc.heap.size W4.heap.size [82, 49] false := LitB.made (base := wc.heap.size) W4 [82, 49] H0.out.size
            have hmk : (convert 22 22 (.slice (some ⟨W4.heap.size, 0, none⟩) 2 2)).run Try.prog (W4.alloc (.cells #[.int .u8 82, .int .u8 49] 5)) = .ok (.slice (some ⟨W4.heap.size, 0, none⟩) 2 2) ((W4.alloc (.cells #[.int .u8 82, .int .u8 49] 5)).freeze ⟨W4.heap.size, 2, none⟩ 1) := mark_run 22 2 2 Try.underlying22 hlit
            have hb1 := below_alloc (Below.refl W4.heap.size W4) (.cells #[.int .u8 82, .int .u8 49] 5)
            have F5 := Aside0.mk (show RW ((W4.alloc (.cells #[.int .u8 82, .int .u8 49] 5)).freeze ⟨W4.heap.size, 2, none⟩ 1) (some ⟨W4.heap.size, 0, none⟩) 2 y616 by rw [Ny616.out]; exact (mark_self hlit).rw (by decide))
            have hl5 : y616.length = 2 := by rw [Ny616.out]; rfl
            replace F1 := Aside0.mk ((F1.out.below hb1).mark hlit)
            replace F2 := Aside0.mk ((F2.out.below hb1).mark hlit)
            replace F3 := Aside0.mk ((F3.out.below hb1).mark hlit)
            replace F4 := Aside0.mk ((F4.out.below hb1).mark hlit)
            replace H0 := Aside0.mk (below_mark (by have := H0.out.size; omega) (below_step H0.out hb1) hlit)
            have HL5 := Aside0.mk hl5
            go_wp2_with fail
            clear hmk hb1 hlit hl5
            generalize ((W4.alloc (.cells #[.int .u8 82, .int .u8 49] 5)).freeze ⟨W4.heap.size, 2, none⟩ 1) = W5 at *
            generalize W4.heap.size = g5 at *
            have h5 : y619.length = 5 := by rw [Ny619.out]; rfl
            have hM : RWs (W5.alloc (.cells #[.slice B1 t604.length d1, .slice B2 t607.length d2, .slice B3 t610.length d3, .slice B4 t613.length d4, .slice (some ⟨g5, 0, none⟩) 2 2] 22)) W5.heap.size y619 := by
             rw [Ny619.out]
             refine RWs.made W5 _ [.slice B1 t604.length d1, .slice B2 t607.length d2, .slice B3 t610.length d3, .slice B4 t613.length d4, .slice (some ⟨g5, 0, none⟩) 2 2] (by simp) rfl (fun j xs hj => ?_)
             match j, hj with
             | 0, hj => exact ⟨_, _, by cases hj; rfl, by cases hj; exact F1.out⟩
             | 1, hj => exact ⟨_, _, by cases hj; rfl, by cases hj; exact F2.out⟩
             | 2, hj => exact ⟨_, _, by cases hj; rfl, by cases hj; exact F3.out⟩
             | 3, hj => exact ⟨_, _, by cases hj; rfl, by cases hj; exact F4.out⟩
             | 4, hj => exact ⟨some ⟨g5, 0, none⟩, 2, by cases hj; show some (Value.slice (some ⟨g5, 0, none⟩) 2 2) = some (Value.slice (some ⟨g5, 0, none⟩) y616.length 2); rw [HL5.out], by cases hj; exact F5.out⟩
             | _ + 5, hj => simp at hj
            have hcat := spec_l2Cat.calls kj9 (some ⟨W5.heap.size, 0, none⟩) 5 y619 t622 _ hM (by rw [h5]; exact Nat.le_refl _) A19.out
            rw [h5] at hcat
            refine hcat.mono ?_
            rintro e W6 ⟨v_, rfl, ho0, hb⟩
            obtain ⟨B6, d6, rfl⟩ := Kd.R_slice ho0
            have F6 := Aside0.mk (RW.of_R ho0)
            replace H0 := Aside0.mk (below_step (below_alloc H0.out _) hb)
            clear ho0 hb hM hcat F1 F2 F3 F4 F5
            go_wp2_with fail
            refine (spec_l1Zeros.calls kj9 (wrap64 (48 - (x8_9.length : Int))) t625 _ A20.out).mono ?_
            rintro e W7 ⟨v_, rfl, ho0, hb⟩
            obtain ⟨B7, d7, rfl⟩ := Kd.R_slice ho0
            have F7 := Aside0.mk (RW.of_R ho0)
            replace F6 := Aside0.mk (F6.out.below hb)
            replace H0 := Aside0.mk (below_step H0.out hb)
            clear ho0 hb
            go_wp2_with fail
            have h3 : y628.length = 3 := by rw [Ny628.out]; rfl
            have hM : RWs (W7.alloc (.cells #[.slice B6 t622.length d6, .slice Ao27 x8_9.length co27, .slice B7 t625.length d7] 22)) W7.heap.size y628 := by
             rw [Ny628.out]
             refine RWs.made W7 _ [.slice B6 t622.length d6, .slice Ao27 x8_9.length co27, .slice B7 t625.length d7] (by simp) rfl (fun j xs hj => ?_)
             match j, hj with
             | 0, hj => exact ⟨_, _, by cases hj; rfl, by cases hj; exact F6.out⟩
             | 1, hj => exact ⟨_, _, by cases hj; rfl, by cases hj; exact XR.out.below H0.out⟩
             | 2, hj => exact ⟨_, _, by cases hj; rfl, by cases hj; exact F7.out⟩
             | _ + 3, hj => simp at hj
            have hcat := spec_l2Cat.calls kj9 (some ⟨W7.heap.size, 0, none⟩) 3 y628 t631 _ hM (by rw [h3]; exact Nat.le_refl _) A21.out
            rw [h3] at hcat
            refine hcat.mono ?_
            rintro e W8 ⟨v_, rfl, ho0, hb⟩
            obtain ⟨B8, d8, rfl⟩ := Kd.R_slice ho0
            have HV := Aside0.mk (show Kd.V (Kd.int .u8) 5 W8 W8.heap.size (fun _ => True) (.slice B8 t631.length d8) t631 from Kd.R_V ho0)
            replace H0 := Aside0.mk (below_step (below_alloc H0.out _) hb)
            clear ho0 hb hM hcat F6 F7 XR
            go_wp2_with fail
            refine (spec_l2Seal.calls kj9 (fun _ => True) B8 d8 t631 t634 _ HV.out A22.out).mono ?_
            rintro e W9 ⟨v_, rfl, ho0, hb⟩
            obtain ⟨B9, d9, rfl⟩ := Kd.R_slice ho0
            have hs8 := H0.out.size
            replace H0 := Aside0.mk (below_step H0.out hb)
            have hR := Aside0.mk ho0
            have hsw := HB.out.size
            have hN := Kd.N_below HO_6.out H0.out
            have hV := Kd.V_below HO_1.out H0.out
            have hlt6 := Kd.N_lt HO_6.out
            have hE : Kd.R (Kd.int .u8) 5 W9 W8.heap.size (fun k_ => (P1_ k_ ∨ w.heap.size ≤ k_) ∧ some k_ ≠ (u6 : Value).ownBlock) (.slice B9 t634.length d9) t634 := Kd.R_mono ho0 (fun k_ hk => ⟨.inr (by omega), fun he => by have := hlt6 k_ he.symm; omega⟩)
            have HN := Aside0.mk hN
            have HV2 := Aside0.mk hV
            have HE := Aside0.mk hE
            have HBW := Aside0.mk (below_step HB.out H0.out)
            clear ho0 hb hN hV hE HV
            go_wp2_with ((with_reducible refine gate_builtin (b := .append) (xs := #[.tmp 41, .tmp 51]) rfl ?_); at_builtin; refine Kd.N_append (Kd.slice 5 (Kd.int .u8)) (w0 := w) w.heap.size rfl (.tmp 41) (.tmp 51) 98 22 (.slice none 0 0) 24 rfl Try.underlying98 info22 rfl (by decide) (by omega) u6 x6_1 t634 [.slice B9 t634.length d9] (fun k_ => (P1_ k_ ∨ w.heap.size ≤ k_)) (fun k_ => (P1_ k_ ∨ w.heap.size ≤ k_) ∧ some k_ ≠ (u6 : Value).ownBlock) rfl rfl ?aP (fun _ hk => hk) ?aF ?aO ?aB ?aS ?aL ?_; (case aP => exact Kd.FK_slice_mk (Kd.R_reads' HE.out).2.1 (Kd.R_F HE.out)); (case aB => exact HBW.out); (case aF => exact fun k_ hk => .inr (Nat.le_trans HBW.out.size hk)); (case aO => exact HN.out); (case aS => exact HBW.out.size); (case aL => have := LMc23.out; omega); intro v638 w49 ho hb hg hat; rw [← Ny637.out] at ho; have n0_ := Aside0.mk (Kd.V_afterv (ok := (fun k_ => (P1_ k_ ∨ w.heap.size ≤ k_))) HV2.out hg hat); have n1_ := Aside0.mk ho; have n2_ := Aside0.mk hb; clear HO_1; clear HB; clear HO_6; have HO_1 := n0_; have HO639 := n1_; have HB := n2_; clear n0_ n1_ n2_; clear ho hb hg hat HN HV2 HE HBW)
            go_roundg kj9
            case measure => have := HK1.out; have := HJ9.out; omega
            case rel => exact ⟨(y637), (wrap64 (x7_1 + 1)), (by first | rfl | (simp; done) | (simp [*]; done)), H', ⟨by have := HK1.out; have := HJ9.out; omega⟩, HO_1, HO639, HB⟩
          · rw [if_neg c23] at H
            exact absurd H (by simp)
      ·rw [if_neg c9] at H
       exact absurd H (by simp)
     ·rw [if_neg c8] at H
      exact absurd H (by simp)
    ·rw [if_neg c6] at H
     have c6b0 : decide (x7_1 < t590) = false := decide_eq_false c6
     clear c6
     obtain rfl := Option.some.inj H
     go_wp2
     go_ret
     exact ⟨_, by first | rfl | (simp [errW_none, errW_some] <;> rfl) | (simp [*, errW_none, errW_some] <;> rfl), by (with_reducible repeat (first | apply Kd.N_alloc | apply Kd.N_drewN | apply Kd.N_drew)); exact HO_6.out, by repeat (first | (with_reducible first | exact HB.out | apply below_alloc | apply pw_below_drewN | apply below_drew1) | exact HB.out)⟩

/-! ### spec_ReadRec: function 25 -/
mutual
def spec_ReadRec.j0 : Nat → Int → Int → Bool → List Int → List (S79) → Int → Bool → Option (Bool × List Int × Int)
 | 0, _, _, _, _, _, _, _ => none
 | k + 1, x1, x2, x30, x641000, x641001, x641002, x641003 => if x30 = true then (some (false, ([] : List Int), 0)) else ((spec_DiskRead.f k x641000 x641001 x641002 x641003 x1).bind fun t645 => (if 6 ≤ 8 then (if 8 ≤ (t645.length : Int) then ((spec_l2Get.f k ((t645.take 8).drop 6)).bind fun t653 => (if t653 < 1 then (spec_ReadRec.j1 k x1 x2 t653 true x641000 x641001 x641002 x641003) else ((spec_l1Sectors.f x641000 x641001 x641002 x641003).bind fun t654 => (spec_ReadRec.j1 k x1 x2 t653 (decide ((wrap64 (x1 + t653)) > t654)) x641000 x641001 x641002 x641003)))) else (none)) else (none)))
def spec_ReadRec.j1 : Nat → Int → Int → Int → Bool → List Int → List (S79) → Int → Bool → Option (Bool × List Int × Int)
 | 0, _, _, _, _, _, _, _, _ => none
 | k + 1, x1, x2, x7, x46, x641000, x641001, x641002, x641003 => if x46 = true then (some (false, ([] : List Int), 0)) else (spec_ReadRec.l0 k x1 x2 x7 (([] : List Int)) (([] : List Int)) 0 x641000 x641001 x641002 x641003)
def spec_ReadRec.l0 : Nat → Int → Int → Int → List Int → List Int → Int → List Int → List (S79) → Int → Bool → Option (Bool × List Int × Int)
 | 0, _, _, _, _, _, _, _, _, _, _ => none
 | k + 1, x1, x2, x7, x8, x9, x10, x641000, x641001, x641002, x641003 => if x10 < x7 then ((spec_DiskRead.f k x641000 x641001 x641002 x641003 (wrap64 (x1 + x10))).bind fun t661 => (if 8 ≤ 10 then (if 10 ≤ (t661.length : Int) then ((spec_l2Get.f k ((t661.take 10).drop 8)).bind fun t669 => (if t669 > 48 then (some (false, ([] : List Int), 0)) else (if 12 ≤ (wrap64 (12 + t669)) then (if (wrap64 (12 + t669)) ≤ (t661.length : Int) then ((some ((t661.take ((wrap64 (12 + t669)) : Int).toNat).drop 12 : List Int)).bind fun y670 => (if x8.length + y670.length < 140737488355328 then (if x9.length + t661.length < 140737488355328 then (spec_ReadRec.l0 k x1 x2 x7 (x8 ++ y670) (x9 ++ t661) (wrap64 (x10 + 1)) x641000 x641001 x641002 x641003) else (none)) else (none))) else (none)) else (none)))) else (none)) else (none))) else (if (x8.length : Int) > 30000 then (some (false, ([] : List Int), 0)) else ((spec_l2Sectors.f k x2 x8).bind fun t681 => ((spec_l2Cat.f k t681).bind fun t684 => (if (strOfNums t684).toList = (strOfNums x9).toList then (some (true, x8, x7)) else (some (false, ([] : List Int), 0))))))
end
def spec_ReadRec.f (k : Nat) (l0_0 : List Int) (l0_1 : List (S79)) (a0_2 : Int) (a0_3 : Bool) (a1 : Int) (a2 : Int) : Option (Bool × List Int × Int) := (spec_ValidDisk.f k l0_0 l0_1 a0_2 a0_3).bind fun t642 => (if t642 = true then ((spec_l2Number.f a2).bind fun t643 => (if t643 = true then (if a1 < 0 then (spec_ReadRec.j0 k a1 a2 true l0_0 l0_1 a0_2 a0_3) else ((spec_l1Sectors.f l0_0 l0_1 a0_2 a0_3).bind fun t644 => (spec_ReadRec.j0 k a1 a2 (decide (a1 ≥ t644)) l0_0 l0_1 a0_2 a0_3))) else (spec_ReadRec.j0 k a1 a2 true l0_0 l0_1 a0_2 a0_3))) else (spec_ReadRec.j0 k a1 a2 true l0_0 l0_1 a0_2 a0_3))

/-! ### yimpl_piece: a text by hand -/
-- import Derived.StillTailTactics
-- import Derived.Laws.CopyOwn
-- import Derived.Laws.CopyRow
-- import Derived.Laws.IdiomCopy
-- import Derived.Lib.BufferWrite
theorem r1_row : ∀ (x : List Int), 12 ≤ x.length → ((x.map (Value.int .u8)).toArray.toList.take 10 ++ Go.Lib.byteCells (⟨#[82, 49]⟩ : ByteArray).data.toList ++ (x.map (Value.int .u8)).toArray.toList.drop (10 + (⟨#[82, 49]⟩ : ByteArray).size)) = ((x.set 10 82).set 11 49).map (Value.int .u8)
 | a0 :: a1 :: a2 :: a3 :: a4 :: a5 :: a6 :: a7 :: a8 :: a9 :: a10 :: a11 :: t, _ => rfl
 | [], h => by simp at h
 | [_], h => by simp at h
 | [_, _], h => by simp at h
 | [_, _, _], h => by simp at h
 | [_, _, _, _], h => by simp at h
 | [_, _, _, _, _], h => by simp at h
 | [_, _, _, _, _, _], h => by simp at h
 | [_, _, _, _, _, _, _], h => by simp at h
 | [_, _, _, _, _, _, _, _], h => by simp at h
 | [_, _, _, _, _, _, _, _, _], h => by simp at h
 | [_, _, _, _, _, _, _, _, _, _], h => by simp at h
 | [_, _, _, _, _, _, _, _, _, _, _], h => by simp at h
def cp12 (x part : List Int) : List Int := x.take 12 ++ part ++ x.drop (12 + part.length)
def pHead (seq i k n : Int) : Option (List Int) := (impl_put.f 5 (List.replicate 64 0) 0 4 seq).bind fun x1 => (impl_put.f 5 x1 4 2 i).bind fun x2 => (impl_put.f 5 x2 6 2 k).bind fun x3 => impl_put.f 5 x3 8 2 n
def cPiece (kc : Nat) (seq i k : Int) (part : List Int) : Option (List Int) := (pHead seq i k part.length).bind fun x => (spec_Crc32.f kc ((cp12 ((x.set 10 82).set 11 49) part).take 60)).bind fun cr => impl_put.f 5 (cp12 ((x.set 10 82).set 11 49) part) 60 4 cr
theorem cp12_len (x part : List Int) (h : x.length = 64) (hp : part.length ≤ 48) : (cp12 x part).length = 64 := by
 simp [cp12]
 omega
set_option maxHeartbeats 4000000 in
set_option maxRecDepth 100000 in
/-- piece: a sector of a record. -/
theorem impl_piece_arr (kc : Nat) (seq i k : Int) (A : Option Addr) (c : Nat) (part : List Int) (r : List Int) (w : World) (hr0 : Kd.C (Kd.int .u8) w A part.length part) (hc0 : part.length ≤ c) (hp : part.length ≤ 48) (h : cPiece kc seq i k part = some r) (hcr : ∀ (l : List Int) (c : Int), l.length ≤ 60 → spec_Crc32.f kc l = some c → 0 ≤ c ∧ c < 4294967296) :
  Calls Try.prog 72 #[.int .i64 seq, .int .i64 i, .int .i64 k, .slice A part.length c] w fun e w' => e = .returned (.agg (r.map (Value.int .u8)).toArray) ∧ r.length = 64 ∧ Below w.heap.size w w' := by
 unfold cPiece pHead at h
 obtain ⟨x4, h0, h⟩ := Option.bind_eq_some_iff.1 h
 obtain ⟨x1, h1, h0⟩ := Option.bind_eq_some_iff.1 h0
 obtain ⟨x2, h2, h0⟩ := Option.bind_eq_some_iff.1 h0
 obtain ⟨x3, h3, h4⟩ := Option.bind_eq_some_iff.1 h0
 obtain ⟨cr, h5, h6⟩ := Option.bind_eq_some_iff.1 h
 have A1_ := Aside0.mk h1
 have A2_ := Aside0.mk h2
 have A3_ := Aside0.mk h3
 have A4_ := Aside0.mk h4
 have A5_ := Aside0.mk h5
 have A6_ := Aside0.mk h6
 have AC_ := Aside0.mk (hcr _ _ (by rw [List.length_take]; omega) h5)
 have HR := Aside0.mk hr0
 have HC := Aside0.mk hc0
 have HP := Aside0.mk hp
 clear h h0 h1 h2 h3 h4 h5 h6 hcr hr0 hc0
 have HB := Aside0.mk (Below.refl w.heap.size w)
 go_enter Try.func72, Try.ntmps72
 go_wp2_with fail
 obtain ⟨zs, hzs⟩ : ∃ zs : List Int, zs = List.replicate 64 0 := ⟨_, rfl⟩
 have hzl : zs.length = 64 := by rw [hzs]; rfl
 change Calls _ _ _ ((w.alloc (.cells ((List.replicate 64 (0 : Int)).map (Value.int .u8)).toArray 84)).alloc (.cells ((List.replicate 64 (0 : Int)).map (Value.int .u8)).toArray 84)) _
 rw [← hzs] at A1_ ⊢
 have K1 := Aside0.mk (blk_alloc (blk_new w (.cells (zs.map (Value.int .u8)).toArray 84)) (.cells (zs.map (Value.int .u8)).toArray 84))
 have K2 := Aside0.mk (blk_new (w.alloc (.cells (zs.map (Value.int .u8)).toArray 84)) (.cells (zs.map (Value.int .u8)).toArray 84))
 simp only [World.size_alloc] at K2
 replace HB := Aside0.mk (below_alloc (below_alloc HB.out (.cells (zs.map (Value.int .u8)).toArray 84)) (.cells (zs.map (Value.int .u8)).toArray 84))
 generalize ((w.alloc (.cells (zs.map (Value.int .u8)).toArray 84)).alloc (.cells (zs.map (Value.int .u8)).toArray 84)) = W0 at *
 have hput := impl_put_arr 5 84 (w.heap.size + 1) 64 zs 0 4 seq x1 W0 K2.out A1_.out
 rw [hzl] at hput
 refine hput.mono ?_
 rintro e w9 ⟨rfl, hlx1, rfl⟩
 replace K1 := Aside0.mk ((setRow_other W0 (w.heap.size + 1) _ (x1.map (Value.int .u8)).toArray (by omega)).trans K1.out)
 replace K2 := Aside0.mk (setRow_heap W0 (w.heap.size + 1) _ (x1.map (Value.int .u8)).toArray 84 (0, 0) K2.out)
 replace HB := Aside0.mk (below_setRow (g := w.heap.size + 1) HB.out (by omega) (x1.map (Value.int .u8)).toArray)
 clear hput
 generalize W0.setRow (w.heap.size + 1) (x1.map (Value.int .u8)).toArray = W1 at *
 go_wp2_with fail
 have hput := impl_put_arr 5 84 (w.heap.size + 1) 64 x1 4 2 i x2 W1 K2.out A2_.out
 rw [hlx1] at hput
 refine hput.mono ?_
 rintro e w9 ⟨rfl, hlx2, rfl⟩
 replace K1 := Aside0.mk ((setRow_other W1 (w.heap.size + 1) _ (x2.map (Value.int .u8)).toArray (by omega)).trans K1.out)
 replace K2 := Aside0.mk (setRow_heap W1 (w.heap.size + 1) _ (x2.map (Value.int .u8)).toArray 84 (0, 0) K2.out)
 replace HB := Aside0.mk (below_setRow (g := w.heap.size + 1) HB.out (by omega) (x2.map (Value.int .u8)).toArray)
 clear hput
 generalize W1.setRow (w.heap.size + 1) (x2.map (Value.int .u8)).toArray = W2 at *
 go_wp2_with fail
 have hput := impl_put_arr 5 84 (w.heap.size + 1) 64 x2 6 2 k x3 W2 K2.out A3_.out
 rw [hlx2] at hput
 refine hput.mono ?_
 rintro e w9 ⟨rfl, hlx3, rfl⟩
 replace K1 := Aside0.mk ((setRow_other W2 (w.heap.size + 1) _ (x3.map (Value.int .u8)).toArray (by omega)).trans K1.out)
 replace K2 := Aside0.mk (setRow_heap W2 (w.heap.size + 1) _ (x3.map (Value.int .u8)).toArray 84 (0, 0) K2.out)
 replace HB := Aside0.mk (below_setRow (g := w.heap.size + 1) HB.out (by omega) (x3.map (Value.int .u8)).toArray)
 clear hput
 generalize W2.setRow (w.heap.size + 1) (x3.map (Value.int .u8)).toArray = W3 at *
 go_wp2_with fail
 have hput := impl_put_arr 5 84 (w.heap.size + 1) 64 x3 8 2 (part.length : Int) x4 W3 K2.out A4_.out
 rw [hlx3] at hput
 refine hput.mono ?_
 rintro e w9 ⟨rfl, hlx4, rfl⟩
 replace K1 := Aside0.mk ((setRow_other W3 (w.heap.size + 1) _ (x4.map (Value.int .u8)).toArray (by omega)).trans K1.out)
 replace K2 := Aside0.mk (setRow_heap W3 (w.heap.size + 1) _ (x4.map (Value.int .u8)).toArray 84 (0, 0) K2.out)
 replace HB := Aside0.mk (below_setRow (g := w.heap.size + 1) HB.out (by omega) (x4.map (Value.int .u8)).toArray)
 clear hput
 generalize W3.setRow (w.heap.size + 1) (x4.map (Value.int .u8)).toArray = W4 at *
 go_wp2_with fail
 have hcp := Go.Lib.run_copy_row_string (P := Try.prog) W4 22 9 3 5 (w.heap.size + 1) 10 54 54 ⟨#[82, 49]⟩ _ 84 Try.underlying22 rfl K2.out (by decide) (by simp [hlx4]; decide)
 rw [r1_row x4 (by omega)] at hcp
 rw [hcp]
 simp only [Result.andThen_ok]
 replace K1 := Aside0.mk ((setRow_other W4 (w.heap.size + 1) _ (((x4.set 10 82).set 11 49).map (Value.int .u8)).toArray (by omega)).trans K1.out)
 replace K2 := Aside0.mk (setRow_heap W4 (w.heap.size + 1) _ (((x4.set 10 82).set 11 49).map (Value.int .u8)).toArray 84 (0, 0) K2.out)
 replace HB := Aside0.mk (below_setRow (g := w.heap.size + 1) HB.out (by omega) (((x4.set 10 82).set 11 49).map (Value.int .u8)).toArray)
 clear hcp
 generalize W4.setRow (w.heap.size + 1) (((x4.set 10 82).set 11 49).map (Value.int .u8)).toArray = W5 at *
 obtain ⟨x5, hx5⟩ : ∃ x5, x5 = (x4.set 10 82).set 11 49 := ⟨_, rfl⟩
 rw [← hx5] at K2 A5_ A6_
 have hx5l : x5.length = 64 := by rw [hx5, List.length_set, List.length_set]; exact hlx4
 have hcp2 : ∃ n, (Builtin.copy_ #[22, 22] 3 #[.slice (some ⟨w.heap.size + 1, 12, none⟩) 48 52, .slice A part.length c]).run Try.prog W5 = .ok n (W5.setRow (w.heap.size + 1) ((cp12 x5 part).map (Value.int .u8)).toArray) := by
  by_cases hn : part = []
  ·refine ⟨goInt 0, (Go.run_copy_none W5 22 22 3 5 _ _ 48 52 part.length c Try.underlying22 rfl (by rw [hn]; rfl)).trans ?_⟩
   rw [show cp12 x5 part = x5 by rw [hn, cp12]; simp]
   rw [setRow_self W5 (w.heap.size + 1) _ 84 (0, 0) K2.out]
  ·have hpos : 0 < part.length := List.length_pos_iff.2 hn
   obtain ⟨ad, rfl, hcs⟩ := C_cells (Kd.C_below HR.out HB.out) hpos
   have := Go.run_copy_row (P := Try.prog) W5 22 22 3 5 (w.heap.size + 1) 12 48 52 ad part.length c _ 84 (part.map (Value.int .u8)) Try.underlying22 rfl K2.out (by rw [List.length_map]; exact (Nat.min_eq_left HP.out).symm) hcs (by simp [hx5l]; have := HP.out; omega) (by simp [Value.oneCell'])
   refine ⟨goInt (part.map (Value.int .u8)).length, this.trans ?_⟩
   simp [cp12]
 obtain ⟨ncp, hcp2⟩ := hcp2
 clear hx5
 go_wp2_with fail
 have hx6l : (cp12 x5 part).length = 64 := cp12_len x5 part hx5l HP.out
 replace K1 := Aside0.mk ((setRow_other W5 (w.heap.size + 1) _ ((cp12 x5 part).map (Value.int .u8)).toArray (by omega)).trans K1.out)
 replace K2 := Aside0.mk (setRow_heap W5 (w.heap.size + 1) _ ((cp12 x5 part).map (Value.int .u8)).toArray 84 (0, 0) K2.out)
 replace HB := Aside0.mk (below_setRow (g := w.heap.size + 1) HB.out (by omega) ((cp12 x5 part).map (Value.int .u8)).toArray)
 clear hcp2
 generalize W5.setRow (w.heap.size + 1) ((cp12 x5 part).map (Value.int .u8)).toArray = W7 at *
 generalize cp12 x5 part = y at *
 refine (impl_seal_arr kc 5 84 (w.heap.size + 1) y cr r W7 hx6l K2.out A5_.out AC_.out.1 AC_.out.2 A6_.out).mono ?_
 rintro e w9 ⟨rfl, hrl, rfl⟩
 replace K1 := Aside0.mk (blk_drew K1.out)
 replace K2 := Aside0.mk (blk_drew K2.out)
 replace HB := Aside0.mk (below_drew1 HB.out)
 generalize W7.drew = W8 at *
 replace K1 := Aside0.mk ((setRow_other W8 (w.heap.size + 1) _ (r.map (Value.int .u8)).toArray (by omega)).trans K1.out)
 replace K2 := Aside0.mk (setRow_heap W8 (w.heap.size + 1) _ (r.map (Value.int .u8)).toArray 84 (0, 0) K2.out)
 replace HB := Aside0.mk (below_setRow (g := w.heap.size + 1) HB.out (by omega) (r.map (Value.int .u8)).toArray)
 generalize W8.setRow (w.heap.size + 1) (r.map (Value.int .u8)).toArray = W9 at *
 have hrl' : r.length = 64 := hrl.trans hx6l
 have hld := Aside0.mk (load_arr (P := Try.prog) W9 ⟨w.heap.size + 1, 0, none⟩ 84 (r.map (Value.int .u8)) 64 5 (fun j v hj => by rw [add_plain]; exact (blk_cell K2.out j).trans (by simpa using hj)) (by kernel_rfl) (by rw [List.length_map, hrl']; kernel_rfl))
 have hst := Aside0.mk (store_arr (P := Try.prog) W9 w.heap.size 84 84 _ (r.map (Value.int .u8)).toArray K1.out (by rw [List.size_toArray, List.length_map, hrl']; kernel_rfl) (by simp [hzl, hrl']) (by simp [Value.oneCell']))
 go_wp2_with (first | ((with_reducible refine gate_dst (N := 29) rfl ?_); refine Kd.event_run rfl (exec_load _ _ rfl rfl hld.out) ?_) | ((with_reducible refine gate_store (t := 84) (p := 8) rfl ?_); refine store_event rfl rfl rfl (exec_store _ _ _ rfl rfl rfl hst.out) ?_; intro w2 hw2; have hw2 := Aside0.mk hw2))
 obtain rfl := hw2.out
 refine bodyPost_ret (results_cell_row rfl _ _ w.heap.size 84 (r.map (Value.int .u8)).toArray (0, 0) _ rfl (setRow_heap _ _ _ _ _ _ K1.out) Try.underlying84 rfl (by rw [List.size_toArray, List.length_map, hrl']; kernel_rfl)) rfl ⟨rfl, hrl', below_setRow (g := w.heap.size) HB.out (by omega) _⟩

/-! ### yimpl_rec: a text by hand -/
-- import Derived.StillTailTactics
-- import Derived.Deep.RegionLaw
/-- A number in two bytes. -/
def getN (t : List Int) (p : Nat) : Int := rd t p + 256 * rd t (p + 1)
def gN (x : Int) : Bool := decide (1 ≤ x) && decide (x ≤ 2000000000)
theorem goodN_eq (x : Int) : impl_goodNumber.f x = some (gN x) := by
 unfold impl_goodNumber.f gN
 by_cases h1 : 1 ≤ x
 ·rw [if_pos (by omega), decide_eq_true h1, Bool.true_and]
 ·rw [if_neg (by omega), decide_eq_false h1, Bool.false_and]
/-- What of a sector is its record's. -/
def cutN (t : List Int) : List Int := (t.take (12 + (getN t 8).toNat)).drop 12
def rrBad (pc : Int → Int → List Int → List Int) (k i : Int) (s : List Int) : Bool := decide (getN s 8 > 48) || (decide (getN s 8 < 48) && decide (i < k - 1)) || (decide (getN s 8 = 0) && decide (k > 1)) || (s != pc i k (cutN s))
/-- The payload behind i sectors. -/
def rrAcc (pc : Int → Int → List Int → List Int) (l0 : List Int) (l1 : List S79) (at_ k : Int) : Nat → Option (List Int)
 | 0 => some []
 | i + 1 => (rrAcc pc l0 l1 at_ k i).bind fun p => if rrBad pc k i (dRd l0 l1 (at_ + i)) = true then none else some (p ++ cutN (dRd l0 l1 (at_ + i)))
def mRR (pc : Int → Int → List Int → List Int) (l0 : List Int) (l1 : List S79) (a2 at_ seq : Int) : Bool × List Int × Int :=
 if (vD l0 l1 a2 && gN seq && inD l0 at_) = true then
  (if getN (dRd l0 l1 at_) 6 < 1 ∨ getN (dRd l0 l1 at_) 6 > ((l0.length / 64 : Nat) : Int) - at_ then (false, [], 0)
   else match rrAcc pc l0 l1 at_ (getN (dRd l0 l1 at_) 6) (getN (dRd l0 l1 at_) 6).toNat with
    | none => (false, [], 0)
    | some p => if p.length > 30000 then (false, [], 0) else (true, p, getN (dRd l0 l1 at_) 6))
 else (false, [], 0)
theorem iget2 (l : List Int) (hb : byteL l) (hl : l.length = 64) (p : Nat) (hp : p + 2 ≤ 64) : impl_get.f 3 l p 2 = some (getN l p) ∧ 0 ≤ getN l p ∧ getN l p < 65536 := by
 have b0 : 0 ≤ rd l (p : Int) ∧ rd l (p : Int) < 256 := by rw [rd_nat l p (by omega)]; exact hb _ (List.getElem_mem _)
 have b1 : 0 ≤ rd l ((p : Int) + 1) ∧ rd l ((p : Int) + 1) < 256 := by rw [show ((p : Int) + 1) = ((p + 1 : Nat) : Int) by omega, rd_nat l (p + 1) (by omega)]; exact hb _ (List.getElem_mem _)
 refine ⟨?_, by unfold getN; omega, by unfold getN; omega⟩
 unfold impl_get.f
 rw [show wrap64 ((2 : Int) - 1) = ((1 : Nat) : Int) by simp [wrap64]]
 rw [iget_step 2 l p 0 (rd l ((p : Int) + 1)) 1 (by omega) (by omega) (by omega) rfl (by omega) (by omega) b1.1 b1.2, show ((1 : Nat) : Int) - 1 = ((0 : Nat) : Int) by omega, iget_step 1 l p _ (rd l (p : Int)) 0 (by omega) (by omega) (by omega) (by simp) (by omega) (by omega) b0.1 b0.2, show ((0 : Nat) : Int) - 1 = -1 by omega, impl_get.l0, if_neg (by omega)]
 unfold getN
 congr 1
 omega
theorem rr_none {pc : Int → Int → List Int → List Int} {l0 : List Int} {l1 : List S79} {at_ k : Int} {i : Nat} {p : List Int} (h : rrAcc pc l0 l1 at_ k i = some p) (hb : rrBad pc k i (dRd l0 l1 (at_ + i)) = true) : ∀ j : Nat, rrAcc pc l0 l1 at_ k (i + 1 + j) = none
 | 0 => by rw [Nat.add_zero, rrAcc, h, Option.bind_some, if_pos hb]
 | j + 1 => by rw [← Nat.add_assoc, rrAcc, rr_none h hb j]; rfl
theorem rr_more {pc : Int → Int → List Int → List Int} {l0 : List Int} {l1 : List S79} {at_ k : Int} {i : Nat} {p : List Int} (h : rrAcc pc l0 l1 at_ k i = some p) (hb : rrBad pc k i (dRd l0 l1 (at_ + i)) = false) : rrAcc pc l0 l1 at_ k (i + 1) = some (p ++ cutN (dRd l0 l1 (at_ + i))) := by
 rw [rrAcc, h, Option.bind_some, if_neg (by rw [hb]; decide)]
theorem cutN_len (t : List Int) : (cutN t).length ≤ (getN t 8).toNat := by
 unfold cutN
 simp
 omega
theorem rr_len {pc : Int → Int → List Int → List Int} {l0 : List Int} {l1 : List S79} {at_ k : Int} : ∀ (i : Nat) (p : List Int), rrAcc pc l0 l1 at_ k i = some p → p.length ≤ 48 * i
 | 0, p, h => by obtain rfl := Option.some.inj h; simp
 | i + 1, p, h => by
   rw [rrAcc] at h
   obtain ⟨q, hq, h⟩ := Option.bind_eq_some_iff.1 h
   by_cases hb : rrBad pc k i (dRd l0 l1 (at_ + i)) = true
   ·rw [if_pos hb] at h; cases h
   ·rw [if_neg hb] at h
    obtain rfl := Option.some.inj h
    have h1 := rr_len i q hq
    have h2 := cutN_len (dRd l0 l1 (at_ + i))
    have h3 : getN (dRd l0 l1 (at_ + i)) 8 ≤ 48 := by
     unfold rrBad at hb
     simp only [Bool.or_eq_true, decide_eq_true_eq, not_or] at hb
     omega
    rw [List.length_append]
    omega
theorem add_plain2 (g a j : Nat) : Addr.add ⟨g, a, none⟩ j = ⟨g, a + j, none⟩ := by simp [Addr.add]
def impl_ReadRec.gT13 : Bool × List (List Nat × List Nat) := (true, [([], []), ([0], [0]), ([1], [1]), ([2], [2]), ([3, 2], [2, 3]), ([4, 2, 2], [2, 4]), ([5], [5]), ([5], [5]), ([7, 5], [5, 7]), ([6, 8, 5], [5, 6, 8]), ([5, 9, 2], [2, 5, 9]), ([2, 10], [2, 10]), ([11, 5], [11]), ([12], [12]), ([13, 12], [12, 13]), ([14, 12, 12], [12, 14]), ([15], [15]), ([16, 15], [15, 16]), ([15, 17, 12], [12, 15, 17]), ([12, 18], [12, 18]), ([19, 15], [19]), ([20], [20]), ([20], [20]), ([20], [20]), ([20], [20]), ([20], [20]), ([25, 20], [20, 25]), ([26, 20], [20, 26]), ([22, 23, 24, 27, 20, 20], [20, 22, 23, 24, 27]), ([21, 28, 20], [20, 21, 28]), ([20, 29], [20, 29])])
def impl_ReadRec.gB13 : List Nat := [0, 1, 3, 7, 15, 31, 63, 63, 191, 511, 1023, 2047, 4095, 8191, 16383, 32767, 65535, 131071, 262143, 524287, 1048575, 2097151, 2097151, 2097151, 2097151, 2097151, 35651583, 102760447, 266338303, 536870911, 1073741823]
theorem impl_ReadRec.gtab13 : rtab .any (opsOf Try.f26 13) = impl_ReadRec.gT13 := by kernel_rfl
theorem impl_ReadRec.gbits13 : waitsOk impl_ReadRec.gT13.2 impl_ReadRec.gB13 = true := by kernel_rfl
theorem get_arr2 (t : List Int) (hl : t.length = 64) (hb : byteL t) (p : Nat) (hp : p + 2 ≤ 64) (g : Nat) (X : World) (hX : X.heap[g]? = some (.cells (t.map (Value.int .u8)).toArray 84 (0, 0))) :
  Calls Try.prog 71 #[.slice (some ⟨g, 0, none⟩) 64 64, .int .i64 p, .int .i64 2] X fun e w' => e = .returned (.int .i64 (getN t p)) ∧ Below X.heap.size X w' := by
 have hC : Kd.C (Kd.int .u8) X (some ⟨g, 0, none⟩) t.length t := C_of_cells (by rw [hl]; omega) _ (fun j x hj => by rw [add_plain]; exact (blk_cell hX j).trans (by simp [hj]))
 have := impl_get.calls 3 (some ⟨g, 0, none⟩) 64 t p 2 (getN t p) X hC (by rw [hl]; exact Nat.le_refl _) (iget2 t hb hl p hp).1
 rw [hl] at this
 exact this.mono (fun e w' h => ⟨h.1, h.2.below⟩)
theorem rr_zero {pc : Int → Int → List Int → List Int} {l0 : List Int} {l1 : List S79} {a2 at_ seq : Int} {w W : World} (em : mRR pc l0 l1 a2 at_ seq = (false, [], 0)) (hB : Below w.heap.size w W) :
  ∃ v, Ending.returned (.agg #[.bool false, .slice none 0 0, .int .i64 0]) = Ending.returned (.agg #[.bool (mRR pc l0 l1 a2 at_ seq).1, v, .int .i64 (mRR pc l0 l1 a2 at_ seq).2.2]) ∧ Kd.R (Kd.int .u8) 5 (((W.setCell ⟨w.heap.size + 1, 0, none⟩ (.bool false)).setCell ⟨w.heap.size + 1, 1, none⟩ (.slice none 0 0)).setCell ⟨w.heap.size + 1, 2, none⟩ (.int .i64 0)) w.heap.size (fun _ => True) v (mRR pc l0 l1 a2 at_ seq).2.1 ∧ Below w.heap.size w (((W.setCell ⟨w.heap.size + 1, 0, none⟩ (.bool false)).setCell ⟨w.heap.size + 1, 1, none⟩ (.slice none 0 0)).setCell ⟨w.heap.size + 1, 2, none⟩ (.int .i64 0)) := by
 rw [em]
 exact ⟨_, rfl, Kd.R_nil _ _ _ _ _, below_set (below_set (below_set hB (Nat.le_succ _)) (Nat.le_succ _)) (Nat.le_succ _)⟩
set_option maxHeartbeats 4000000 in
set_option maxRecDepth 100000 in
theorem impl_ReadRec_any (kc : Nat) (pc : Int → Int → List Int → List Int) (A0 : Option Addr) (c0 : Nat) (l0 : List Int) (A1 : Option Addr) (c1 : Nat) (l1 : List S79) (a2 : Int) (a3 : Bool) (at_ seq : Int) (w : World) (hr0 : Kd.C (Kd.int .u8) w A0 l0.length l0) (hc0 : l0.length ≤ c0) (hr1 : Kd.C k79 w A1 l1.length l1) (hc1 : l1.length ≤ c1) (hok : RsOk l0 l1)
  (hpc : gN seq = true → ∀ i : Nat, i < 65536 → (cutN (dRd l0 l1 (at_ + i))).length ≤ 48 → cPiece kc seq i (getN (dRd l0 l1 at_) 6) (cutN (dRd l0 l1 (at_ + i))) = some (pc i (getN (dRd l0 l1 at_) 6) (cutN (dRd l0 l1 (at_ + i))))) :
  Calls Try.prog 26 #[.agg #[.slice A0 l0.length c0, .slice A1 l1.length c1, .int .i64 a2, .bool a3], .int .i64 at_, .int .i64 seq] w fun e w' => ∃ v : Value, e = .returned (.agg #[.bool (mRR pc l0 l1 a2 at_ seq).1, v, .int .i64 (mRR pc l0 l1 a2 at_ seq).2.2]) ∧ Kd.R (Kd.int .u8) 5 w' w.heap.size (fun _ => True) v (mRR pc l0 l1 a2 at_ seq).2.1 ∧ Below w.heap.size w w' := by
 obtain ⟨kv, hv⟩ := (implValid_ev l0 l1 a2 a3 hok.1 hok.2.1.1).rounds
 have hh := has_eq l0 l1 a2 a3 at_ hok.1
 have HV := Aside0.mk hv
 have HH := Aside0.mk hh
 have HR0 := Aside0.mk hr0
 have HC0 := Aside0.mk hc0
 have HR1 := Aside0.mk hr1
 have HC1 := Aside0.mk hc1
 have HOK := Aside0.mk hok
 have HPC := Aside0.mk hpc
 clear hr0 hc0 hr1 hc1 hv hh hok hpc
 have hu25 := Try.underlying25
 have hu49 := Try.underlying49
 have hb0 := below_alloc (below_alloc (Below.refl w.heap.size w) (.cells #[.slice A0 l0.length c0, .slice A1 l1.length c1, .int .i64 a2, .bool a3] 25)) (.cells #[.bool false, .slice none 0 0, .int .i64 0] 49)
 have K3 := Aside0.mk (blk_alloc (blk_new w (.cells #[.slice A0 l0.length c0, .slice A1 l1.length c1, .int .i64 a2, .bool a3] 25)) (.cells #[.bool false, .slice none 0 0, .int .i64 0] 49))
 have K6 := Aside0.mk (blk_new (w.alloc (.cells #[.slice A0 l0.length c0, .slice A1 l1.length c1, .int .i64 a2, .bool a3] 25)) (.cells #[.bool false, .slice none 0 0, .int .i64 0] 49))
 simp only [World.size_alloc] at K6
 have HB := Aside0.mk hb0
 clear hb0
 go_enter Try.func26, Try.ntmps26
 go_wp2_with fail
 generalize ((w.alloc (.cells #[.slice A0 l0.length c0, .slice A1 l1.length c1, .int .i64 a2, .bool a3] 25)).alloc (.cells #[.bool false, .slice none 0 0, .int .i64 0] 49)) = W0 at *
 refine (impl_ValidDisk.calls kv _ _ l0 _ _ l1 a2 a3 _ _ (Kd.C_below HR0.out HB.out) HC0.out (Kd.C_below HR1.out HB.out) HC1.out HV.out).mono ?_
 rintro e W1 ⟨rfl, hb⟩
 replace K3 := Aside0.mk (blk_below K3.out hb)
 replace K6 := Aside0.mk (blk_below K6.out hb)
 replace HB := Aside0.mk (below_step HB.out hb)
 clear hb
 obtain ⟨x0, x1, x2, x3, _, _, _, _⟩ := blk_cells4 K3.out
 have z0 : W1.cell? ⟨w.heap.size + 1, 0, none⟩ = some (.bool false) := (blk_cell K6.out 0).trans rfl
 have z1 : W1.cell? ⟨w.heap.size + 1, 1, none⟩ = some (.slice none 0 0) := (blk_cell K6.out 1).trans rfl
 have z2 : W1.cell? ⟨w.heap.size + 1, 2, none⟩ = some (.int .i64 0) := (blk_cell K6.out 2).trans rfl
 have y0 := blk_frozen K6.out 0
 have y1 := blk_frozen K6.out 1
 have y2 := blk_frozen K6.out 2
 by_cases cv : vD l0 l1 a2 = true
 case neg =>
  have cv' : vD l0 l1 a2 = false := by simpa using cv
  rw [cv']
  have em := Aside0.mk (show mRR pc l0 l1 a2 at_ seq = (false, [], 0) by unfold mRR; rw [cv', if_neg (by simp)])
  go_wp2_with fail
  refine bodyPost_ret (results_cell_row rfl _ _ (w.heap.size + 1) 49 #[.bool false, .slice none 0 0, .int .i64 0] (0, 0) _ rfl (blk_put (cs := #[.bool false, .slice none 0 0, .int .i64 0]) (blk_put (cs := #[.bool false, .slice none 0 0, .int .i64 0]) (blk_put (cs := #[.bool false, .slice none 0 0, .int .i64 0]) K6.out 0 _ rfl) 1 _ rfl) 2 _ rfl) hu49 rfl (by kernel_rfl)) rfl ?_
  exact rr_zero em.out HB.out
 rw [cv]
 have CV := Aside0.mk cv
 clear cv
 go_wp2_with fail
 refine (impl_goodNumber.calls seq (gN seq) _ (goodN_eq seq)).mono ?_
 rintro e W2 ⟨rfl, hd⟩
 have hb := hd.below
 clear hd
 clear x0 x1 x2 x3 z0 z1 z2 y0 y1 y2
 replace K3 := Aside0.mk (blk_below K3.out hb)
 replace K6 := Aside0.mk (blk_below K6.out hb)
 replace HB := Aside0.mk (below_step HB.out hb)
 clear hb
 obtain ⟨x0, x1, x2, x3, _, _, _, _⟩ := blk_cells4 K3.out
 have z0 : W2.cell? ⟨w.heap.size + 1, 0, none⟩ = some (.bool false) := (blk_cell K6.out 0).trans rfl
 have z1 : W2.cell? ⟨w.heap.size + 1, 1, none⟩ = some (.slice none 0 0) := (blk_cell K6.out 1).trans rfl
 have z2 : W2.cell? ⟨w.heap.size + 1, 2, none⟩ = some (.int .i64 0) := (blk_cell K6.out 2).trans rfl
 have y0 := blk_frozen K6.out 0
 have y1 := blk_frozen K6.out 1
 have y2 := blk_frozen K6.out 2
 by_cases cg : gN seq = true
 case neg =>
  have cg' : gN seq = false := by simpa using cg
  rw [cg']
  have em := Aside0.mk (show mRR pc l0 l1 a2 at_ seq = (false, [], 0) by unfold mRR; rw [cg', if_neg (by simp)])
  go_wp2_with fail
  refine bodyPost_ret (results_cell_row rfl _ _ (w.heap.size + 1) 49 #[.bool false, .slice none 0 0, .int .i64 0] (0, 0) _ rfl (blk_put (cs := #[.bool false, .slice none 0 0, .int .i64 0]) (blk_put (cs := #[.bool false, .slice none 0 0, .int .i64 0]) (blk_put (cs := #[.bool false, .slice none 0 0, .int .i64 0]) K6.out 0 _ rfl) 1 _ rfl) 2 _ rfl) hu49 rfl (by kernel_rfl)) rfl ?_
  exact rr_zero em.out HB.out
 rw [cg]
 replace HPC := Aside0.mk (HPC.out cg)
 have CG := Aside0.mk cg
 clear cg
 go_wp2_with fail
 refine (impl_Disk_has.calls _ _ l0 _ _ l1 a2 a3 at_ _ _ (Kd.C_below HR0.out HB.out) HC0.out (Kd.C_below HR1.out HB.out) HC1.out HH.out).mono ?_
 rintro e W3 ⟨rfl, hb⟩
 clear x0 x1 x2 x3 z0 z1 z2 y0 y1 y2
 replace K3 := Aside0.mk (blk_below K3.out hb)
 replace K6 := Aside0.mk (blk_below K6.out hb)
 replace HB := Aside0.mk (below_step HB.out hb)
 clear hb
 obtain ⟨x0, x1, x2, x3, _, _, _, _⟩ := blk_cells4 K3.out
 have z0 : W3.cell? ⟨w.heap.size + 1, 0, none⟩ = some (.bool false) := (blk_cell K6.out 0).trans rfl
 have z1 : W3.cell? ⟨w.heap.size + 1, 1, none⟩ = some (.slice none 0 0) := (blk_cell K6.out 1).trans rfl
 have z2 : W3.cell? ⟨w.heap.size + 1, 2, none⟩ = some (.int .i64 0) := (blk_cell K6.out 2).trans rfl
 have y0 := blk_frozen K6.out 0
 have y1 := blk_frozen K6.out 1
 have y2 := blk_frozen K6.out 2
 by_cases ci : inD l0 at_ = true
 case neg =>
  have ci' : inD l0 at_ = false := by simpa using ci
  rw [ci']
  have em := Aside0.mk (show mRR pc l0 l1 a2 at_ seq = (false, [], 0) by unfold mRR; rw [ci', if_neg (by simp)])
  go_wp2_with fail
  refine bodyPost_ret (results_cell_row rfl _ _ (w.heap.size + 1) 49 #[.bool false, .slice none 0 0, .int .i64 0] (0, 0) _ rfl (blk_put (cs := #[.bool false, .slice none 0 0, .int .i64 0]) (blk_put (cs := #[.bool false, .slice none 0 0, .int .i64 0]) (blk_put (cs := #[.bool false, .slice none 0 0, .int .i64 0]) K6.out 0 _ rfl) 1 _ rfl) 2 _ rfl) hu49 rfl (by kernel_rfl)) rfl ?_
  exact rr_zero em.out HB.out
 rw [ci]
 have CI := Aside0.mk ci
 have hin : 0 ≤ at_ ∧ at_ * 64 + 64 ≤ l0.length := by
  unfold inD at ci
  simp at ci
  omega
 obtain ⟨f1, f2, f3, f4, f5, f6, f7⟩ := vD_facts CV.out
 have f8 : ∀ x ∈ l1, x.f1.length = 64 := fun x hx => (f7 x hx).2.2
 have HIN := Aside0.mk hin
 have HF := Aside0.mk (And.intro f3 (And.intro f4 f8))
 clear ci hin f1 f2 f3 f4 f5 f6 f7 f8
 go_wp2_with fail
 refine (impl_Disk_read.calls A0 c0 l0 A1 c1 l1 a2 a3 at_ _ (Kd.C_below HR0.out HB.out) HC0.out (Kd.C_below HR1.out HB.out) HC1.out HIN.out.1 HIN.out.2 HF.out.1 HF.out.2.1 HF.out.2.2).mono ?_
 rintro e W4 ⟨rfl, hb⟩
 clear x0 x1 x2 x3 z0 z1 z2 y0 y1 y2
 replace K3 := Aside0.mk (blk_below K3.out hb)
 replace K6 := Aside0.mk (blk_below K6.out hb)
 replace HB := Aside0.mk (below_step HB.out hb)
 clear hb
 obtain ⟨t0, ht0⟩ : ∃ t0, t0 = dRd l0 l1 at_ := ⟨_, rfl⟩
 rw [← ht0]
 have HT0 := Aside0.mk ht0
 have hl0 : t0.length = 64 := by rw [ht0]; exact dRd_len l0 l1 at_ HIN.out.1 HIN.out.2 HF.out.1 HF.out.2.2
 have hby0 : byteL t0 := by rw [ht0]; exact dRd_bytes l0 l1 at_ HOK.out.2.2.1 HOK.out.2.2.2
 have HL0 := Aside0.mk hl0
 have HBY0 := Aside0.mk hby0
 clear ht0 hl0 hby0
 have yz : (W4.alloc (.cells (Array.replicate 64 (.int .u8 0)) 84)).heap[W4.heap.size]? = some (.cells (Array.replicate 64 (.int .u8 0)) 84 (0, 0)) := blk_new _ _
 have hst := Aside0.mk (store_arr (P := Try.prog) (W4.alloc (.cells (Array.replicate 64 (.int .u8 0)) 84)) W4.heap.size 84 84 _ (t0.map (Value.int .u8)).toArray yz (by rw [List.size_toArray, List.length_map, HL0.out]; kernel_rfl) (by simp [HL0.out]) (by simp [Value.oneCell']))
 have YZ := Aside0.mk yz
 clear yz
 go_wp2_with (first | ((with_reducible refine gate_store (t := 84) (p := 7) rfl ?_); refine store_event rfl rfl rfl (exec_store _ _ _ rfl rfl rfl hst.out) ?_; intro W5 hw5; have HW5 := Aside0.mk hw5; clear hw5))
 have hl3 := HB.out.size
 have hk6 := blk_lt K6.out
 have K7 := Aside0.mk (show W5.heap[W4.heap.size]? = some (.cells (t0.map (Value.int .u8)).toArray 84 (0, 0)) by rw [HW5.out]; exact setRow_heap _ _ _ _ _ _ YZ.out)
 replace K3 := Aside0.mk (show W5.heap[w.heap.size]? = some (.cells #[.slice A0 l0.length c0, .slice A1 l1.length c1, .int .i64 a2, .bool a3] 25 (0, 0)) by rw [HW5.out]; exact (setRow_other _ _ _ _ (by omega)).trans (blk_alloc K3.out _))
 replace K6 := Aside0.mk (show W5.heap[w.heap.size + 1]? = some (.cells #[.bool false, .slice none 0 0, .int .i64 0] 49 (0, 0)) by rw [HW5.out]; exact (setRow_other _ _ _ _ (by omega)).trans (blk_alloc K6.out _))
 replace HB := Aside0.mk (show Below w.heap.size w W5 by rw [HW5.out]; exact below_setRow (g := W4.heap.size) (below_alloc HB.out _) hl3 _)
 clear hst YZ HW5 hl3 hk6
 generalize W4.heap.size = g7 at *
 refine (get_arr2 t0 HL0.out HBY0.out 6 (by omega) g7 W5 K7.out).mono ?_
 rintro e W6 ⟨rfl, hb⟩
 replace K3 := Aside0.mk (blk_below K3.out hb)
 replace K6 := Aside0.mk (blk_below K6.out hb)
 replace HB := Aside0.mk (below_step HB.out hb)
 clear hb
 obtain ⟨k, hk⟩ : ∃ k, k = getN t0 6 := ⟨_, rfl⟩
 have hk0 := (iget2 t0 HBY0.out HL0.out 6 (by omega)).2
 rw [← hk] at hk0
 rw [← hk]
 have HK := Aside0.mk (show k = getN (dRd l0 l1 at_) 6 by rw [hk, HT0.out])
 have HK0 := Aside0.mk hk0
 clear hk hk0 K7 HL0 HBY0
 obtain ⟨x0, x1, x2, x3, _, _, _, _⟩ := blk_cells4 K3.out
 have z0 : W6.cell? ⟨w.heap.size + 1, 0, none⟩ = some (.bool false) := (blk_cell K6.out 0).trans rfl
 have z1 : W6.cell? ⟨w.heap.size + 1, 1, none⟩ = some (.slice none 0 0) := (blk_cell K6.out 1).trans rfl
 have z2 : W6.cell? ⟨w.heap.size + 1, 2, none⟩ = some (.int .i64 0) := (blk_cell K6.out 2).trans rfl
 have y0 := blk_frozen K6.out 0
 have y1 := blk_frozen K6.out 1
 have y2 := blk_frozen K6.out 2
 have hvg : (vD l0 l1 a2 && gN seq && inD l0 at_) = true := by rw [CV.out, CG.out, CI.out]; rfl
 by_cases c1 : k < 1
 ·have em := Aside0.mk (show mRR pc l0 l1 a2 at_ seq = (false, [], 0) by unfold mRR; rw [if_pos hvg, if_pos (Or.inl (by rw [← HK.out]; exact c1))])
  clear hvg
  go_wp2_with fail
  refine bodyPost_ret (results_cell_row rfl _ _ (w.heap.size + 1) 49 #[.bool false, .slice none 0 0, .int .i64 0] (0, 0) _ rfl (blk_put (cs := #[.bool false, .slice none 0 0, .int .i64 0]) (blk_put (cs := #[.bool false, .slice none 0 0, .int .i64 0]) (blk_put (cs := #[.bool false, .slice none 0 0, .int .i64 0]) K6.out 0 _ rfl) 1 _ rfl) 2 _ rfl) hu49 rfl (by kernel_rfl)) rfl ?_
  exact rr_zero em.out HB.out
 have HVG := Aside0.mk hvg
 have C1 := Aside0.mk c1
 clear hvg
 obtain ⟨sc, hsc⟩ : ∃ sc : Int, sc = ((l0.length / 64 : Nat) : Int) := ⟨_, rfl⟩
 have hsec : impl_Disk_sectors.f l0 l1 a2 a3 = some sc := by unfold impl_Disk_sectors.f; rw [sectors_at l0 HOK.out.1, hsc]
 have HSC := Aside0.mk hsc
 clear hsc
 have HSEC := Aside0.mk hsec
 clear hsec
 go_wp2_with fail
 refine (impl_Disk_sectors.calls _ _ l0 _ _ l1 a2 a3 _ _ (Kd.C_below HR0.out HB.out) HC0.out (Kd.C_below HR1.out HB.out) HC1.out HSEC.out).mono ?_
 rintro e W7 ⟨rfl, hb⟩
 clear x0 x1 x2 x3 z0 z1 z2 y0 y1 y2
 replace K3 := Aside0.mk (blk_below K3.out hb)
 replace K6 := Aside0.mk (blk_below K6.out hb)
 replace HB := Aside0.mk (below_step HB.out hb)
 clear hb
 obtain ⟨x0, x1, x2, x3, _, _, _, _⟩ := blk_cells4 K3.out
 have z0 : W7.cell? ⟨w.heap.size + 1, 0, none⟩ = some (.bool false) := (blk_cell K6.out 0).trans rfl
 have z1 : W7.cell? ⟨w.heap.size + 1, 1, none⟩ = some (.slice none 0 0) := (blk_cell K6.out 1).trans rfl
 have z2 : W7.cell? ⟨w.heap.size + 1, 2, none⟩ = some (.int .i64 0) := (blk_cell K6.out 2).trans rfl
 have y0 := blk_frozen K6.out 0
 have y1 := blk_frozen K6.out 1
 have y2 := blk_frozen K6.out 2
 have hw : wrap64 (sc - at_) = sc - at_ := by
  have h1 := HIN.out
  have h2 := HF.out.1
  have h3 := HSC.out
  unfold wrap64
  omega
 by_cases c2 : k > sc - at_
 ·have em := Aside0.mk (show mRR pc l0 l1 a2 at_ seq = (false, [], 0) by unfold mRR; rw [if_pos HVG.out, if_pos (Or.inr (by rw [← HK.out, ← HSC.out]; exact c2))])
  have c2' : wrap64 (sc - at_) < k := by rw [hw]; exact c2
  go_wp2_with fail
  refine bodyPost_ret (results_cell_row rfl _ _ (w.heap.size + 1) 49 #[.bool false, .slice none 0 0, .int .i64 0] (0, 0) _ rfl (blk_put (cs := #[.bool false, .slice none 0 0, .int .i64 0]) (blk_put (cs := #[.bool false, .slice none 0 0, .int .i64 0]) (blk_put (cs := #[.bool false, .slice none 0 0, .int .i64 0]) K6.out 0 _ rfl) 1 _ rfl) 2 _ rfl) hu49 rfl (by kernel_rfl)) rfl ?_
  exact rr_zero em.out HB.out
 have c2' : ¬ wrap64 (sc - at_) < k := by rw [hw]; exact c2
 have C2 := Aside0.mk c2
 have hmr : mRR pc l0 l1 a2 at_ seq = (match rrAcc pc l0 l1 at_ k k.toNat with
     | none => (false, [], 0)
     | some p => if p.length > 30000 then (false, [], 0) else (true, p, k)) := by
  unfold mRR
  rw [if_pos HVG.out, ← HK.out, if_neg (fun h => h.elim (fun h1 => by have := C1.out; omega) (fun h => C2.out (by rw [HSC.out]; exact h)))]
 have HMR := Aside0.mk hmr
 clear hmr c2 hw
 go_wp2_with fail
 have L9 := Aside0.mk (blk_lt K6.out)
 have K9 := Aside0.mk (blk_new W7 (.cells #[.bool true, .slice none 0 0, .int .i64 k] 49))
 replace K3 := Aside0.mk (blk_alloc K3.out (.cells #[.bool true, .slice none 0 0, .int .i64 k] 49))
 replace K6 := Aside0.mk (blk_alloc K6.out (.cells #[.bool true, .slice none 0 0, .int .i64 k] 49))
 replace HB := Aside0.mk (below_alloc HB.out (.cells #[.bool true, .slice none 0 0, .int .i64 k] 49))
 clear x0 x1 x2 x3 z0 z1 z2 y0 y1 y2 c1 c2'
 generalize W7.alloc (.cells #[.bool true, .slice none 0 0, .int .i64 k] 49) = W8 at *
 generalize W7.heap.size = g9 at *
 go_loopg [47] k.toNat (fun kq v47 w' => ∃ (i : Nat) (p : List Int) (v : Value), v47 = .int .i64 i ∧ Aside0 ((i : Int) ≤ k ∧ kq = k.toNat - i) ∧ Aside0 (rrAcc pc l0 l1 at_ k i = some p) ∧
  Aside0 (w'.heap[w.heap.size]? = some (.cells #[.slice A0 l0.length c0, .slice A1 l1.length c1, .int .i64 a2, .bool a3] 25 (0, 0))) ∧ Aside0 (w'.heap[w.heap.size + 1]? = some (.cells #[.bool false, .slice none 0 0, .int .i64 0] 49 (0, 0))) ∧ Aside0 (w'.heap[g9]? = some (.cells #[.bool true, v, .int .i64 k] 49 (0, 0))) ∧
  Aside0 (Kd.R (Kd.int .u8) 5 w' w.heap.size (fun _ => True) v p) ∧ Aside0 (Below w.heap.size w w'))
 case atStart => exact ⟨0, [], .slice none 0 0, rfl, ⟨by have := C1.out; omega, rfl⟩, ⟨rfl⟩, K3, K6, K9, ⟨Kd.R_nil _ _ _ _ _⟩, HB⟩
 case round =>
  clear K3 K6 K9 HB
  obtain ⟨i, p, v, rfl, HI, HP, K3, K6, K9, HR, HB⟩ := hrel
  by_cases ck : (i : Int) < k
  · have e1 : wrap64 (at_ + (i : Int)) = at_ + i := by
      have h1 := HIN.out
      have h2 := HF.out.1
      have h3 := HK0.out
      unfold wrap64
      omega
    have hin : 0 ≤ at_ + (i : Int) ∧ (at_ + (i : Int)) * 64 + 64 ≤ l0.length := by
      have h1 := HIN.out
      have h2 := HSC.out
      have h3 := C2.out
      omega
    have HIN2 := Aside0.mk hin
    have CK := Aside0.mk ck
    clear hin
    obtain ⟨x0, x1, x2, x3, _, _, _, _⟩ := blk_cells4 K3.out
    go_wp2_with fail
    refine (impl_Disk_read.calls A0 c0 l0 A1 c1 l1 a2 a3 (at_ + (i : Int)) _ (Kd.C_below HR0.out HB.out) HC0.out (Kd.C_below HR1.out HB.out) HC1.out HIN2.out.1 HIN2.out.2 HF.out.1 HF.out.2.1 HF.out.2.2).mono ?_
    rintro e Wa ⟨rfl, hb⟩
    replace K3 := Aside0.mk (blk_below K3.out hb)
    replace K6 := Aside0.mk (blk_below K6.out hb)
    replace K9 := Aside0.mk (blk_below K9.out hb)
    replace HR := Aside0.mk (Kd.R_below HR.out hb)
    replace HB := Aside0.mk (below_step HB.out hb)
    clear hb x0 x1 x2 x3 e1
    obtain ⟨t, ht⟩ : ∃ t, t = dRd l0 l1 (at_ + (i : Int)) := ⟨_, rfl⟩
    rw [← ht]
    have hl0 : t.length = 64 := by rw [ht]; exact dRd_len l0 l1 _ HIN2.out.1 HIN2.out.2 HF.out.1 HF.out.2.2
    have hby0 : byteL t := by rw [ht]; exact dRd_bytes l0 l1 _ HOK.out.2.2.1 HOK.out.2.2.2
    have HT := Aside0.mk ht
    have HL := Aside0.mk hl0
    have HBY := Aside0.mk hby0
    clear ht hl0 hby0
    have yz : (Wa.alloc (.cells (Array.replicate 64 (.int .u8 0)) 84)).heap[Wa.heap.size]? = some (.cells (Array.replicate 64 (.int .u8 0)) 84 (0, 0)) := blk_new _ _
    have hst := Aside0.mk (store_arr (P := Try.prog) (Wa.alloc (.cells (Array.replicate 64 (.int .u8 0)) 84)) Wa.heap.size 84 84 _ (t.map (Value.int .u8)).toArray yz (by rw [List.size_toArray, List.length_map, HL.out]; kernel_rfl) (by simp [HL.out]) (by simp [Value.oneCell']))
    have YZ := Aside0.mk yz
    clear yz
    go_wp2_with (first | ((with_reducible refine gate_store (t := 84) (p := 11) rfl ?_); refine store_event rfl rfl rfl (exec_store _ _ _ rfl rfl rfl hst.out) ?_; intro Wb hwb; have HWb := Aside0.mk hwb; clear hwb))
    have K11 := Aside0.mk (show Wb.heap[Wa.heap.size]? = some (.cells (t.map (Value.int .u8)).toArray 84 (0, 0)) by rw [HWb.out]; exact setRow_heap _ _ _ _ _ _ YZ.out)
    have hb : Below Wa.heap.size Wa Wb := by rw [HWb.out]; exact below_setRow (g := Wa.heap.size) (below_alloc (Below.refl _ _) _) (Nat.le_refl _) _
    replace K3 := Aside0.mk (blk_below K3.out hb)
    replace K6 := Aside0.mk (blk_below K6.out hb)
    have L11 := Aside0.mk (blk_lt K9.out)
    replace K9 := Aside0.mk (blk_below K9.out hb)
    replace HR := Aside0.mk (Kd.R_below HR.out hb)
    replace HB := Aside0.mk (below_step HB.out hb)
    clear hb hst YZ HWb
    generalize Wa.heap.size = g11 at *
    refine (get_arr2 t HL.out HBY.out 8 (by omega) g11 Wb K11.out).mono ?_
    rintro e Wc ⟨rfl, hb⟩
    replace K3 := Aside0.mk (blk_below K3.out hb)
    replace K6 := Aside0.mk (blk_below K6.out hb)
    replace K9 := Aside0.mk (blk_below K9.out hb)
    replace K11 := Aside0.mk (blk_below K11.out hb)
    replace HR := Aside0.mk (Kd.R_below HR.out hb)
    replace HB := Aside0.mk (below_step HB.out hb)
    clear hb
    obtain ⟨n, hn⟩ : ∃ n, n = getN t 8 := ⟨_, rfl⟩
    have hn0 := (iget2 t HBY.out HL.out 8 (by omega)).2
    rw [← hn] at hn0
    rw [← hn]
    have HN := Aside0.mk hn
    have HN0 := Aside0.mk hn0
    clear hn hn0
    have hzero : rrBad pc k i t = true → mRR pc l0 l1 a2 at_ seq = (false, [], 0) := fun hbad => by
      rw [HMR.out]
      have h1 := rr_none HP.out (by rw [← HT.out]; exact hbad) (k.toNat - i - 1)
      rw [show i + 1 + (k.toNat - i - 1) = k.toNat by have := CK.out; omega] at h1
      rw [h1]
    have HZ := Aside0.mk hzero
    clear hzero
    have z0 : Wc.cell? ⟨w.heap.size + 1, 0, none⟩ = some (.bool false) := (blk_cell K6.out 0).trans rfl
    have z1 : Wc.cell? ⟨w.heap.size + 1, 1, none⟩ = some (.slice none 0 0) := (blk_cell K6.out 1).trans rfl
    have z2 : Wc.cell? ⟨w.heap.size + 1, 2, none⟩ = some (.int .i64 0) := (blk_cell K6.out 2).trans rfl
    have y0 := blk_frozen K6.out 0
    have y1 := blk_frozen K6.out 1
    have y2 := blk_frozen K6.out 2
    have hk1 : wrap64 (k - 1) = k - 1 := by have := HK0.out; unfold wrap64; omega
    by_cases c48 : n > 48
    · have em := Aside0.mk (HZ.out (by unfold rrBad; rw [← HN.out, decide_eq_true c48]; simp))
      have c48' : (48 : Int) < n := c48
      go_wp2_with fail
      go_quiet (fail)
      go_wp2_with fail
      refine bodyPost_ret (results_cell_row rfl _ _ (w.heap.size + 1) 49 #[.bool false, .slice none 0 0, .int .i64 0] (0, 0) _ rfl (blk_put (cs := #[.bool false, .slice none 0 0, .int .i64 0]) (blk_put (cs := #[.bool false, .slice none 0 0, .int .i64 0]) (blk_put (cs := #[.bool false, .slice none 0 0, .int .i64 0]) (blk_drewN K6.out _) 0 _ rfl) 1 _ rfl) 2 _ rfl) hu49 rfl (by kernel_rfl)) rfl ?_
      exact rr_zero em.out (pw_below_drewN HB.out _)
    have c48' : decide ((48 : Int) < n) = false := decide_eq_false (by omega)
    by_cases c2 : n < 48 ∧ (i : Int) < k - 1
    · have em := Aside0.mk (HZ.out (by unfold rrBad; rw [← HN.out, decide_eq_true c2.1, decide_eq_true c2.2]; simp))
      obtain ⟨c3, c4⟩ := c2
      clear c48
      go_wp2_with fail
      go_quiet (fail)
      go_wp2_with fail
      refine bodyPost_ret (results_cell_row rfl _ _ (w.heap.size + 1) 49 #[.bool false, .slice none 0 0, .int .i64 0] (0, 0) _ rfl (blk_put (cs := #[.bool false, .slice none 0 0, .int .i64 0]) (blk_put (cs := #[.bool false, .slice none 0 0, .int .i64 0]) (blk_put (cs := #[.bool false, .slice none 0 0, .int .i64 0]) (blk_drewN K6.out _) 0 _ rfl) 1 _ rfl) 2 _ rfl) hu49 rfl (by kernel_rfl)) rfl ?_
      exact rr_zero em.out (pw_below_drewN HB.out _)
    by_cases c3 : n = 0 ∧ k > 1
    · have em := Aside0.mk (HZ.out (by unfold rrBad; rw [← HN.out, decide_eq_true c3.1, decide_eq_true c3.2]; simp))
      obtain ⟨c4, c5⟩ := c3
      have c6 : decide ((i : Int) < k - 1) = false := decide_eq_false (fun h => c2 ⟨by omega, h⟩)
      have c7 : (1 : Int) < k := c5
      have c8 : (n < 48) := by omega
      clear c48 c2
      go_wp2_with fail
      go_quiet (fail)
      go_wp2_with fail
      refine bodyPost_ret (results_cell_row rfl _ _ (w.heap.size + 1) 49 #[.bool false, .slice none 0 0, .int .i64 0] (0, 0) _ rfl (blk_put (cs := #[.bool false, .slice none 0 0, .int .i64 0]) (blk_put (cs := #[.bool false, .slice none 0 0, .int .i64 0]) (blk_put (cs := #[.bool false, .slice none 0 0, .int .i64 0]) (blk_drewN K6.out _) 0 _ rfl) 1 _ rfl) 2 _ rfl) hu49 rfl (by kernel_rfl)) rfl ?_
      exact rr_zero em.out (pw_below_drewN HB.out _)
    have hnn := HN0.out.1
    have hn48 : n ≤ 48 := by omega
    have hln : (cutN t).length = n.toNat := by
      unfold cutN
      rw [← HN.out]
      simp [HL.out]
      omega
    have hpi : ∀ X : World, X.heap[g11]? = some (.cells (t.map (Value.int .u8)).toArray 84 (0, 0)) → Calls Try.prog 72 #[.int .i64 seq, .int .i64 i, .int .i64 k, .slice (some ⟨g11, 12, none⟩) ((12 + n).toNat - 12) 52] X fun e w' => e = .returned (.agg ((pc i k (cutN t)).map (Value.int .u8)).toArray) ∧ (pc i k (cutN t)).length = 64 ∧ Below X.heap.size X w' := fun X hX => by
      have hC : Kd.C (Kd.int .u8) X (some ⟨g11, 12, none⟩) (cutN t).length (cutN t) := C_of_cells (by rw [hln]; omega) _ (fun j x hj => by
        have hjl : j < n.toNat := by have := (List.getElem?_eq_some_iff.1 hj).1; rw [hln] at this; exact this
        unfold cutN at hj
        rw [← HN.out, List.getElem?_drop, List.getElem?_take_of_lt (by omega)] at hj
        rw [add_plain2]
        exact (blk_cell hX (12 + j)).trans (by simp [hj]))
      have := impl_piece_arr kc seq i k (some ⟨g11, 12, none⟩) 52 (cutN t) (pc i k (cutN t)) X hC (by rw [hln]; omega) (by rw [hln]; omega) (by have := HPC.out i (by have h1 := HK0.out; have h2 := CK.out; omega) (by rw [← HT.out, hln]; omega); rw [← HK.out, ← HT.out] at this; exact this) (fun l c hl h => crc_bd kc l c (by omega) h)
      rw [hln, show n.toNat = ((12 + n).toNat - 12) by omega] at this
      exact this
    have HPI := Aside0.mk hpi
    have HLN := Aside0.mk hln
    have hld : ∀ X : World, X.heap[g11]? = some (.cells (t.map (Value.int .u8)).toArray 84 (0, 0)) → (Instr.loadAt 84 (.pointer (some ⟨g11, 0, none⟩))).run Try.prog X = .ok (.agg (t.map (Value.int .u8)).toArray) X := fun X hX =>
      load_arr X ⟨g11, 0, none⟩ 84 (t.map (Value.int .u8)) 64 5 (fun j v hj => by rw [add_plain]; exact (blk_cell hX j).trans (by simpa using hj)) (by kernel_rfl) (by rw [List.length_map, HL.out]; kernel_rfl)
    have HLD := Aside0.mk hld
    clear hpi hld hln
    have hw12 : wrap64 (12 + n) = 12 + n := by unfold wrap64; omega
    have hqg : Try.prog.eqGuardType Try.prog.depth 84 = false := by kernel_rfl
    have hs1 : (12 : Int) ≤ 12 + n := by omega
    have hs2 : 12 + n ≤ (64 : Int) := by omega
    have C2' := Aside0.mk c2
    have C3' := Aside0.mk c3
    clear c2 c3 c48
    go_wp2_with fail
    go_cut [87] (fun v87 wc => v87 = .bool (t != pc i k (cutN t)) ∧ Aside0 ((pc i k (cutN t)).length = 64) ∧
      Aside0 (wc.heap[w.heap.size]? = some (.cells #[.slice A0 l0.length c0, .slice A1 l1.length c1, .int .i64 a2, .bool a3] 25 (0, 0))) ∧ Aside0 (wc.heap[w.heap.size + 1]? = some (.cells #[.bool false, .slice none 0 0, .int .i64 0] 49 (0, 0))) ∧ Aside0 (wc.heap[g9]? = some (.cells #[.bool true, v, .int .i64 k] 49 (0, 0))) ∧
      Aside0 (wc.heap[g11]? = some (.cells (t.map (Value.int .u8)).toArray 84 (0, 0))) ∧ Aside0 (Kd.R (Kd.int .u8) 5 wc w.heap.size (fun _ => True) v p) ∧ Aside0 (Below w.heap.size w wc))
    case first =>
      by_cases b5 : n < 48
      · have c6 : decide ((i : Int) < k - 1) = false := decide_eq_false (fun h => C2'.out ⟨b5, h⟩)
        have c5 : decide (n < 48) = true := decide_eq_true b5
        by_cases b15 : n = 0
        ·have c7 : decide ((1 : Int) < k) = false := decide_eq_false (fun h => C3'.out ⟨b15, h⟩)
         have c8 : (n == 0) = true := beq_iff_eq.2 b15
         clear b15 b5
         refine start_ (n := 31) (S := fun w' => w'.heap[g11]? = some (.cells (t.map (Value.int .u8)).toArray 84 (0, 0))) (ds := []) #[false, false, false, false, false, false, false, false, false, false, false, false, false, false, false, false, false, false, false, false, false, false, false, false, false, false, false, false, false, false, false] (by kernel_rfl) rfl rfl K11.out (fun hHeld => ?_); refine with_tabW impl_ReadRec.gtab13 impl_ReadRec.gbits13 (fun HT_ HW_ => ?_)
         replace K3 := Aside0.mk (blk_drew K3.out)
         replace K6 := Aside0.mk (blk_drew K6.out)
         replace K9 := Aside0.mk (blk_drew K9.out)
         replace K11 := Aside0.mk (blk_drew K11.out)
         replace HR := Aside0.mk (Kd.R_drew HR.out)
         replace HB := Aside0.mk (below_drew1 HB.out)
         clear z0 z1 z2 y0 y1 y2
         generalize Wc.drew = Wd at *
         refine pure_ (i := 0) (N := some 57) (v := ?_) (a' := ?_) #[true, false, false, false, false, false, false, false, false, false, false, false, false, false, false, false, false, false, false, false, false, false, false, false, false, false, false, false, false, false, false] rfl rfl (any_of HT_.out (by kernel_rfl)) (fun _ _ _ h => h) (Or.inl ⟨by rfl, ?_⟩) ?_ ?_
         rotate_left
         ·intro w'
          go_simp
          with_reducible rfl
         rotate_left
         ·simp only [Act.put, List.setIfInBounds_toArray, List.set_cons_zero, List.set_cons_succ, i64_w, i32_w]
          rfl
         refine pure_ (i := 1) (N := some 58) (v := ?_) (a' := ?_) #[true, true, false, false, false, false, false, false, false, false, false, false, false, false, false, false, false, false, false, false, false, false, false, false, false, false, false, false, false, false, false] rfl rfl (any_of HT_.out (by kernel_rfl)) (fun _ _ _ h => h) (Or.inl ⟨by rfl, ?_⟩) ?_ ?_
         rotate_left
         ·intro w'
          go_simp
          with_reducible rfl
         rotate_left
         ·simp only [Act.put, List.setIfInBounds_toArray, List.set_cons_zero, List.set_cons_succ, i64_w, i32_w]
          rfl
         refine pure_ (i := 2) (N := some 59) (v := ?_) (a' := ?_) #[true, true, true, false, false, false, false, false, false, false, false, false, false, false, false, false, false, false, false, false, false, false, false, false, false, false, false, false, false, false, false] rfl rfl (any_of HT_.out (by kernel_rfl)) (fun _ _ _ h => h) (Or.inl ⟨by rfl, ?_⟩) ?_ ?_
         rotate_left
         ·intro w'
          go_simp
          with_reducible rfl
         rotate_left
         ·simp only [Act.put, List.setIfInBounds_toArray, List.set_cons_zero, List.set_cons_succ, i64_w, i32_w]
          rfl
         refine pure_ (i := 3) (N := some 60) (v := ?_) (a' := ?_) #[true, true, true, true, false, false, false, false, false, false, false, false, false, false, false, false, false, false, false, false, false, false, false, false, false, false, false, false, false, false, false] rfl rfl (any_of HT_.out (by kernel_rfl)) (fun _ _ _ h => h) (Or.inl ⟨by rfl, ?_⟩) ?_ ?_
         rotate_left
         ·intro w'
          go_simp
          with_reducible rfl
         rotate_left
         ·simp only [Act.put, List.setIfInBounds_toArray, List.set_cons_zero, List.set_cons_succ, i64_w, i32_w]
          rfl
         refine pure_ (i := 4) (N := some 61) (v := ?_) (a' := ?_) #[true, true, true, true, true, false, false, false, false, false, false, false, false, false, false, false, false, false, false, false, false, false, false, false, false, false, false, false, false, false, false] rfl rfl (any_of HT_.out (by kernel_rfl)) (fun _ _ _ h => h) (Or.inl ⟨by rfl, ?_⟩) ?_ ?_
         rotate_left
         ·intro w'
          go_simp
          with_reducible rfl
         rotate_left
         ·simp only [Act.put, List.setIfInBounds_toArray, List.set_cons_zero, List.set_cons_succ, i64_w, i32_w]
          rfl
         refine pure_ (i := 5) (N := some 62) (v := ?_) (a' := ?_) #[true, true, true, true, true, true, false, false, false, false, false, false, false, false, false, false, false, false, false, false, false, false, false, false, false, false, false, false, false, false, false] rfl rfl (any_of HT_.out (by kernel_rfl)) (fun _ _ _ h => h) (Or.inl ⟨by rfl, ?_⟩) ?_ ?_
         rotate_left
         ·intro w'
          go_simp
          with_reducible rfl
         rotate_left
         ·simp only [Act.put, List.setIfInBounds_toArray, List.set_cons_zero, List.set_cons_succ, i64_w, i32_w]
          rfl
         refine pure_ (i := 6) (N := some 63) (v := ?_) (a' := ?_) #[true, true, true, true, true, true, true, false, false, false, false, false, false, false, false, false, false, false, false, false, false, false, false, false, false, false, false, false, false, false, false] rfl rfl (any_of HT_.out (by kernel_rfl)) (fun _ _ _ h => h) (Or.inl ⟨by rfl, ?_⟩) ?_ ?_
         rotate_left
         ·intro w'
          go_simp
          with_reducible rfl
         rotate_left
         ·simp only [Act.put, List.setIfInBounds_toArray, List.set_cons_zero, List.set_cons_succ, i64_w, i32_w]
          rfl
         refine pure_ (i := 7) (N := some 64) (v := ?_) (a' := ?_) #[true, true, true, true, true, true, true, true, false, false, false, false, false, false, false, false, false, false, false, false, false, false, false, false, false, false, false, false, false, false, false] rfl rfl (any_of HT_.out (by kernel_rfl)) (fun _ _ _ h => h) (Or.inl ⟨by rfl, ?_⟩) ?_ ?_
         rotate_left
         ·intro w'
          go_simp
          with_reducible rfl
         rotate_left
         ·simp only [Act.put, List.setIfInBounds_toArray, List.set_cons_zero, List.set_cons_succ, i64_w, i32_w]
          rfl
         refine pure_ (i := 8) (N := some 65) (v := ?_) (a' := ?_) #[true, true, true, true, true, true, true, true, true, false, false, false, false, false, false, false, false, false, false, false, false, false, false, false, false, false, false, false, false, false, false] rfl rfl (any_of HT_.out (by kernel_rfl)) (fun _ _ _ h => h) (Or.inl ⟨by rfl, ?_⟩) ?_ ?_
         rotate_left
         ·intro w'
          go_simp
          with_reducible rfl
         rotate_left
         ·simp only [Act.put, List.setIfInBounds_toArray, List.set_cons_zero, List.set_cons_succ, i64_w, i32_w]
          rfl
         refine pure_ (i := 9) (N := some 66) (v := ?_) (a' := ?_) #[true, true, true, true, true, true, true, true, true, true, false, false, false, false, false, false, false, false, false, false, false, false, false, false, false, false, false, false, false, false, false] rfl rfl (any_of HT_.out (by kernel_rfl)) (fun _ _ _ h => h) (Or.inl ⟨by rfl, ?_⟩) ?_ ?_
         rotate_left
         ·intro w'
          go_simp
          with_reducible rfl
         rotate_left
         ·simp only [Act.put, List.setIfInBounds_toArray, List.set_cons_zero, List.set_cons_succ, i64_w, i32_w]
          rfl
         refine pure_ (i := 10) (N := some 67) (v := ?_) (a' := ?_) #[true, true, true, true, true, true, true, true, true, true, true, false, false, false, false, false, false, false, false, false, false, false, false, false, false, false, false, false, false, false, false] rfl rfl (any_of HT_.out (by kernel_rfl)) (fun _ _ _ h => h) (Or.inl ⟨by rfl, ?_⟩) ?_ ?_
         rotate_left
         ·intro w'
          go_simp
          with_reducible rfl
         rotate_left
         ·simp only [Act.put, List.setIfInBounds_toArray, List.set_cons_zero, List.set_cons_succ, i64_w, i32_w]
          rfl
         refine pure_ (i := 11) (N := some 68) (v := ?_) (a' := ?_) #[true, true, true, true, true, true, true, true, true, true, true, true, false, false, false, false, false, false, false, false, false, false, false, false, false, false, false, false, false, false, false] rfl rfl (any_of HT_.out (by kernel_rfl)) (fun _ _ _ h => h) (Or.inl ⟨by rfl, ?_⟩) ?_ ?_
         rotate_left
         ·intro w'
          go_simp
          with_reducible rfl
         rotate_left
         ·simp only [Act.put, List.setIfInBounds_toArray, List.set_cons_zero, List.set_cons_succ, i64_w, i32_w]
          rfl
         refine pure_ (i := 12) (N := some 69) (v := ?_) (a' := ?_) #[true, true, true, true, true, true, true, true, true, true, true, true, true, false, false, false, false, false, false, false, false, false, false, false, false, false, false, false, false, false, false] rfl rfl (any_of HT_.out (by kernel_rfl)) (fun _ _ _ h => h) (Or.inl ⟨by rfl, ?_⟩) ?_ ?_
         rotate_left
         ·intro w'
          go_simp
          with_reducible rfl
         rotate_left
         ·simp only [Act.put, List.setIfInBounds_toArray, List.set_cons_zero, List.set_cons_succ, i64_w, i32_w]
          rfl
         refine pure_ (i := 13) (N := some 70) (v := ?_) (a' := ?_) #[true, true, true, true, true, true, true, true, true, true, true, true, true, true, false, false, false, false, false, false, false, false, false, false, false, false, false, false, false, false, false] rfl rfl (any_of HT_.out (by kernel_rfl)) (fun _ _ _ h => h) (Or.inl ⟨by rfl, ?_⟩) ?_ ?_
         rotate_left
         ·intro w'
          go_simp
          with_reducible rfl
         rotate_left
         ·simp only [Act.put, List.setIfInBounds_toArray, List.set_cons_zero, List.set_cons_succ, i64_w, i32_w]
          rfl
         refine pure_ (i := 14) (N := some 71) (v := ?_) (a' := ?_) #[true, true, true, true, true, true, true, true, true, true, true, true, true, true, true, false, false, false, false, false, false, false, false, false, false, false, false, false, false, false, false] rfl rfl (any_of HT_.out (by kernel_rfl)) (fun _ _ _ h => h) (Or.inl ⟨by rfl, ?_⟩) ?_ ?_
         rotate_left
         ·intro w'
          go_simp
          with_reducible rfl
         rotate_left
         ·simp only [Act.put, List.setIfInBounds_toArray, List.set_cons_zero, List.set_cons_succ, i64_w, i32_w]
          rfl
         refine pure_ (i := 15) (N := some 72) (v := ?_) (a' := ?_) #[true, true, true, true, true, true, true, true, true, true, true, true, true, true, true, true, false, false, false, false, false, false, false, false, false, false, false, false, false, false, false] rfl rfl (any_of HT_.out (by kernel_rfl)) (fun _ _ _ h => h) (Or.inl ⟨by rfl, ?_⟩) ?_ ?_
         rotate_left
         ·intro w'
          go_simp
          with_reducible rfl
         rotate_left
         ·simp only [Act.put, List.setIfInBounds_toArray, List.set_cons_zero, List.set_cons_succ, i64_w, i32_w]
          rfl
         refine pure_ (i := 16) (N := some 73) (v := ?_) (a' := ?_) #[true, true, true, true, true, true, true, true, true, true, true, true, true, true, true, true, true, false, false, false, false, false, false, false, false, false, false, false, false, false, false] rfl rfl (any_of HT_.out (by kernel_rfl)) (fun _ _ _ h => h) (Or.inl ⟨by rfl, ?_⟩) ?_ ?_
         rotate_left
         ·intro w'
          go_simp
          with_reducible rfl
         rotate_left
         ·simp only [Act.put, List.setIfInBounds_toArray, List.set_cons_zero, List.set_cons_succ, i64_w, i32_w]
          rfl
         refine pure_ (i := 17) (N := some 74) (v := ?_) (a' := ?_) #[true, true, true, true, true, true, true, true, true, true, true, true, true, true, true, true, true, true, false, false, false, false, false, false, false, false, false, false, false, false, false] rfl rfl (any_of HT_.out (by kernel_rfl)) (fun _ _ _ h => h) (Or.inl ⟨by rfl, ?_⟩) ?_ ?_
         rotate_left
         ·intro w'
          go_simp
          with_reducible rfl
         rotate_left
         ·simp only [Act.put, List.setIfInBounds_toArray, List.set_cons_zero, List.set_cons_succ, i64_w, i32_w]
          rfl
         refine pure_ (i := 18) (N := some 75) (v := ?_) (a' := ?_) #[true, true, true, true, true, true, true, true, true, true, true, true, true, true, true, true, true, true, true, false, false, false, false, false, false, false, false, false, false, false, false] rfl rfl (any_of HT_.out (by kernel_rfl)) (fun _ _ _ h => h) (Or.inl ⟨by rfl, ?_⟩) ?_ ?_
         rotate_left
         ·intro w'
          go_simp
          with_reducible rfl
         rotate_left
         ·simp only [Act.put, List.setIfInBounds_toArray, List.set_cons_zero, List.set_cons_succ, i64_w, i32_w]
          rfl
         refine pure_ (i := 19) (N := some 76) (v := ?_) (a' := ?_) #[true, true, true, true, true, true, true, true, true, true, true, true, true, true, true, true, true, true, true, true, false, false, false, false, false, false, false, false, false, false, false] rfl rfl (any_of HT_.out (by kernel_rfl)) (fun _ _ _ h => h) (Or.inl ⟨by rfl, ?_⟩) ?_ ?_
         rotate_left
         ·intro w'
          go_simp
          with_reducible rfl
         rotate_left
         ·simp only [Act.put, List.setIfInBounds_toArray, List.set_cons_zero, List.set_cons_succ, i64_w, i32_w]
          rfl
         refine pure_ (i := 20) (N := some 77) (v := ?_) (a' := ?_) #[true, true, true, true, true, true, true, true, true, true, true, true, true, true, true, true, true, true, true, true, true, false, false, false, false, false, false, false, false, false, false] rfl rfl (any_of HT_.out (by kernel_rfl)) (fun _ _ _ h => h) (Or.inl ⟨by rfl, ?_⟩) ?_ ?_
         rotate_left
         ·intro w'
          go_simp
          with_reducible rfl
         rotate_left
         ·simp only [Act.put, List.setIfInBounds_toArray, List.set_cons_zero, List.set_cons_succ, i64_w, i32_w]
          rfl
         refine take_ (i := 21) (N := some 78) (v := ?_) (a' := ?_) #[true, true, true, true, true, true, true, true, true, true, true, true, true, true, true, true, true, true, true, true, true, true, false, false, false, false, false, false, false, false, false] rfl rfl (take_ofW HT_.out HW_.out (by kernel_rfl)) (fun _ _ _ h => h) (Or.inl ⟨by rfl, ?_⟩) hHeld ?_ ?_
         rotate_left
         ·rintro w' s0
          refine exec_load (p := .pointer (some ⟨g11, 0, none⟩)) (v := .agg (t.map (Value.int .u8)).toArray) 84 (.tmp 11) ?_ ?_ (HLD.out w' s0)
          ·rfl
          ·rfl
         rotate_left
         ·simp only [Act.put, List.setIfInBounds_toArray, List.set_cons_zero, List.set_cons_succ, i64_w, i32_w]
          rfl
         refine pure_ (i := 22) (N := some 79) (v := ?_) (a' := ?_) #[true, true, true, true, true, true, true, true, true, true, true, true, true, true, true, true, true, true, true, true, true, true, true, false, false, false, false, false, false, false, false] rfl rfl (any_of HT_.out (by kernel_rfl)) (fun _ _ _ h => h) (Or.inl ⟨by rfl, ?_⟩) ?_ ?_
         rotate_left
         ·intro w'
          go_simp
          with_reducible rfl
         rotate_left
         ·simp only [Act.put, List.setIfInBounds_toArray, List.set_cons_zero, List.set_cons_succ, i64_w, i32_w]
          rfl
         refine pure_ (i := 23) (N := some 80) (v := ?_) (a' := ?_) #[true, true, true, true, true, true, true, true, true, true, true, true, true, true, true, true, true, true, true, true, true, true, true, true, false, false, false, false, false, false, false] rfl rfl (any_of HT_.out (by kernel_rfl)) (fun _ _ _ h => h) (Or.inl ⟨by rfl, ?_⟩) ?_ ?_
         rotate_left
         ·intro w'
          go_simp
          with_reducible rfl
         rotate_left
         ·simp only [Act.put, List.setIfInBounds_toArray, List.set_cons_zero, List.set_cons_succ, i64_w, i32_w]
          rfl
         refine pure_ (i := 24) (N := some 81) (v := ?_) (a' := ?_) #[true, true, true, true, true, true, true, true, true, true, true, true, true, true, true, true, true, true, true, true, true, true, true, true, true, false, false, false, false, false, false] rfl rfl (any_of HT_.out (by kernel_rfl)) (fun _ _ _ h => h) (Or.inl ⟨by rfl, ?_⟩) ?_ ?_
         rotate_left
         ·intro w'
          go_simp
          with_reducible rfl
         rotate_left
         ·simp only [Act.put, List.setIfInBounds_toArray, List.set_cons_zero, List.set_cons_succ, i64_w, i32_w]
          rfl
         refine pure_ (i := 25) (N := some 82) (v := ?_) (a' := ?_) #[true, true, true, true, true, true, true, true, true, true, true, true, true, true, true, true, true, true, true, true, true, true, true, true, true, true, false, false, false, false, false] rfl rfl (any_of HT_.out (by kernel_rfl)) (fun _ _ _ h => h) (Or.inl ⟨by rfl, ?_⟩) ?_ ?_
         rotate_left
         ·intro w'
          go_simp
          with_reducible rfl
         rotate_left
         ·simp only [Act.put, List.setIfInBounds_toArray, List.set_cons_zero, List.set_cons_succ, i64_w, i32_w]
          rfl
         refine pure_ (i := 26) (N := some 83) (v := ?_) (a' := ?_) #[true, true, true, true, true, true, true, true, true, true, true, true, true, true, true, true, true, true, true, true, true, true, true, true, true, true, true, false, false, false, false] rfl rfl (any_of HT_.out (by kernel_rfl)) (fun _ _ _ h => h) (Or.inl ⟨by rfl, ?_⟩) ?_ ?_
         rotate_left
         ·intro w'
          go_simp
          with_reducible rfl
         rotate_left
         ·simp only [Act.put, List.setIfInBounds_toArray, List.set_cons_zero, List.set_cons_succ, i64_w, i32_w]
          rfl
         refine pure_ (i := 27) (N := some 84) (v := ?_) (a' := ?_) #[true, true, true, true, true, true, true, true, true, true, true, true, true, true, true, true, true, true, true, true, true, true, true, true, true, true, true, true, false, false, false] rfl rfl (any_of HT_.out (by kernel_rfl)) (fun _ _ _ h => h) (Or.inl ⟨by rfl, ?_⟩) ?_ ?_
         rotate_left
         ·intro w'
          go_simp
          with_reducible rfl
         rotate_left
         ·simp only [Act.put, List.setIfInBounds_toArray, List.set_cons_zero, List.set_cons_succ, i64_w, i32_w]
          rfl
         refine one_ (i := 28) (N := some 85) #[true, true, true, true, true, true, true, true, true, true, true, true, true, true, true, true, true, true, true, true, true, true, true, true, true, true, true, true, true, false, false] rfl rfl (one_of HT_.out (by kernel_rfl)) (by decide) (fun K hK => ?_)
         refine goes_ Try.func72 (by kernel_rfl) rfl #[.int .i64 seq, .int .i64 i, .int .i64 k, .slice (some ⟨g11, 12, none⟩) ((12 + n).toNat - 12) 52] (by rfl) rfl rfl (by (try simp only [List.map_toArray, List.map_cons, List.map_nil]); first | done | rfl) ?_
         refine (HPI.out Wd K11.out).mono ?_
         rintro e We ⟨rfl, hcl, hb⟩
         have HCL := Aside0.mk hcl
         clear hcl
         refine ⟨_, rfl, ?_⟩
         replace K3 := Aside0.mk (blk_below K3.out hb)
         replace K6 := Aside0.mk (blk_below K6.out hb)
         replace K9 := Aside0.mk (blk_below K9.out hb)
         replace K11 := Aside0.mk (blk_below K11.out hb)
         replace HR := Aside0.mk (Kd.R_below HR.out hb)
         replace HB := Aside0.mk (below_step HB.out hb)
         clear hb
         have hneq : ∀ w' : World, (binOp .neq 84 (.agg (t.map (Value.int .u8)).toArray) (.agg ((pc i k (cutN t)).map (Value.int .u8)).toArray)).run Try.prog w' = .ok (.bool (t != pc i k (cutN t))) w' := fun w' => run_neq_sector t (pc i k (cutN t)) HL.out HCL.out w'
         refine hK.out _ _ K11.out (fun hHeld => ?_)
         clear hK K
         refine norm_ (a' := ?_) ?_ ?_
         rotate_left
         ·show Act.put _ (some 85) _ = _
          simp only [Act.put, List.setIfInBounds_toArray, List.set_cons_zero, List.set_cons_succ, i64_w, i32_w]
          rfl
         refine pure_ (i := 29) (N := some 86) (v := ?_) (a' := ?_) #[true, true, true, true, true, true, true, true, true, true, true, true, true, true, true, true, true, true, true, true, true, true, true, true, true, true, true, true, true, true, false] rfl rfl (any_of HT_.out (by kernel_rfl)) (fun _ _ _ h => h) (Or.inl ⟨by rfl, ?_⟩) ?_ ?_
         rotate_left
         ·intro w'
          go_simp
          with_reducible rfl
         rotate_left
         ·simp only [Act.put, List.setIfInBounds_toArray, List.set_cons_zero, List.set_cons_succ, i64_w, i32_w]
          rfl
         refine pure_ (i := 30) (N := some 87) (v := ?_) (a' := ?_) #[true, true, true, true, true, true, true, true, true, true, true, true, true, true, true, true, true, true, true, true, true, true, true, true, true, true, true, true, true, true, true] rfl rfl (any_of HT_.out (by kernel_rfl)) (fun _ _ _ h => h) (Or.inl ⟨by rfl, ?_⟩) ?_ ?_
         rotate_left
         ·intro w'
          go_simp
          with_reducible rfl
         rotate_left
         ·simp only [Act.put, List.setIfInBounds_toArray, List.set_cons_zero, List.set_cons_succ, i64_w, i32_w]
          rfl
         refine done_ (done_of HT_.out (by kernel_rfl)) ?_
         go_wp2_with fail
         go_meet
         exact ⟨rfl, HCL, K3, K6, K9, K11, HR, HB⟩
        ·have c8 : (n == 0) = false := beq_eq_false_iff_ne.2 b15
         clear b15 b5
         refine start_ (n := 31) (S := fun w' => w'.heap[g11]? = some (.cells (t.map (Value.int .u8)).toArray 84 (0, 0))) (ds := []) #[false, false, false, false, false, false, false, false, false, false, false, false, false, false, false, false, false, false, false, false, false, false, false, false, false, false, false, false, false, false, false] (by kernel_rfl) rfl rfl K11.out (fun hHeld => ?_); refine with_tabW impl_ReadRec.gtab13 impl_ReadRec.gbits13 (fun HT_ HW_ => ?_)
         replace K3 := Aside0.mk (blk_drew K3.out)
         replace K6 := Aside0.mk (blk_drew K6.out)
         replace K9 := Aside0.mk (blk_drew K9.out)
         replace K11 := Aside0.mk (blk_drew K11.out)
         replace HR := Aside0.mk (Kd.R_drew HR.out)
         replace HB := Aside0.mk (below_drew1 HB.out)
         clear z0 z1 z2 y0 y1 y2
         generalize Wc.drew = Wd at *
         refine pure_ (i := 0) (N := some 57) (v := ?_) (a' := ?_) #[true, false, false, false, false, false, false, false, false, false, false, false, false, false, false, false, false, false, false, false, false, false, false, false, false, false, false, false, false, false, false] rfl rfl (any_of HT_.out (by kernel_rfl)) (fun _ _ _ h => h) (Or.inl ⟨by rfl, ?_⟩) ?_ ?_
         rotate_left
         ·intro w'
          go_simp
          with_reducible rfl
         rotate_left
         ·simp only [Act.put, List.setIfInBounds_toArray, List.set_cons_zero, List.set_cons_succ, i64_w, i32_w]
          rfl
         refine pure_ (i := 1) (N := some 58) (v := ?_) (a' := ?_) #[true, true, false, false, false, false, false, false, false, false, false, false, false, false, false, false, false, false, false, false, false, false, false, false, false, false, false, false, false, false, false] rfl rfl (any_of HT_.out (by kernel_rfl)) (fun _ _ _ h => h) (Or.inl ⟨by rfl, ?_⟩) ?_ ?_
         rotate_left
         ·intro w'
          go_simp
          with_reducible rfl
         rotate_left
         ·simp only [Act.put, List.setIfInBounds_toArray, List.set_cons_zero, List.set_cons_succ, i64_w, i32_w]
          rfl
         refine pure_ (i := 2) (N := some 59) (v := ?_) (a' := ?_) #[true, true, true, false, false, false, false, false, false, false, false, false, false, false, false, false, false, false, false, false, false, false, false, false, false, false, false, false, false, false, false] rfl rfl (any_of HT_.out (by kernel_rfl)) (fun _ _ _ h => h) (Or.inl ⟨by rfl, ?_⟩) ?_ ?_
         rotate_left
         ·intro w'
          go_simp
          with_reducible rfl
         rotate_left
         ·simp only [Act.put, List.setIfInBounds_toArray, List.set_cons_zero, List.set_cons_succ, i64_w, i32_w]
          rfl
         refine pure_ (i := 3) (N := some 60) (v := ?_) (a' := ?_) #[true, true, true, true, false, false, false, false, false, false, false, false, false, false, false, false, false, false, false, false, false, false, false, false, false, false, false, false, false, false, false] rfl rfl (any_of HT_.out (by kernel_rfl)) (fun _ _ _ h => h) (Or.inl ⟨by rfl, ?_⟩) ?_ ?_
         rotate_left
         ·intro w'
          go_simp
          with_reducible rfl
         rotate_left
         ·simp only [Act.put, List.setIfInBounds_toArray, List.set_cons_zero, List.set_cons_succ, i64_w, i32_w]
          rfl
         refine pure_ (i := 4) (N := some 61) (v := ?_) (a' := ?_) #[true, true, true, true, true, false, false, false, false, false, false, false, false, false, false, false, false, false, false, false, false, false, false, false, false, false, false, false, false, false, false] rfl rfl (any_of HT_.out (by kernel_rfl)) (fun _ _ _ h => h) (Or.inl ⟨by rfl, ?_⟩) ?_ ?_
         rotate_left
         ·intro w'
          go_simp
          with_reducible rfl
         rotate_left
         ·simp only [Act.put, List.setIfInBounds_toArray, List.set_cons_zero, List.set_cons_succ, i64_w, i32_w]
          rfl
         refine pure_ (i := 5) (N := some 62) (v := ?_) (a' := ?_) #[true, true, true, true, true, true, false, false, false, false, false, false, false, false, false, false, false, false, false, false, false, false, false, false, false, false, false, false, false, false, false] rfl rfl (any_of HT_.out (by kernel_rfl)) (fun _ _ _ h => h) (Or.inl ⟨by rfl, ?_⟩) ?_ ?_
         rotate_left
         ·intro w'
          go_simp
          with_reducible rfl
         rotate_left
         ·simp only [Act.put, List.setIfInBounds_toArray, List.set_cons_zero, List.set_cons_succ, i64_w, i32_w]
          rfl
         refine pure_ (i := 6) (N := some 63) (v := ?_) (a' := ?_) #[true, true, true, true, true, true, true, false, false, false, false, false, false, false, false, false, false, false, false, false, false, false, false, false, false, false, false, false, false, false, false] rfl rfl (any_of HT_.out (by kernel_rfl)) (fun _ _ _ h => h) (Or.inl ⟨by rfl, ?_⟩) ?_ ?_
         rotate_left
         ·intro w'
          go_simp
          with_reducible rfl
         rotate_left
         ·simp only [Act.put, List.setIfInBounds_toArray, List.set_cons_zero, List.set_cons_succ, i64_w, i32_w]
          rfl
         refine pure_ (i := 7) (N := some 64) (v := ?_) (a' := ?_) #[true, true, true, true, true, true, true, true, false, false, false, false, false, false, false, false, false, false, false, false, false, false, false, false, false, false, false, false, false, false, false] rfl rfl (any_of HT_.out (by kernel_rfl)) (fun _ _ _ h => h) (Or.inl ⟨by rfl, ?_⟩) ?_ ?_
         rotate_left
         ·intro w'
          go_simp
          with_reducible rfl
         rotate_left
         ·simp only [Act.put, List.setIfInBounds_toArray, List.set_cons_zero, List.set_cons_succ, i64_w, i32_w]
          rfl
         refine pure_ (i := 8) (N := some 65) (v := ?_) (a' := ?_) #[true, true, true, true, true, true, true, true, true, false, false, false, false, false, false, false, false, false, false, false, false, false, false, false, false, false, false, false, false, false, false] rfl rfl (any_of HT_.out (by kernel_rfl)) (fun _ _ _ h => h) (Or.inl ⟨by rfl, ?_⟩) ?_ ?_
         rotate_left
         ·intro w'
          go_simp
          with_reducible rfl
         rotate_left
         ·simp only [Act.put, List.setIfInBounds_toArray, List.set_cons_zero, List.set_cons_succ, i64_w, i32_w]
          rfl
         refine pure_ (i := 9) (N := some 66) (v := ?_) (a' := ?_) #[true, true, true, true, true, true, true, true, true, true, false, false, false, false, false, false, false, false, false, false, false, false, false, false, false, false, false, false, false, false, false] rfl rfl (any_of HT_.out (by kernel_rfl)) (fun _ _ _ h => h) (Or.inl ⟨by rfl, ?_⟩) ?_ ?_
         rotate_left
         ·intro w'
          go_simp
          with_reducible rfl
         rotate_left
         ·simp only [Act.put, List.setIfInBounds_toArray, List.set_cons_zero, List.set_cons_succ, i64_w, i32_w]
          rfl
         refine pure_ (i := 10) (N := some 67) (v := ?_) (a' := ?_) #[true, true, true, true, true, true, true, true, true, true, true, false, false, false, false, false, false, false, false, false, false, false, false, false, false, false, false, false, false, false, false] rfl rfl (any_of HT_.out (by kernel_rfl)) (fun _ _ _ h => h) (Or.inl ⟨by rfl, ?_⟩) ?_ ?_
         rotate_left
         ·intro w'
          go_simp
          with_reducible rfl
         rotate_left
         ·simp only [Act.put, List.setIfInBounds_toArray, List.set_cons_zero, List.set_cons_succ, i64_w, i32_w]
          rfl
         refine pure_ (i := 11) (N := some 68) (v := ?_) (a' := ?_) #[true, true, true, true, true, true, true, true, true, true, true, true, false, false, false, false, false, false, false, false, false, false, false, false, false, false, false, false, false, false, false] rfl rfl (any_of HT_.out (by kernel_rfl)) (fun _ _ _ h => h) (Or.inl ⟨by rfl, ?_⟩) ?_ ?_
         rotate_left
         ·intro w'
          go_simp
          with_reducible rfl
         rotate_left
         ·simp only [Act.put, List.setIfInBounds_toArray, List.set_cons_zero, List.set_cons_succ, i64_w, i32_w]
          rfl
         refine pure_ (i := 12) (N := some 69) (v := ?_) (a' := ?_) #[true, true, true, true, true, true, true, true, true, true, true, true, true, false, false, false, false, false, false, false, false, false, false, false, false, false, false, false, false, false, false] rfl rfl (any_of HT_.out (by kernel_rfl)) (fun _ _ _ h => h) (Or.inl ⟨by rfl, ?_⟩) ?_ ?_
         rotate_left
         ·intro w'
          go_simp
          with_reducible rfl
         rotate_left
         ·simp only [Act.put, List.setIfInBounds_toArray, List.set_cons_zero, List.set_cons_succ, i64_w, i32_w]
          rfl
         refine pure_ (i := 13) (N := some 70) (v := ?_) (a' := ?_) #[true, true, true, true, true, true, true, true, true, true, true, true, true, true, false, false, false, false, false, false, false, false, false, false, false, false, false, false, false, false, false] rfl rfl (any_of HT_.out (by kernel_rfl)) (fun _ _ _ h => h) (Or.inl ⟨by rfl, ?_⟩) ?_ ?_
         rotate_left
         ·intro w'
          go_simp
          with_reducible rfl
         rotate_left
         ·simp only [Act.put, List.setIfInBounds_toArray, List.set_cons_zero, List.set_cons_succ, i64_w, i32_w]
          rfl
         refine pure_ (i := 14) (N := some 71) (v := ?_) (a' := ?_) #[true, true, true, true, true, true, true, true, true, true, true, true, true, true, true, false, false, false, false, false, false, false, false, false, false, false, false, false, false, false, false] rfl rfl (any_of HT_.out (by kernel_rfl)) (fun _ _ _ h => h) (Or.inl ⟨by rfl, ?_⟩) ?_ ?_
         rotate_left
         ·intro w'
          go_simp
          with_reducible rfl
         rotate_left
         ·simp only [Act.put, List.setIfInBounds_toArray, List.set_cons_zero, List.set_cons_succ, i64_w, i32_w]
          rfl
         refine pure_ (i := 15) (N := some 72) (v := ?_) (a' := ?_) #[true, true, true, true, true, true, true, true, true, true, true, true, true, true, true, true, false, false, false, false, false, false, false, false, false, false, false, false, false, false, false] rfl rfl (any_of HT_.out (by kernel_rfl)) (fun _ _ _ h => h) (Or.inl ⟨by rfl, ?_⟩) ?_ ?_
         rotate_left
         ·intro w'
          go_simp
          with_reducible rfl
         rotate_left
         ·simp only [Act.put, List.setIfInBounds_toArray, List.set_cons_zero, List.set_cons_succ, i64_w, i32_w]
          rfl
         refine pure_ (i := 16) (N := some 73) (v := undef) (a' := ?_) #[true, true, true, true, true, true, true, true, true, true, true, true, true, true, true, true, true, false, false, false, false, false, false, false, false, false, false, false, false, false, false] rfl rfl (any_of HT_.out (by kernel_rfl)) (fun _ _ _ h => h) (Or.inr ⟨by rfl, rfl⟩) ?_ ?_
         rotate_left
         ·simp only [Act.put, List.setIfInBounds_toArray, List.set_cons_zero, List.set_cons_succ, i64_w, i32_w]
          rfl
         refine pure_ (i := 17) (N := some 74) (v := undef) (a' := ?_) #[true, true, true, true, true, true, true, true, true, true, true, true, true, true, true, true, true, true, false, false, false, false, false, false, false, false, false, false, false, false, false] rfl rfl (any_of HT_.out (by kernel_rfl)) (fun _ _ _ h => h) (Or.inr ⟨by rfl, rfl⟩) ?_ ?_
         rotate_left
         ·simp only [Act.put, List.setIfInBounds_toArray, List.set_cons_zero, List.set_cons_succ, i64_w, i32_w]
          rfl
         refine pure_ (i := 18) (N := some 75) (v := ?_) (a' := ?_) #[true, true, true, true, true, true, true, true, true, true, true, true, true, true, true, true, true, true, true, false, false, false, false, false, false, false, false, false, false, false, false] rfl rfl (any_of HT_.out (by kernel_rfl)) (fun _ _ _ h => h) (Or.inl ⟨by rfl, ?_⟩) ?_ ?_
         rotate_left
         ·intro w'
          go_simp
          with_reducible rfl
         rotate_left
         ·simp only [Act.put, List.setIfInBounds_toArray, List.set_cons_zero, List.set_cons_succ, i64_w, i32_w]
          rfl
         refine pure_ (i := 19) (N := some 76) (v := ?_) (a' := ?_) #[true, true, true, true, true, true, true, true, true, true, true, true, true, true, true, true, true, true, true, true, false, false, false, false, false, false, false, false, false, false, false] rfl rfl (any_of HT_.out (by kernel_rfl)) (fun _ _ _ h => h) (Or.inl ⟨by rfl, ?_⟩) ?_ ?_
         rotate_left
         ·intro w'
          go_simp
          with_reducible rfl
         rotate_left
         ·simp only [Act.put, List.setIfInBounds_toArray, List.set_cons_zero, List.set_cons_succ, i64_w, i32_w]
          rfl
         refine pure_ (i := 20) (N := some 77) (v := ?_) (a' := ?_) #[true, true, true, true, true, true, true, true, true, true, true, true, true, true, true, true, true, true, true, true, true, false, false, false, false, false, false, false, false, false, false] rfl rfl (any_of HT_.out (by kernel_rfl)) (fun _ _ _ h => h) (Or.inl ⟨by rfl, ?_⟩) ?_ ?_
         rotate_left
         ·intro w'
          go_simp
          with_reducible rfl
         rotate_left
         ·simp only [Act.put, List.setIfInBounds_toArray, List.set_cons_zero, List.set_cons_succ, i64_w, i32_w]
          rfl
         refine take_ (i := 21) (N := some 78) (v := ?_) (a' := ?_) #[true, true, true, true, true, true, true, true, true, true, true, true, true, true, true, true, true, true, true, true, true, true, false, false, false, false, false, false, false, false, false] rfl rfl (take_ofW HT_.out HW_.out (by kernel_rfl)) (fun _ _ _ h => h) (Or.inl ⟨by rfl, ?_⟩) hHeld ?_ ?_
         rotate_left
         ·rintro w' s0
          refine exec_load (p := .pointer (some ⟨g11, 0, none⟩)) (v := .agg (t.map (Value.int .u8)).toArray) 84 (.tmp 11) ?_ ?_ (HLD.out w' s0)
          ·rfl
          ·rfl
         rotate_left
         ·simp only [Act.put, List.setIfInBounds_toArray, List.set_cons_zero, List.set_cons_succ, i64_w, i32_w]
          rfl
         refine pure_ (i := 22) (N := some 79) (v := ?_) (a' := ?_) #[true, true, true, true, true, true, true, true, true, true, true, true, true, true, true, true, true, true, true, true, true, true, true, false, false, false, false, false, false, false, false] rfl rfl (any_of HT_.out (by kernel_rfl)) (fun _ _ _ h => h) (Or.inl ⟨by rfl, ?_⟩) ?_ ?_
         rotate_left
         ·intro w'
          go_simp
          with_reducible rfl
         rotate_left
         ·simp only [Act.put, List.setIfInBounds_toArray, List.set_cons_zero, List.set_cons_succ, i64_w, i32_w]
          rfl
         refine pure_ (i := 23) (N := some 80) (v := ?_) (a' := ?_) #[true, true, true, true, true, true, true, true, true, true, true, true, true, true, true, true, true, true, true, true, true, true, true, true, false, false, false, false, false, false, false] rfl rfl (any_of HT_.out (by kernel_rfl)) (fun _ _ _ h => h) (Or.inl ⟨by rfl, ?_⟩) ?_ ?_
         rotate_left
         ·intro w'
          go_simp
          with_reducible rfl
         rotate_left
         ·simp only [Act.put, List.setIfInBounds_toArray, List.set_cons_zero, List.set_cons_succ, i64_w, i32_w]
          rfl
         refine pure_ (i := 24) (N := some 81) (v := ?_) (a' := ?_) #[true, true, true, true, true, true, true, true, true, true, true, true, true, true, true, true, true, true, true, true, true, true, true, true, true, false, false, false, false, false, false] rfl rfl (any_of HT_.out (by kernel_rfl)) (fun _ _ _ h => h) (Or.inl ⟨by rfl, ?_⟩) ?_ ?_
         rotate_left
         ·intro w'
          go_simp
          with_reducible rfl
         rotate_left
         ·simp only [Act.put, List.setIfInBounds_toArray, List.set_cons_zero, List.set_cons_succ, i64_w, i32_w]
          rfl
         refine pure_ (i := 25) (N := some 82) (v := ?_) (a' := ?_) #[true, true, true, true, true, true, true, true, true, true, true, true, true, true, true, true, true, true, true, true, true, true, true, true, true, true, false, false, false, false, false] rfl rfl (any_of HT_.out (by kernel_rfl)) (fun _ _ _ h => h) (Or.inl ⟨by rfl, ?_⟩) ?_ ?_
         rotate_left
         ·intro w'
          go_simp
          with_reducible rfl
         rotate_left
         ·simp only [Act.put, List.setIfInBounds_toArray, List.set_cons_zero, List.set_cons_succ, i64_w, i32_w]
          rfl
         refine pure_ (i := 26) (N := some 83) (v := ?_) (a' := ?_) #[true, true, true, true, true, true, true, true, true, true, true, true, true, true, true, true, true, true, true, true, true, true, true, true, true, true, true, false, false, false, false] rfl rfl (any_of HT_.out (by kernel_rfl)) (fun _ _ _ h => h) (Or.inl ⟨by rfl, ?_⟩) ?_ ?_
         rotate_left
         ·intro w'
          go_simp
          with_reducible rfl
         rotate_left
         ·simp only [Act.put, List.setIfInBounds_toArray, List.set_cons_zero, List.set_cons_succ, i64_w, i32_w]
          rfl
         refine pure_ (i := 27) (N := some 84) (v := ?_) (a' := ?_) #[true, true, true, true, true, true, true, true, true, true, true, true, true, true, true, true, true, true, true, true, true, true, true, true, true, true, true, true, false, false, false] rfl rfl (any_of HT_.out (by kernel_rfl)) (fun _ _ _ h => h) (Or.inl ⟨by rfl, ?_⟩) ?_ ?_
         rotate_left
         ·intro w'
          go_simp
          with_reducible rfl
         rotate_left
         ·simp only [Act.put, List.setIfInBounds_toArray, List.set_cons_zero, List.set_cons_succ, i64_w, i32_w]
          rfl
         refine one_ (i := 28) (N := some 85) #[true, true, true, true, true, true, true, true, true, true, true, true, true, true, true, true, true, true, true, true, true, true, true, true, true, true, true, true, true, false, false] rfl rfl (one_of HT_.out (by kernel_rfl)) (by decide) (fun K hK => ?_)
         refine goes_ Try.func72 (by kernel_rfl) rfl #[.int .i64 seq, .int .i64 i, .int .i64 k, .slice (some ⟨g11, 12, none⟩) ((12 + n).toNat - 12) 52] (by rfl) rfl rfl (by (try simp only [List.map_toArray, List.map_cons, List.map_nil]); first | done | rfl) ?_
         refine (HPI.out Wd K11.out).mono ?_
         rintro e We ⟨rfl, hcl, hb⟩
         have HCL := Aside0.mk hcl
         clear hcl
         refine ⟨_, rfl, ?_⟩
         replace K3 := Aside0.mk (blk_below K3.out hb)
         replace K6 := Aside0.mk (blk_below K6.out hb)
         replace K9 := Aside0.mk (blk_below K9.out hb)
         replace K11 := Aside0.mk (blk_below K11.out hb)
         replace HR := Aside0.mk (Kd.R_below HR.out hb)
         replace HB := Aside0.mk (below_step HB.out hb)
         clear hb
         have hneq : ∀ w' : World, (binOp .neq 84 (.agg (t.map (Value.int .u8)).toArray) (.agg ((pc i k (cutN t)).map (Value.int .u8)).toArray)).run Try.prog w' = .ok (.bool (t != pc i k (cutN t))) w' := fun w' => run_neq_sector t (pc i k (cutN t)) HL.out HCL.out w'
         refine hK.out _ _ K11.out (fun hHeld => ?_)
         clear hK K
         refine norm_ (a' := ?_) ?_ ?_
         rotate_left
         ·show Act.put _ (some 85) _ = _
          simp only [Act.put, List.setIfInBounds_toArray, List.set_cons_zero, List.set_cons_succ, i64_w, i32_w]
          rfl
         refine pure_ (i := 29) (N := some 86) (v := ?_) (a' := ?_) #[true, true, true, true, true, true, true, true, true, true, true, true, true, true, true, true, true, true, true, true, true, true, true, true, true, true, true, true, true, true, false] rfl rfl (any_of HT_.out (by kernel_rfl)) (fun _ _ _ h => h) (Or.inl ⟨by rfl, ?_⟩) ?_ ?_
         rotate_left
         ·intro w'
          go_simp
          with_reducible rfl
         rotate_left
         ·simp only [Act.put, List.setIfInBounds_toArray, List.set_cons_zero, List.set_cons_succ, i64_w, i32_w]
          rfl
         refine pure_ (i := 30) (N := some 87) (v := ?_) (a' := ?_) #[true, true, true, true, true, true, true, true, true, true, true, true, true, true, true, true, true, true, true, true, true, true, true, true, true, true, true, true, true, true, true] rfl rfl (any_of HT_.out (by kernel_rfl)) (fun _ _ _ h => h) (Or.inl ⟨by rfl, ?_⟩) ?_ ?_
         rotate_left
         ·intro w'
          go_simp
          with_reducible rfl
         rotate_left
         ·simp only [Act.put, List.setIfInBounds_toArray, List.set_cons_zero, List.set_cons_succ, i64_w, i32_w]
          rfl
         refine done_ (done_of HT_.out (by kernel_rfl)) ?_
         go_wp2_with fail
         go_meet
         exact ⟨rfl, HCL, K3, K6, K9, K11, HR, HB⟩
      · have c5 : decide (n < 48) = false := decide_eq_false b5
        have c8 : (n == 0) = false := beq_eq_false_iff_ne.2 (by omega)
        clear b5
        refine start_ (n := 31) (S := fun w' => w'.heap[g11]? = some (.cells (t.map (Value.int .u8)).toArray 84 (0, 0))) (ds := []) #[false, false, false, false, false, false, false, false, false, false, false, false, false, false, false, false, false, false, false, false, false, false, false, false, false, false, false, false, false, false, false] (by kernel_rfl) rfl rfl K11.out (fun hHeld => ?_); refine with_tabW impl_ReadRec.gtab13 impl_ReadRec.gbits13 (fun HT_ HW_ => ?_)
        replace K3 := Aside0.mk (blk_drew K3.out)
        replace K6 := Aside0.mk (blk_drew K6.out)
        replace K9 := Aside0.mk (blk_drew K9.out)
        replace K11 := Aside0.mk (blk_drew K11.out)
        replace HR := Aside0.mk (Kd.R_drew HR.out)
        replace HB := Aside0.mk (below_drew1 HB.out)
        clear z0 z1 z2 y0 y1 y2
        generalize Wc.drew = Wd at *
        refine pure_ (i := 0) (N := some 57) (v := ?_) (a' := ?_) #[true, false, false, false, false, false, false, false, false, false, false, false, false, false, false, false, false, false, false, false, false, false, false, false, false, false, false, false, false, false, false] rfl rfl (any_of HT_.out (by kernel_rfl)) (fun _ _ _ h => h) (Or.inl ⟨by rfl, ?_⟩) ?_ ?_
        rotate_left
        ·intro w'
         go_simp
         with_reducible rfl
        rotate_left
        ·simp only [Act.put, List.setIfInBounds_toArray, List.set_cons_zero, List.set_cons_succ, i64_w, i32_w]
         rfl
        refine pure_ (i := 1) (N := some 58) (v := ?_) (a' := ?_) #[true, true, false, false, false, false, false, false, false, false, false, false, false, false, false, false, false, false, false, false, false, false, false, false, false, false, false, false, false, false, false] rfl rfl (any_of HT_.out (by kernel_rfl)) (fun _ _ _ h => h) (Or.inl ⟨by rfl, ?_⟩) ?_ ?_
        rotate_left
        ·intro w'
         go_simp
         with_reducible rfl
        rotate_left
        ·simp only [Act.put, List.setIfInBounds_toArray, List.set_cons_zero, List.set_cons_succ, i64_w, i32_w]
         rfl
        refine pure_ (i := 2) (N := some 59) (v := ?_) (a' := ?_) #[true, true, true, false, false, false, false, false, false, false, false, false, false, false, false, false, false, false, false, false, false, false, false, false, false, false, false, false, false, false, false] rfl rfl (any_of HT_.out (by kernel_rfl)) (fun _ _ _ h => h) (Or.inl ⟨by rfl, ?_⟩) ?_ ?_
        rotate_left
        ·intro w'
         go_simp
         with_reducible rfl
        rotate_left
        ·simp only [Act.put, List.setIfInBounds_toArray, List.set_cons_zero, List.set_cons_succ, i64_w, i32_w]
         rfl
        refine pure_ (i := 3) (N := some 60) (v := ?_) (a' := ?_) #[true, true, true, true, false, false, false, false, false, false, false, false, false, false, false, false, false, false, false, false, false, false, false, false, false, false, false, false, false, false, false] rfl rfl (any_of HT_.out (by kernel_rfl)) (fun _ _ _ h => h) (Or.inl ⟨by rfl, ?_⟩) ?_ ?_
        rotate_left
        ·intro w'
         go_simp
         with_reducible rfl
        rotate_left
        ·simp only [Act.put, List.setIfInBounds_toArray, List.set_cons_zero, List.set_cons_succ, i64_w, i32_w]
         rfl
        refine pure_ (i := 4) (N := some 61) (v := ?_) (a' := ?_) #[true, true, true, true, true, false, false, false, false, false, false, false, false, false, false, false, false, false, false, false, false, false, false, false, false, false, false, false, false, false, false] rfl rfl (any_of HT_.out (by kernel_rfl)) (fun _ _ _ h => h) (Or.inl ⟨by rfl, ?_⟩) ?_ ?_
        rotate_left
        ·intro w'
         go_simp
         with_reducible rfl
        rotate_left
        ·simp only [Act.put, List.setIfInBounds_toArray, List.set_cons_zero, List.set_cons_succ, i64_w, i32_w]
         rfl
        refine pure_ (i := 5) (N := some 62) (v := ?_) (a' := ?_) #[true, true, true, true, true, true, false, false, false, false, false, false, false, false, false, false, false, false, false, false, false, false, false, false, false, false, false, false, false, false, false] rfl rfl (any_of HT_.out (by kernel_rfl)) (fun _ _ _ h => h) (Or.inl ⟨by rfl, ?_⟩) ?_ ?_
        rotate_left
        ·intro w'
         go_simp
         with_reducible rfl
        rotate_left
        ·simp only [Act.put, List.setIfInBounds_toArray, List.set_cons_zero, List.set_cons_succ, i64_w, i32_w]
         rfl
        refine pure_ (i := 6) (N := some 63) (v := undef) (a' := ?_) #[true, true, true, true, true, true, true, false, false, false, false, false, false, false, false, false, false, false, false, false, false, false, false, false, false, false, false, false, false, false, false] rfl rfl (any_of HT_.out (by kernel_rfl)) (fun _ _ _ h => h) (Or.inr ⟨by rfl, rfl⟩) ?_ ?_
        rotate_left
        ·simp only [Act.put, List.setIfInBounds_toArray, List.set_cons_zero, List.set_cons_succ, i64_w, i32_w]
         rfl
        refine pure_ (i := 7) (N := some 64) (v := undef) (a' := ?_) #[true, true, true, true, true, true, true, true, false, false, false, false, false, false, false, false, false, false, false, false, false, false, false, false, false, false, false, false, false, false, false] rfl rfl (any_of HT_.out (by kernel_rfl)) (fun _ _ _ h => h) (Or.inr ⟨by rfl, rfl⟩) ?_ ?_
        rotate_left
        ·simp only [Act.put, List.setIfInBounds_toArray, List.set_cons_zero, List.set_cons_succ, i64_w, i32_w]
         rfl
        refine pure_ (i := 8) (N := some 65) (v := undef) (a' := ?_) #[true, true, true, true, true, true, true, true, true, false, false, false, false, false, false, false, false, false, false, false, false, false, false, false, false, false, false, false, false, false, false] rfl rfl (any_of HT_.out (by kernel_rfl)) (fun _ _ _ h => h) (Or.inr ⟨by rfl, rfl⟩) ?_ ?_
        rotate_left
        ·simp only [Act.put, List.setIfInBounds_toArray, List.set_cons_zero, List.set_cons_succ, i64_w, i32_w]
         rfl
        refine pure_ (i := 9) (N := some 66) (v := undef) (a' := ?_) #[true, true, true, true, true, true, true, true, true, true, false, false, false, false, false, false, false, false, false, false, false, false, false, false, false, false, false, false, false, false, false] rfl rfl (any_of HT_.out (by kernel_rfl)) (fun _ _ _ h => h) (Or.inr ⟨by rfl, rfl⟩) ?_ ?_
        rotate_left
        ·simp only [Act.put, List.setIfInBounds_toArray, List.set_cons_zero, List.set_cons_succ, i64_w, i32_w]
         rfl
        refine pure_ (i := 10) (N := some 67) (v := ?_) (a' := ?_) #[true, true, true, true, true, true, true, true, true, true, true, false, false, false, false, false, false, false, false, false, false, false, false, false, false, false, false, false, false, false, false] rfl rfl (any_of HT_.out (by kernel_rfl)) (fun _ _ _ h => h) (Or.inl ⟨by rfl, ?_⟩) ?_ ?_
        rotate_left
        ·intro w'
         go_simp
         with_reducible rfl
        rotate_left
        ·simp only [Act.put, List.setIfInBounds_toArray, List.set_cons_zero, List.set_cons_succ, i64_w, i32_w]
         rfl
        refine pure_ (i := 11) (N := some 68) (v := ?_) (a' := ?_) #[true, true, true, true, true, true, true, true, true, true, true, true, false, false, false, false, false, false, false, false, false, false, false, false, false, false, false, false, false, false, false] rfl rfl (any_of HT_.out (by kernel_rfl)) (fun _ _ _ h => h) (Or.inl ⟨by rfl, ?_⟩) ?_ ?_
        rotate_left
        ·intro w'
         go_simp
         with_reducible rfl
        rotate_left
        ·simp only [Act.put, List.setIfInBounds_toArray, List.set_cons_zero, List.set_cons_succ, i64_w, i32_w]
         rfl
        refine pure_ (i := 12) (N := some 69) (v := ?_) (a' := ?_) #[true, true, true, true, true, true, true, true, true, true, true, true, true, false, false, false, false, false, false, false, false, false, false, false, false, false, false, false, false, false, false] rfl rfl (any_of HT_.out (by kernel_rfl)) (fun _ _ _ h => h) (Or.inl ⟨by rfl, ?_⟩) ?_ ?_
        rotate_left
        ·intro w'
         go_simp
         with_reducible rfl
        rotate_left
        ·simp only [Act.put, List.setIfInBounds_toArray, List.set_cons_zero, List.set_cons_succ, i64_w, i32_w]
         rfl
        refine pure_ (i := 13) (N := some 70) (v := ?_) (a' := ?_) #[true, true, true, true, true, true, true, true, true, true, true, true, true, true, false, false, false, false, false, false, false, false, false, false, false, false, false, false, false, false, false] rfl rfl (any_of HT_.out (by kernel_rfl)) (fun _ _ _ h => h) (Or.inl ⟨by rfl, ?_⟩) ?_ ?_
        rotate_left
        ·intro w'
         go_simp
         with_reducible rfl
        rotate_left
        ·simp only [Act.put, List.setIfInBounds_toArray, List.set_cons_zero, List.set_cons_succ, i64_w, i32_w]
         rfl
        refine pure_ (i := 14) (N := some 71) (v := ?_) (a' := ?_) #[true, true, true, true, true, true, true, true, true, true, true, true, true, true, true, false, false, false, false, false, false, false, false, false, false, false, false, false, false, false, false] rfl rfl (any_of HT_.out (by kernel_rfl)) (fun _ _ _ h => h) (Or.inl ⟨by rfl, ?_⟩) ?_ ?_
        rotate_left
        ·intro w'
         go_simp
         with_reducible rfl
        rotate_left
        ·simp only [Act.put, List.setIfInBounds_toArray, List.set_cons_zero, List.set_cons_succ, i64_w, i32_w]
         rfl
        refine pure_ (i := 15) (N := some 72) (v := ?_) (a' := ?_) #[true, true, true, true, true, true, true, true, true, true, true, true, true, true, true, true, false, false, false, false, false, false, false, false, false, false, false, false, false, false, false] rfl rfl (any_of HT_.out (by kernel_rfl)) (fun _ _ _ h => h) (Or.inl ⟨by rfl, ?_⟩) ?_ ?_
        rotate_left
        ·intro w'
         go_simp
         with_reducible rfl
        rotate_left
        ·simp only [Act.put, List.setIfInBounds_toArray, List.set_cons_zero, List.set_cons_succ, i64_w, i32_w]
         rfl
        refine pure_ (i := 16) (N := some 73) (v := undef) (a' := ?_) #[true, true, true, true, true, true, true, true, true, true, true, true, true, true, true, true, true, false, false, false, false, false, false, false, false, false, false, false, false, false, false] rfl rfl (any_of HT_.out (by kernel_rfl)) (fun _ _ _ h => h) (Or.inr ⟨by rfl, rfl⟩) ?_ ?_
        rotate_left
        ·simp only [Act.put, List.setIfInBounds_toArray, List.set_cons_zero, List.set_cons_succ, i64_w, i32_w]
         rfl
        refine pure_ (i := 17) (N := some 74) (v := undef) (a' := ?_) #[true, true, true, true, true, true, true, true, true, true, true, true, true, true, true, true, true, true, false, false, false, false, false, false, false, false, false, false, false, false, false] rfl rfl (any_of HT_.out (by kernel_rfl)) (fun _ _ _ h => h) (Or.inr ⟨by rfl, rfl⟩) ?_ ?_
        rotate_left
        ·simp only [Act.put, List.setIfInBounds_toArray, List.set_cons_zero, List.set_cons_succ, i64_w, i32_w]
         rfl
        refine pure_ (i := 18) (N := some 75) (v := ?_) (a' := ?_) #[true, true, true, true, true, true, true, true, true, true, true, true, true, true, true, true, true, true, true, false, false, false, false, false, false, false, false, false, false, false, false] rfl rfl (any_of HT_.out (by kernel_rfl)) (fun _ _ _ h => h) (Or.inl ⟨by rfl, ?_⟩) ?_ ?_
        rotate_left
        ·intro w'
         go_simp
         with_reducible rfl
        rotate_left
        ·simp only [Act.put, List.setIfInBounds_toArray, List.set_cons_zero, List.set_cons_succ, i64_w, i32_w]
         rfl
        refine pure_ (i := 19) (N := some 76) (v := ?_) (a' := ?_) #[true, true, true, true, true, true, true, true, true, true, true, true, true, true, true, true, true, true, true, true, false, false, false, false, false, false, false, false, false, false, false] rfl rfl (any_of HT_.out (by kernel_rfl)) (fun _ _ _ h => h) (Or.inl ⟨by rfl, ?_⟩) ?_ ?_
        rotate_left
        ·intro w'
         go_simp
         with_reducible rfl
        rotate_left
        ·simp only [Act.put, List.setIfInBounds_toArray, List.set_cons_zero, List.set_cons_succ, i64_w, i32_w]
         rfl
        refine pure_ (i := 20) (N := some 77) (v := ?_) (a' := ?_) #[true, true, true, true, true, true, true, true, true, true, true, true, true, true, true, true, true, true, true, true, true, false, false, false, false, false, false, false, false, false, false] rfl rfl (any_of HT_.out (by kernel_rfl)) (fun _ _ _ h => h) (Or.inl ⟨by rfl, ?_⟩) ?_ ?_
        rotate_left
        ·intro w'
         go_simp
         with_reducible rfl
        rotate_left
        ·simp only [Act.put, List.setIfInBounds_toArray, List.set_cons_zero, List.set_cons_succ, i64_w, i32_w]
         rfl
        refine take_ (i := 21) (N := some 78) (v := ?_) (a' := ?_) #[true, true, true, true, true, true, true, true, true, true, true, true, true, true, true, true, true, true, true, true, true, true, false, false, false, false, false, false, false, false, false] rfl rfl (take_ofW HT_.out HW_.out (by kernel_rfl)) (fun _ _ _ h => h) (Or.inl ⟨by rfl, ?_⟩) hHeld ?_ ?_
        rotate_left
        ·rintro w' s0
         refine exec_load (p := .pointer (some ⟨g11, 0, none⟩)) (v := .agg (t.map (Value.int .u8)).toArray) 84 (.tmp 11) ?_ ?_ (HLD.out w' s0)
         ·rfl
         ·rfl
        rotate_left
        ·simp only [Act.put, List.setIfInBounds_toArray, List.set_cons_zero, List.set_cons_succ, i64_w, i32_w]
         rfl
        refine pure_ (i := 22) (N := some 79) (v := ?_) (a' := ?_) #[true, true, true, true, true, true, true, true, true, true, true, true, true, true, true, true, true, true, true, true, true, true, true, false, false, false, false, false, false, false, false] rfl rfl (any_of HT_.out (by kernel_rfl)) (fun _ _ _ h => h) (Or.inl ⟨by rfl, ?_⟩) ?_ ?_
        rotate_left
        ·intro w'
         go_simp
         with_reducible rfl
        rotate_left
        ·simp only [Act.put, List.setIfInBounds_toArray, List.set_cons_zero, List.set_cons_succ, i64_w, i32_w]
         rfl
        refine pure_ (i := 23) (N := some 80) (v := ?_) (a' := ?_) #[true, true, true, true, true, true, true, true, true, true, true, true, true, true, true, true, true, true, true, true, true, true, true, true, false, false, false, false, false, false, false] rfl rfl (any_of HT_.out (by kernel_rfl)) (fun _ _ _ h => h) (Or.inl ⟨by rfl, ?_⟩) ?_ ?_
        rotate_left
        ·intro w'
         go_simp
         with_reducible rfl
        rotate_left
        ·simp only [Act.put, List.setIfInBounds_toArray, List.set_cons_zero, List.set_cons_succ, i64_w, i32_w]
         rfl
        refine pure_ (i := 24) (N := some 81) (v := ?_) (a' := ?_) #[true, true, true, true, true, true, true, true, true, true, true, true, true, true, true, true, true, true, true, true, true, true, true, true, true, false, false, false, false, false, false] rfl rfl (any_of HT_.out (by kernel_rfl)) (fun _ _ _ h => h) (Or.inl ⟨by rfl, ?_⟩) ?_ ?_
        rotate_left
        ·intro w'
         go_simp
         with_reducible rfl
        rotate_left
        ·simp only [Act.put, List.setIfInBounds_toArray, List.set_cons_zero, List.set_cons_succ, i64_w, i32_w]
         rfl
        refine pure_ (i := 25) (N := some 82) (v := ?_) (a' := ?_) #[true, true, true, true, true, true, true, true, true, true, true, true, true, true, true, true, true, true, true, true, true, true, true, true, true, true, false, false, false, false, false] rfl rfl (any_of HT_.out (by kernel_rfl)) (fun _ _ _ h => h) (Or.inl ⟨by rfl, ?_⟩) ?_ ?_
        rotate_left
        ·intro w'
         go_simp
         with_reducible rfl
        rotate_left
        ·simp only [Act.put, List.setIfInBounds_toArray, List.set_cons_zero, List.set_cons_succ, i64_w, i32_w]
         rfl
        refine pure_ (i := 26) (N := some 83) (v := ?_) (a' := ?_) #[true, true, true, true, true, true, true, true, true, true, true, true, true, true, true, true, true, true, true, true, true, true, true, true, true, true, true, false, false, false, false] rfl rfl (any_of HT_.out (by kernel_rfl)) (fun _ _ _ h => h) (Or.inl ⟨by rfl, ?_⟩) ?_ ?_
        rotate_left
        ·intro w'
         go_simp
         with_reducible rfl
        rotate_left
        ·simp only [Act.put, List.setIfInBounds_toArray, List.set_cons_zero, List.set_cons_succ, i64_w, i32_w]
         rfl
        refine pure_ (i := 27) (N := some 84) (v := ?_) (a' := ?_) #[true, true, true, true, true, true, true, true, true, true, true, true, true, true, true, true, true, true, true, true, true, true, true, true, true, true, true, true, false, false, false] rfl rfl (any_of HT_.out (by kernel_rfl)) (fun _ _ _ h => h) (Or.inl ⟨by rfl, ?_⟩) ?_ ?_
        rotate_left
        ·intro w'
         go_simp
         with_reducible rfl
        rotate_left
        ·simp only [Act.put, List.setIfInBounds_toArray, List.set_cons_zero, List.set_cons_succ, i64_w, i32_w]
         rfl
        refine one_ (i := 28) (N := some 85) #[true, true, true, true, true, true, true, true, true, true, true, true, true, true, true, true, true, true, true, true, true, true, true, true, true, true, true, true, true, false, false] rfl rfl (one_of HT_.out (by kernel_rfl)) (by decide) (fun K hK => ?_)
        refine goes_ Try.func72 (by kernel_rfl) rfl #[.int .i64 seq, .int .i64 i, .int .i64 k, .slice (some ⟨g11, 12, none⟩) ((12 + n).toNat - 12) 52] (by rfl) rfl rfl (by (try simp only [List.map_toArray, List.map_cons, List.map_nil]); first | done | rfl) ?_
        refine (HPI.out Wd K11.out).mono ?_
        rintro e We ⟨rfl, hcl, hb⟩
        have HCL := Aside0.mk hcl
        clear hcl
        refine ⟨_, rfl, ?_⟩
        replace K3 := Aside0.mk (blk_below K3.out hb)
        replace K6 := Aside0.mk (blk_below K6.out hb)
        replace K9 := Aside0.mk (blk_below K9.out hb)
        replace K11 := Aside0.mk (blk_below K11.out hb)
        replace HR := Aside0.mk (Kd.R_below HR.out hb)
        replace HB := Aside0.mk (below_step HB.out hb)
        clear hb
        have hneq : ∀ w' : World, (binOp .neq 84 (.agg (t.map (Value.int .u8)).toArray) (.agg ((pc i k (cutN t)).map (Value.int .u8)).toArray)).run Try.prog w' = .ok (.bool (t != pc i k (cutN t))) w' := fun w' => run_neq_sector t (pc i k (cutN t)) HL.out HCL.out w'
        refine hK.out _ _ K11.out (fun hHeld => ?_)
        clear hK K
        refine norm_ (a' := ?_) ?_ ?_
        rotate_left
        ·show Act.put _ (some 85) _ = _
         simp only [Act.put, List.setIfInBounds_toArray, List.set_cons_zero, List.set_cons_succ, i64_w, i32_w]
         rfl
        refine pure_ (i := 29) (N := some 86) (v := ?_) (a' := ?_) #[true, true, true, true, true, true, true, true, true, true, true, true, true, true, true, true, true, true, true, true, true, true, true, true, true, true, true, true, true, true, false] rfl rfl (any_of HT_.out (by kernel_rfl)) (fun _ _ _ h => h) (Or.inl ⟨by rfl, ?_⟩) ?_ ?_
        rotate_left
        ·intro w'
         go_simp
         with_reducible rfl
        rotate_left
        ·simp only [Act.put, List.setIfInBounds_toArray, List.set_cons_zero, List.set_cons_succ, i64_w, i32_w]
         rfl
        refine pure_ (i := 30) (N := some 87) (v := ?_) (a' := ?_) #[true, true, true, true, true, true, true, true, true, true, true, true, true, true, true, true, true, true, true, true, true, true, true, true, true, true, true, true, true, true, true] rfl rfl (any_of HT_.out (by kernel_rfl)) (fun _ _ _ h => h) (Or.inl ⟨by rfl, ?_⟩) ?_ ?_
        rotate_left
        ·intro w'
         go_simp
         with_reducible rfl
        rotate_left
        ·simp only [Act.put, List.setIfInBounds_toArray, List.set_cons_zero, List.set_cons_succ, i64_w, i32_w]
         rfl
        refine done_ (done_of HT_.out (by kernel_rfl)) ?_
        go_wp2_with fail
        go_meet
        exact ⟨rfl, HCL, K3, K6, K9, K11, HR, HB⟩
    case rest =>
      clear K3 K6 K9 K11 HR HB z0 z1 z2 y0 y1 y2
      obtain ⟨rfl, HCL, K3, K6, K9, K11, HR, HB⟩ := hcut
      have z0 : wc.cell? ⟨w.heap.size + 1, 0, none⟩ = some (.bool false) := (blk_cell K6.out 0).trans rfl
      have z1 : wc.cell? ⟨w.heap.size + 1, 1, none⟩ = some (.slice none 0 0) := (blk_cell K6.out 1).trans rfl
      have z2 : wc.cell? ⟨w.heap.size + 1, 2, none⟩ = some (.int .i64 0) := (blk_cell K6.out 2).trans rfl
      have y0 := blk_frozen K6.out 0
      have y1 := blk_frozen K6.out 1
      have y2 := blk_frozen K6.out 2
      by_cases cc : t = pc i k (cutN t)
      case neg =>
        have cb : (t != pc i k (cutN t)) = true := bne_iff_ne.2 cc
        have em := Aside0.mk (HZ.out (by unfold rrBad; rw [cb]; simp))
        rw [cb]
        go_wp2_with fail
        refine bodyPost_ret (results_cell_row rfl _ _ (w.heap.size + 1) 49 #[.bool false, .slice none 0 0, .int .i64 0] (0, 0) _ rfl (blk_put (cs := #[.bool false, .slice none 0 0, .int .i64 0]) (blk_put (cs := #[.bool false, .slice none 0 0, .int .i64 0]) (blk_put (cs := #[.bool false, .slice none 0 0, .int .i64 0]) K6.out 0 _ rfl) 1 _ rfl) 2 _ rfl) hu49 rfl (by kernel_rfl)) rfl ?_
        exact rr_zero em.out HB.out
      have cb : (t != pc i k (cutN t)) = false := bne_eq_false_iff_eq.2 cc
      rw [cb]
      clear z0 z1 z2 y0 y1 y2
      have n0 : wc.cell? ⟨g9, 0, none⟩ = some (.bool true) := (blk_cell K9.out 0).trans rfl
      obtain ⟨Av, cv_, rfl⟩ := Kd.R_slice HR.out
      have n1 : wc.cell? ⟨g9, 1, none⟩ = some (.slice Av p.length cv_) := (blk_cell K9.out 1).trans rfl
      have n2 : wc.cell? ⟨g9, 2, none⟩ = some (.int .i64 k) := (blk_cell K9.out 2).trans rfl
      have n3 := blk_frozen K9.out 1
      have CC := Aside0.mk cc
      clear cc cb
      go_wp2_with fail
      have hC0 : ∀ X : World, X.heap[g11]? = some (.cells (t.map (Value.int .u8)).toArray 84 (0, 0)) → Kd.C (Kd.int .u8) X (some ⟨g11, 12, none⟩) ((12 + n).toNat - 12) (cutN t) := fun X hX => by
        have := C_of_cells (w := X) (xs := cutN t) (by rw [HLN.out]; omega) ⟨g11, 12, none⟩ (fun j x hj => by
         have hjl : j < n.toNat := by have := (List.getElem?_eq_some_iff.1 hj).1; rw [HLN.out] at this; exact this
         unfold cutN at hj
         rw [← HN.out, List.getElem?_drop, List.getElem?_take_of_lt (by omega)] at hj
         rw [add_plain2]
         exact (blk_cell hX (12 + j)).trans (by simp [hj]))
        rw [HLN.out, show n.toNat = ((12 + n).toNat - 12) by omega] at this
        exact this
      have HC0_ := Aside0.mk hC0
      have hpl := rr_len i p HP.out
      have hil : (i : Int) < 65536 := by have := HK0.out; have := CK.out; omega
      have HPL := Aside0.mk (show (p.length + ((12 + n).toNat - 12)) * 1 ≤ 140737488355328 by omega)
      clear hC0 hpl hil
      have hw12b : IntKind.i64.wrap (12 + n) = 12 + n := by rw [i64_w]; exact hw12
      go_region_law (
        refine Kd.R_append_rows_step (Kd.int .u8) (w0 := w) (W := wc.drew) w.heap.size (by rfl) (.tmp 90) (.tmp 93) 22 5 (.int .u8 0) 1 rfl Try.underlying22 info5 rfl (by decide) (by omega) (.slice Av p.length cv_) p (cutN t) (some ⟨g11, 12, none⟩) ((12 + n).toNat - 12) 52 (fun _ => True) (fun _ => False) rfl rfl (Kd.R_drew HR.out) (HC0_.out _ (blk_drew K11.out)) (fun _ _ h => h) (fun _ h => h.elim) (fun _ _ => trivial) (below_drew1 HB.out) HB.out.size HPL.out ?_
        intro v94 w3 ho hb hg hat
        have m3 := blk_grown (blk_drew K3.out) hg (Kd.R_ne HR.out K3.out (by decide))
        have m6 := blk_grown (blk_drew K6.out) hg (Kd.R_ne HR.out K6.out (by decide))
        have m9 := blk_grown (blk_drew K9.out) hg (Kd.R_ne HR.out K9.out (by decide))
        obtain ⟨Aw, cw, ev⟩ := Kd.R_slice ho
        generalize hln_ : (p ++ cutN t).length = ln_ at ev
        have HLNn := Aside0.mk hln_
        clear hln_
        subst ev
        have M3 := Aside0.mk m3
        have M6 := Aside0.mk m6
        have M9 := Aside0.mk m9
        have HO := Aside0.mk ho
        have HBn := Aside0.mk hb
        have q1 : w3.cell? ⟨g9, 1, none⟩ = some (.slice Av p.length cv_) := (blk_cell m9 1).trans rfl
        have q2 := blk_frozen m9 1
        clear ho hb hg hat m3 m6 m9)
      all_goals
        go_wp2_with fail
        go_roundg (k.toNat - (i + 1))
        case measure => have h1 := HI.out.2; have h2 := CK.out; omega
        case rel =>
         have hg9 := L9.out
         refine ⟨i + 1, p ++ cutN t, _, by rw [show (((i + 1 : Nat) : Int)) = (i : Int) + 1 from by omega, show wrap64 ((i : Int) + 1) = (i : Int) + 1 from by have h1 := HK0.out; have h2 := CK.out; unfold wrap64; omega], ⟨by have := CK.out; omega, rfl⟩, ⟨by have := rr_more HP.out (by rw [← HT.out]; unfold rrBad; rw [← HN.out, c48', show (t != pc i k (cutN t)) = false from bne_eq_false_iff_eq.2 CC.out]; simp; exact ⟨fun h => by have := C2'.out; omega, fun h => by have := C3'.out; omega⟩); rw [← HT.out] at this; exact this⟩, ⟨?_⟩, ⟨?_⟩, ⟨blk_put M9.out 1 _ rfl⟩, ⟨Kd.R_set HO.out M9.out (by decide) 1 _⟩, ⟨below_set HBn.out (by omega)⟩⟩
         ·exact (Below.heap_setCell _ ⟨g9, 1, none⟩ _ _ (by show w.heap.size ≠ g9; omega)).trans M3.out
         ·exact (Below.heap_setCell _ ⟨g9, 1, none⟩ _ _ (by show w.heap.size + 1 ≠ g9; omega)).trans M6.out
  · have hik : k.toNat = i := by have := HI.out.1; omega
    have hm := HMR.out
    rw [hik, HP.out] at hm
    have hm' : mRR pc l0 l1 a2 at_ seq = if p.length > 30000 then (false, [], 0) else (true, p, k) := hm
    have HM := Aside0.mk hm'
    clear hm hm' hik
    obtain ⟨Av, cv_, rfl⟩ := Kd.R_slice HR.out
    have n0 : wr.cell? ⟨g9, 0, none⟩ = some (.bool true) := (blk_cell K9.out 0).trans rfl
    have n1 : wr.cell? ⟨g9, 1, none⟩ = some (.slice Av p.length cv_) := (blk_cell K9.out 1).trans rfl
    have n2 : wr.cell? ⟨g9, 2, none⟩ = some (.int .i64 k) := (blk_cell K9.out 2).trans rfl
    have z0 : wr.cell? ⟨w.heap.size + 1, 0, none⟩ = some (.bool false) := (blk_cell K6.out 0).trans rfl
    have z1 : wr.cell? ⟨w.heap.size + 1, 1, none⟩ = some (.slice none 0 0) := (blk_cell K6.out 1).trans rfl
    have z2 : wr.cell? ⟨w.heap.size + 1, 2, none⟩ = some (.int .i64 0) := (blk_cell K6.out 2).trans rfl
    have y0 := blk_frozen K6.out 0
    have y1 := blk_frozen K6.out 1
    have y2 := blk_frozen K6.out 2
    by_cases cp : p.length > 30000
    · have em := Aside0.mk (show mRR pc l0 l1 a2 at_ seq = (false, [], 0) by rw [HM.out, if_pos cp])
      have cp' : (30000 : Int) < (p.length : Int) := by omega
      clear cp
      go_wp2_with fail
      refine bodyPost_ret (results_cell_row rfl _ _ (w.heap.size + 1) 49 #[.bool false, .slice none 0 0, .int .i64 0] (0, 0) _ rfl (blk_put (cs := #[.bool false, .slice none 0 0, .int .i64 0]) (blk_put (cs := #[.bool false, .slice none 0 0, .int .i64 0]) (blk_put (cs := #[.bool false, .slice none 0 0, .int .i64 0]) K6.out 0 _ rfl) 1 _ rfl) 2 _ rfl) hu49 rfl (by kernel_rfl)) rfl ?_
      exact rr_zero em.out HB.out
    · have em := Aside0.mk (show mRR pc l0 l1 a2 at_ seq = (true, p, k) by rw [HM.out, if_neg cp])
      have cp' : ¬ (30000 : Int) < (p.length : Int) := by omega
      clear cp
      go_wp2_with fail
      have B1 := blk_put (cs' := #[.bool true, .slice none 0 0, .int .i64 0]) K6.out 0 (.bool true) rfl
      have B2 := blk_put (cs' := #[.bool true, .slice Av p.length cv_, .int .i64 0]) B1 1 (.slice Av p.length cv_) rfl
      have B3 := blk_put (cs' := #[.bool true, .slice Av p.length cv_, .int .i64 k]) B2 2 (.int .i64 k) rfl
      refine bodyPost_ret (results_cell_row rfl _ _ (w.heap.size + 1) 49 #[.bool true, .slice Av p.length cv_, .int .i64 k] (0, 0) _ rfl B3 hu49 rfl (by kernel_rfl)) rfl ?_
      rw [em.out]
      exact ⟨_, rfl, Kd.R_set (Kd.R_set (Kd.R_set HR.out K6.out (by decide) 0 _) B1 (by decide) 1 _) B2 (by decide) 2 _, below_set (below_set (below_set HB.out (Nat.le_succ _)) (Nat.le_succ _)) (Nat.le_succ _)⟩

/-! ### zL_rec: a text by hand -/
def put2 (x : Int) : List Int := [x % 256, x / 256 % 256]
theorem put_step2 (k : Nat) (x : Int) (l : List Int) (i : Int) (h0 : 0 ≤ i) (hi : i < 2) (hl : l.length < 100) (hx : 0 ≤ x) (hx2 : x < 4294967296) :
  spec_l2Put.l0 (k + 1) x 2 l i = spec_l2Put.l0 k (x / 256) 2 (l ++ [x % 256]) (i + 1) := by
 rw [spec_l2Put.l0, if_pos hi, if_pos (by omega), Int.tdiv_eq_ediv_of_nonneg hx, Int.tmod_eq_emod_of_nonneg hx]
 rw [show wrap64 (x / 256) = x / 256 from by unfold wrap64; omega, show wrap64 (i + 1) = i + 1 from by unfold wrap64; omega, show x % 256 % 256 = x % 256 from by omega]
theorem put2_ev (x : Int) (hx : 0 ≤ x) (hx2 : x < 4294967296) : Ev (fun k => spec_l2Put.f k x 2) (put2 x) := by
 refine Ev.of (fun k => spec_l2Put.mono _ _ k) (k := 3) ?_
 unfold spec_l2Put.f
 rw [put_step2 _ _ _ _ (by decide) (by decide) (by simp) hx hx2, put_step2 _ _ _ _ (by decide) (by decide) (by simp) (by omega) (by omega), spec_l2Put.l0, if_neg (by decide)]
 rfl
theorem iput_step2 (k : Nat) (xs : List Int) (p x : Int) (i n : Nat) (hi : i < 2) (hp : 0 ≤ p) (hpl : p + i < xs.length) (hxl : xs.length < 1000) (hn : (p + i).toNat = n) :
  impl_put.l0 (k + 1) xs p x 2 i = impl_put.l0 k (xs.set n (x / 2 ^ (8 * i) % 256)) p x 2 ((i + 1 : Nat) : Int) := by
 have e1 : wrap64 (8 * (i : Int)) = ((8 * i : Nat) : Int) := by unfold wrap64; omega
 have e2 : wrap64 (p + (i : Int)) = p + i := by unfold wrap64; omega
 have e3 : wrap64 ((i : Int) + 1) = ((i + 1 : Nat) : Int) := by unfold wrap64; omega
 have e4 : shr IntKind.i64 x ((8 * i : Nat) : Int) = x / 2 ^ (8 * i) := by
  show x / 2 ^ min (((8 * i : Nat) : Int)).toNat 64 = _
  rw [Int.toNat_natCast, Nat.min_eq_left (by omega)]
 rw [impl_put.l0, if_pos (by omega), e1, if_pos (by omega), e2, if_pos (by omega), if_pos (by omega), e3, e4, hn]
theorem impl_put2 (xs : List Int) (p x : Int) (n : Nat) (hp : 0 ≤ p) (hn : p.toNat = n) (hpl : p + 2 ≤ xs.length) (hxl : xs.length < 1000) :
  impl_put.f 5 xs p 2 x = some ((xs.set n (x % 256)).set (n + 1) (x / 256 % 256)) := by
 unfold impl_put.f
 rw [show (0 : Int) = ((0 : Nat) : Int) from rfl, iput_step2 4 xs p x 0 n (by decide) hp (by omega) hxl (by omega), iput_step2 3 _ p x 1 (n + 1) (by decide) hp (by simp; omega) (by simpa using hxl) (by omega), impl_put.l0, if_neg (by omega)]
 rw [show x / 2 ^ (8 * 0) = x from by simp, show x / 2 ^ (8 * 1) = x / 256 from by rw [show (2 : Int) ^ (8 * 1) = 256 from rfl]]
/-- The first 60 bytes of a sector of a record. -/
def sec0 (seq i k : Int) (part : List Int) : List Int := put4 seq ++ put2 i ++ put2 k ++ put2 part.length ++ [82, 49] ++ part ++ List.replicate (48 - part.length) 0
theorem sec0_len (seq i k : Int) (part : List Int) (h : part.length ≤ 48) : (sec0 seq i k part).length = 60 := by
 simp [sec0, put4, put2]
 omega
theorem pHead_eq (seq i k n : Int) (h0 : 0 ≤ seq) (h1 : seq < 4294967296) : pHead seq i k n = some (put4 seq ++ put2 i ++ put2 k ++ put2 n ++ List.replicate 54 0) := by
 unfold pHead
 rw [impl_put4 (List.replicate 64 0) 0 seq 0 (by decide) rfl (by simp) (by simp) h0 h1, Option.bind_some, impl_put2 _ 4 i 4 (by decide) rfl (by simp) (by simp), Option.bind_some, impl_put2 _ 6 k 6 (by decide) rfl (by simp) (by simp), Option.bind_some, impl_put2 _ 8 n 8 (by decide) rfl (by simp) (by simp)]
 rfl
theorem cPiece_eq (kc : Nat) (seq i k : Int) (part : List Int) (h0 : 0 ≤ seq) (h1 : seq < 4294967296) (hp : part.length ≤ 48) : cPiece kc seq i k part = (spec_Crc32.f kc (sec0 seq i k part)).map fun cr => sec0 seq i k part ++ put4 cr := by
 have hx : (cp12 (((put4 seq ++ put2 i ++ put2 k ++ put2 part.length ++ List.replicate 54 0).set 10 82).set 11 49) part) = sec0 seq i k part ++ [0, 0, 0, 0] := by
   have e : ((put4 seq ++ put2 i ++ put2 k ++ put2 (part.length : Int) ++ List.replicate 54 0).set 10 82).set 11 49 = (put4 seq ++ put2 i ++ put2 k ++ put2 (part.length : Int) ++ [82, 49]) ++ List.replicate 52 0 := rfl
   have e2 : (put4 seq ++ put2 i ++ put2 k ++ put2 (part.length : Int) ++ [82, 49]).length = 12 := rfl
   rw [e, cp12, List.take_left' e2, List.drop_append, e2, List.drop_eq_nil_of_le (by rw [e2]; omega), List.nil_append, Nat.add_sub_cancel_left, List.drop_replicate]
   unfold sec0
   rw [show List.replicate (52 - part.length) (0 : Int) = List.replicate (48 - part.length) 0 ++ [0, 0, 0, 0] from by rw [show ([0, 0, 0, 0] : List Int) = List.replicate 4 0 from rfl, List.replicate_append_replicate]; congr 1; omega]
   simp
 have hl := sec0_len seq i k part hp
 unfold cPiece
 rw [pHead_eq seq i k part.length h0 h1, Option.bind_some, hx, List.take_left' hl]
 cases hc : spec_Crc32.f kc (sec0 seq i k part) with
 | none => rfl
 | some cr =>
   have hb := crc_bd kc _ cr (by rw [hl]; omega) hc
   rw [Option.bind_some, impl_put4 _ 60 cr 60 (by decide) rfl (by simp [hl]) (by simp [hl]) hb.1 hb.2, Option.map_some]
   congr 1
   generalize sec0 seq i k part = s at hl
   have hs : ∀ (a b c d : Int), ((((s ++ [0, 0, 0, 0]).set 60 a).set 61 b).set 62 c).set 63 d = s ++ [a, b, c, d] := fun a b c d => by
    rw [List.set_append_right _ _ (by omega), List.set_append_right _ _ (by omega), List.set_append_right _ _ (by omega), List.set_append_right _ _ (by omega), hl]
    rfl
   exact hs _ _ _ _

/-! ### zL_rec2: a text by hand -/
/-- The sum of 60 bytes, as a function. -/
def CrcOk (cr : List Int → Int) : Prop := ∀ l : List Int, l.length = 60 → Ev (fun k => spec_Crc32.f k l) (cr l) ∧ 0 ≤ cr l ∧ cr l < 4294967296
theorem crc_total : ∃ cr : List Int → Int, CrcOk cr := by
 have h : ∀ l : List Int, ∃ c, l.length = 60 → Ev (fun k => spec_Crc32.f k l) c ∧ 0 ≤ c ∧ c < 4294967296 := fun l => by
  by_cases hl : l.length = 60
  ·obtain ⟨c, hc⟩ := crc_ev l (by omega)
   obtain ⟨k, hk⟩ := hc.rounds
   exact ⟨c, fun _ => ⟨hc, crc_bd k l c (by omega) hk⟩⟩
  ·exact ⟨0, fun h => absurd h hl⟩
 exact ⟨fun l => Classical.choose (h l), fun l hl => Classical.choose_spec (h l) hl⟩
def pcOf (cr : List Int → Int) (seq i k : Int) (part : List Int) : List Int := sec0 seq i k part ++ put4 (cr (sec0 seq i k part))
theorem zeros_evn (n : Nat) (hn : n ≤ 48) : ∀ (m i : Nat), i + m = n → Ev (fun k => spec_l1Zeros.l0 k n (List.replicate i 0) i) (List.replicate n 0)
 | 0, i, h => by
   refine Ev.step (f := fun _ => some (List.replicate n 0)) (fun K => ?_) (Ev.now _)
   rw [spec_l1Zeros.l0, if_neg (by omega), show i = n by omega]
 | m + 1, i, h => by
   refine Ev.step (fun K => ?_) (zeros_evn n hn m (i + 1) (by omega))
   rw [spec_l1Zeros.l0, if_pos (by omega), if_pos (by rw [List.length_replicate]; omega), show wrap64 ((i : Int) + 1) = ((i + 1 : Nat) : Int) from by unfold wrap64; omega, List.replicate_succ']
theorem seal_ev {cr : List Int → Int} (hc : CrcOk cr) (b : List Int) (hl : b.length = 60) : Ev (fun k => spec_l2Seal.f k b) (b ++ put4 (cr b)) := by
 obtain ⟨h1, h2, h3⟩ := hc b hl
 have hc2 := cat_evf [b, put4 (cr b)] (by simp) (by simp [put4, hl])
 rw [show [b, put4 (cr b)].flatten = b ++ put4 (cr b) from by simp] at hc2
 unfold spec_l2Seal.f
 refine Ev.bind h1 (Ev.bind ?_ (Ev.bind hc2 (Ev.now _)))
 rw [show wrap64 (cr b) = cr b from by unfold wrap64; omega]
 exact put_ev (cr b) h2 h3
/-- How many sectors a payload takes. -/
def recK (n : Nat) : Nat := if n = 0 then 1 else (n + 47) / 48
theorem recSec_ev (n : Nat) (h : n ≤ 30000) : Ev (fun k => spec_RecSectors.f k (n : Int)) (recK n : Int) := by
 unfold spec_RecSectors.f
 refine Ev.congr (fun k => by rw [if_neg (by omega), decide_eq_false (by omega)]) ?_
 refine Ev.step (f := fun _ => some ((recK n : Nat) : Int)) (fun K => ?_) (Ev.now _)
 rw [spec_RecSectors.j0, if_neg (by decide)]
 by_cases c : n = 0
 ·rw [if_pos (by omega), recK, if_pos c]; rfl
 ·rw [if_neg (by omega), recK, if_neg c]
  congr 1
  rw [show wrap64 ((n : Int) + 48) = n + 48 from by unfold wrap64; omega, show wrap64 ((n : Int) + 48 - 1) = n + 47 from by unfold wrap64; omega, Int.tdiv_eq_ediv_of_nonneg (by omega), show ((n : Int) + 47) / 48 = (((n + 47) / 48 : Nat) : Int) from by omega]
  unfold wrap64
  omega
def pieceOf (P : List Int) (i : Nat) : List Int := (P.drop (48 * i)).take 48
theorem pieceOf_len (P : List Int) (i : Nat) : (pieceOf P i).length ≤ 48 := by unfold pieceOf; rw [List.length_take]; omega
def secsOf (cr : List Int → Int) (seq : Int) (P : List Int) : List (List Int) := (List.range (recK P.length)).map fun (i : Nat) => pcOf cr seq i (recK P.length) (pieceOf P i)
theorem sectors_loop {cr : List Int → Int} (hc : CrcOk cr) (seq : Int) (h0 : 0 ≤ seq) (h1 : seq < 4294967296) (P : List Int) (hP : P.length ≤ 30000) (K : Nat) (hK : K = recK P.length) : ∀ (m i : Nat) (acc : List (List Int)), i + m = K → acc.length = i →
   Ev (fun k => spec_l2Sectors.l0 k seq P K acc i) (acc ++ (List.range' i m).map fun (j : Nat) => pcOf cr seq j K (pieceOf P j))
 | 0, i, acc, h, ha => by
   refine Ev.step (f := fun _ => some acc) (fun k => ?_) (by simpa using Ev.now acc)
   rw [spec_l2Sectors.l0, if_neg (by omega)]
 | m + 1, i, acc, h, ha => by
   have hKb : K ≤ 626 := by rw [hK, recK]; split <;> omega
   have hi48 : 48 * i ≤ P.length := by
    rw [recK] at hK
    by_cases c : P.length = 0
    ·rw [if_pos c] at hK; omega
    ·rw [if_neg c] at hK; omega
   have ih := sectors_loop hc seq h0 h1 P hP K hK m (i + 1) (acc ++ [pcOf cr seq i K (pieceOf P i)]) (by omega) (by simp [ha])
   have hpl := pieceOf_len P i
   have hj : Ev (fun k => spec_l2Sectors.j1 k seq P K acc i (pieceOf P i)) (acc ++ (List.range' i (m + 1)).map fun (j : Nat) => pcOf cr seq j K (pieceOf P j)) := by
    generalize hpq : pieceOf P i = q at hpl ih
    refine Ev.step (f := fun k => (spec_l2Put.f k seq 4).bind fun t604 => (spec_l2Put.f k (i : Int) 2).bind fun t607 => (spec_l2Put.f k (K : Int) 2).bind fun t610 => (spec_l2Put.f k (q.length : Int) 2).bind fun t613 => (spec_l2Cat.f k [t604, t607, t610, t613, [82, 49]]).bind fun t622 => (spec_l1Zeros.f k (wrap64 (48 - (q.length : Int)))).bind fun t625 => (spec_l2Cat.f k [t622, q, t625]).bind fun t631 => (spec_l2Seal.f k t631).bind fun t634 => if acc.length < 5864062014805 then spec_l2Sectors.l0 k seq P (K : Int) (acc ++ [t634]) (wrap64 ((i : Int) + 1)) else none) (fun k => by simp only [spec_l2Sectors.j1]) ?_
    have hcat := cat_evf [put4 seq, put2 i, put2 K, put2 (q.length : Int), [82, 49]] (by simp) (by simp [put4, put2])
    have hcat2 := cat_evf [[put4 seq, put2 i, put2 K, put2 (q.length : Int), [82, 49]].flatten, q, List.replicate (48 - q.length) 0] (by simp) (by simp [put4, put2]; omega)
    have hfl : [[put4 seq, put2 i, put2 K, put2 (q.length : Int), [82, 49]].flatten, q, List.replicate (48 - q.length) 0].flatten = sec0 seq i K q := by simp [sec0]
    rw [hfl] at hcat2
    have hseal := seal_ev hc (sec0 seq i K q) (sec0_len seq i K q hpl)
    have hz := zeros_evn (48 - q.length) (by omega) (48 - q.length) 0 (by omega)
    refine Ev.bind (put_ev seq h0 h1) (Ev.bind (put2_ev i (by omega) (by omega)) (Ev.bind (put2_ev K (by omega) (by omega)) (Ev.bind (put2_ev (q.length : Int) (by omega) (by omega)) (Ev.bind hcat (Ev.bind ?_ (Ev.bind hcat2 (Ev.bind hseal ?_)))))))
    ·rw [show wrap64 (48 - (q.length : Int)) = ((48 - q.length : Nat) : Int) from by unfold wrap64; omega]
     exact hz
    ·refine Ev.congr (fun k => by rw [if_pos (by omega), show wrap64 ((i : Int) + 1) = ((i + 1 : Nat) : Int) from by unfold wrap64; omega]) ?_
     rw [List.range'_succ, List.map_cons, hpq]
     rw [List.append_assoc] at ih
     exact ih
   refine Ev.step (f := fun k => spec_l2Sectors.j1 k seq P K acc i (pieceOf P i)) (fun k => ?_) hj
   rw [spec_l2Sectors.l0, if_pos (by omega), show wrap64 ((i : Int) * 48) = ((48 * i : Nat) : Int) from by unfold wrap64; omega, if_pos (by omega), if_pos (by omega), Option.bind_some, Int.toNat_natCast]
   by_cases c : ((P.drop (48 * i)).length : Int) > 48
   ·rw [if_pos c, if_pos (by omega)]; rfl
   ·rw [if_neg c, show pieceOf P i = P.drop (48 * i) from List.take_of_length_le (by omega)]
theorem sectors_ev {cr : List Int → Int} (hc : CrcOk cr) (seq : Int) (h0 : 0 ≤ seq) (h1 : seq < 4294967296) (P : List Int) (hP : P.length ≤ 30000) : Ev (fun k => spec_l2Sectors.f k seq P) (secsOf cr seq P) := by
 unfold spec_l2Sectors.f
 refine Ev.bind (recSec_ev P.length hP) ?_
 have := sectors_loop hc seq h0 h1 P hP (recK P.length) rfl (recK P.length) 0 [] (by omega) rfl
 rw [List.nil_append, ← List.range_eq_range'] at this
 exact this

/-! ### zL_rec3: a text by hand -/
theorem flat_inj : ∀ (xs ys : List (List Int)), (∀ x ∈ xs, x.length = 64) → (∀ y ∈ ys, y.length = 64) → xs.flatten = ys.flatten → xs = ys
 | [], [], _, _, _ => rfl
 | [], y :: ys, _, hy, h => by
   have := congrArg List.length h
   rw [List.flatten_cons, List.length_append, hy y (by simp), List.flatten_nil, List.length_nil] at this
   omega
 | x :: xs, [], hx, _, h => by
   have := congrArg List.length h
   rw [List.flatten_cons, List.length_append, hx x (by simp), List.flatten_nil, List.length_nil] at this
   omega
 | x :: xs, y :: ys, hx, hy, h => by
   rw [List.flatten_cons, List.flatten_cons] at h
   obtain ⟨h1, h2⟩ := List.append_inj h (by rw [hx x (by simp), hy y (by simp)])
   rw [h1, flat_inj xs ys (fun z hz => hx z (List.mem_cons_of_mem _ hz)) (fun z hz => hy z (List.mem_cons_of_mem _ hz)) h2]
theorem drop_flat : ∀ (cs : List (List Int)) (i : Nat), i ≤ cs.length → (∀ (j : Nat) c, j < i → cs[j]? = some c → c.length = 48) → cs.flatten.drop (48 * i) = (cs.drop i).flatten ∧ 48 * i ≤ cs.flatten.length
 | cs, 0, _, _ => by simp
 | [], i + 1, h, _ => by simp at h
 | c :: cs, i + 1, h, hc => by
   have h0 := hc 0 c (by omega) rfl
   obtain ⟨h1, h2⟩ := drop_flat cs i (by simpa using h) (fun j d hj hd => hc (j + 1) d (by omega) (by simpa using hd))
   rw [List.flatten_cons, List.drop_succ_cons, List.length_append, h0]
   refine ⟨?_, by omega⟩
   rw [show 48 * (i + 1) = c.length + 48 * i from by omega, List.drop_append, List.drop_eq_nil_of_le (by omega), List.nil_append, Nat.add_sub_cancel_left]
   exact h1
theorem pcOf_len (cr : List Int → Int) (seq i k : Int) (part : List Int) (h : part.length ≤ 48) : (pcOf cr seq i k part).length = 64 := by
 unfold pcOf
 rw [List.length_append, sec0_len _ _ _ _ h]
 rfl
/-- What a sector of a record tells of its piece. -/
theorem pcOf_tell (cr : List Int → Int) (seq i k : Int) (part : List Int) (h : part.length ≤ 48) : getN (pcOf cr seq i k part) 8 = part.length ∧ cutN (pcOf cr seq i k part) = part := by
 have e : pcOf cr seq i k part = [seq % 256, seq / 256 % 256, seq / 256 / 256 % 256, seq / 256 / 256 / 256 % 256, i % 256, i / 256 % 256, k % 256, k / 256 % 256, (part.length : Int) % 256, (part.length : Int) / 256 % 256, 82, 49] ++ (part ++ (List.replicate (48 - part.length) 0 ++ put4 (cr (sec0 seq i k part)))) := by
  simp [pcOf, sec0, put4, put2]
 have h1 : getN (pcOf cr seq i k part) 8 = part.length := by
  rw [e]
  show (part.length : Int) % 256 + 256 * ((part.length : Int) / 256 % 256) = _
  omega
 refine ⟨h1, ?_⟩
 unfold cutN
 rw [h1, Int.toNat_natCast, e]
 rw [List.drop_take, List.drop_left' (by rfl), Nat.add_sub_cancel_left, List.take_left]
section
variable {cr : List Int → Int} {seq : Int} {K : Nat} {S : Nat → List Int}
theorem good_of_secs (hK : 1 ≤ K) (hl : ∀ i, i < K → (S i).length = 64) (hn : ∀ i, i < K → getN (S i) 8 ≤ 48 ∧ 0 ≤ getN (S i) 8) (P : List Int) (hP : P = ((List.range K).map fun i => cutN (S i)).flatten) (h : (secsOf cr seq P).flatten = ((List.range K).map S).flatten) :
  ∀ i, i < K → rrBad (pcOf cr seq) K i (S i) = false := by
 have hx := flat_inj _ _ (fun x hx => by
   obtain ⟨i, _, rfl⟩ := List.mem_map.1 hx
   exact pcOf_len _ _ _ _ _ (pieceOf_len P i)) (fun y hy => by
   obtain ⟨i, hi, rfl⟩ := List.mem_map.1 hy
   exact hl i (List.mem_range.1 hi)) h
 have hk : recK P.length = K := by
  have := congrArg List.length hx
  simpa [secsOf] using this
 intro i hi
 have hS : S i = pcOf cr seq i K (pieceOf P i) := by
  have := congrArg (fun l => l[i]?) hx
  simp only [secsOf, hk, List.getElem?_map, List.getElem?_range hi, Option.map_some, Option.some.injEq] at this
  exact this.symm
 obtain ⟨t1, t2⟩ := pcOf_tell cr seq i K (pieceOf P i) (pieceOf_len P i)
 rw [← hS] at t1 t2
 have hpl : (pieceOf P i).length = min 48 (P.length - 48 * i) := by unfold pieceOf; rw [List.length_take, List.length_drop]
 have hk2 := hk
 unfold recK at hk2
 unfold rrBad
 rw [t2, ← hS, t1]
 have q1 : (pieceOf P i).length ≤ 48 := pieceOf_len P i
 have q2 : i < K - 1 → (pieceOf P i).length = 48 := fun hik => by
  by_cases c : P.length = 0
  ·rw [if_pos c] at hk2; omega
  ·rw [if_neg c] at hk2; omega
 have q3 : 1 < K → (pieceOf P i).length ≠ 0 := fun hik => by
  by_cases c : P.length = 0
  ·rw [if_pos c] at hk2; omega
  ·rw [if_neg c] at hk2; omega
 simp only [Bool.or_eq_false_iff, Bool.and_eq_false_iff, decide_eq_false_iff_not, bne_self_eq_false, and_true]
 refine ⟨⟨by omega, ?_⟩, ?_⟩
 ·by_cases c : i < K - 1
  ·have := q2 c; omega
  ·omega
 ·by_cases c : 1 < K
  ·have := q3 c; omega
  ·omega
theorem secs_of_good (hK : 1 ≤ K) (hl : ∀ i, i < K → (S i).length = 64) (hn : ∀ i, i < K → getN (S i) 8 ≤ 48 ∧ 0 ≤ getN (S i) 8) (P : List Int) (hP : P = ((List.range K).map fun i => cutN (S i)).flatten) (h : ∀ i, i < K → rrBad (pcOf cr seq) K i (S i) = false) :
  (secsOf cr seq P).flatten = ((List.range K).map S).flatten := by
 have hcl : ∀ i, i < K → (cutN (S i)).length = (getN (S i) 8).toNat := fun i hi => by
  unfold cutN
  rw [List.length_drop, List.length_take, hl i hi]
  have := (hn i hi).1
  omega
 have hfull : ∀ i, i < K - 1 → (cutN (S i)).length = 48 := fun i hi => by
  have h1 := h i (by omega)
  have h2 := hn i (by omega)
  rw [hcl i (by omega)]
  simp only [rrBad, Bool.or_eq_false_iff, Bool.and_eq_false_iff, decide_eq_false_iff_not] at h1
  omega
 have hd := drop_flat ((List.range K).map fun i => cutN (S i)) (K - 1) (by simp) (fun j c hj hc => by
  rw [List.getElem?_map, List.getElem?_range (by omega)] at hc
  rw [← Option.some.inj hc]
  exact hfull j hj)
 rw [← hP] at hd
 have hlast : P.length = 48 * (K - 1) + (cutN (S (K - 1))).length := by
  have h1 := congrArg List.length hd.1
  rw [List.length_drop, ← List.map_drop, show (List.range K).drop (K - 1) = [K - 1] from by
    rw [List.range_eq_range', List.drop_range', show K - (K - 1) = 1 by omega]; simp] at h1
  simp at h1
  have := hd.2
  omega
 have hlb := hcl (K - 1) (by omega)
 have hnb := hn (K - 1) (by omega)
 have hbl := h (K - 1) (by omega)
 have hk : recK P.length = K := by
  unfold recK
  simp only [rrBad, Bool.or_eq_false_iff, Bool.and_eq_false_iff, decide_eq_false_iff_not] at hbl
  by_cases c : P.length = 0
  · rw [if_pos c]; omega
  · rw [if_neg c]; omega
 have hp : ∀ i, i < K → pieceOf P i = cutN (S i) := fun i hi => by
  have hd := drop_flat ((List.range K).map fun i => cutN (S i)) i (by simp; omega) (fun j c hj hc => by
    rw [List.getElem?_map, List.getElem?_range (by omega)] at hc
    rw [← Option.some.inj hc]
    exact hfull j (by omega))
  rw [← hP] at hd
  unfold pieceOf
  rw [hd.1, ← List.map_drop, List.range_eq_range', List.drop_range', show K - i = (K - i - 1) + 1 by omega, List.range'_succ, List.map_cons, List.flatten_cons]
  simp only [Nat.zero_add, Nat.mul_one, Nat.one_mul]
  have hle : (cutN (S i)).length ≤ 48 := by rw [hcl i hi]; have := (hn i hi).1; omega
  by_cases c : i < K - 1
  · rw [List.take_left' (hfull i c)]
  · rw [show K - i - 1 = 0 by omega]
    simp only [List.range'_zero, List.map_nil, List.flatten_nil, List.append_nil]
    exact List.take_of_length_le hle
 unfold secsOf
 rw [hk]
 congr 1
 refine List.map_congr_left (fun i hi => ?_)
 have hi := List.mem_range.1 hi
 have h1 := h i hi
 simp only [rrBad, Bool.or_eq_false_iff, bne_eq_false_iff_eq] at h1
 rw [hp i hi]
 exact h1.2.symm
end

/-! ### zL_rec4: a text by hand -/
def sLoop (cr : List Int → Int) (S : Nat → List Int) (seq : Int) (K : Nat) : Nat → Nat → List Int → List Int → Bool × List Int × Int
 | 0, _, P, R => if P.length > 30000 then (false, [], 0) else if (secsOf cr seq P).flatten = R then (true, P, (K : Int)) else (false, [], 0)
 | m + 1, i, P, R => if getN (S i) 8 > 48 then (false, [], 0) else sLoop cr S seq K m (i + 1) (P ++ cutN (S i)) (R ++ S i)
theorem specNum_eq (x : Int) : spec_l2Number.f x = some (gN x) := by
 unfold spec_l2Number.f gN
 by_cases h1 : 1 ≤ x
 ·rw [if_pos (by omega), decide_eq_true h1, Bool.true_and]
 ·rw [if_neg (by omega), decide_eq_false h1, Bool.false_and]
theorem drop_two (t : List Int) (p : Nat) (hp : p + 2 ≤ t.length) : (t.take (p + 2)).drop p = [rd t p, rd t (p + 1)] := by
 have e1 : rd t (p : Int) = t[p] := rd_nat t p (by omega)
 have e2 : rd t ((p : Int) + 1) = t[p + 1] := rd_nat t (p + 1) (by omega)
 rw [e1, e2]
 refine List.ext_getElem (by simp; omega) (fun i h1 h2 => ?_)
 have hi : i < 2 := by simpa using h2
 rw [List.getElem_drop, List.getElem_take]
 match i, hi with
 | 0, _ => rfl
 | 1, _ => rfl
theorem get2_ev (t : List Int) (hb : byteL t) (hl : t.length = 64) (p : Nat) (hp : p + 2 ≤ 64) : Ev (fun k => spec_l2Get.f k ((t.take (p + 2)).drop p)) (getN t p) := by
 rw [drop_two t p (by omega)]
 have b0 : 0 ≤ rd t (p : Int) ∧ rd t (p : Int) < 256 := by rw [rd_nat t p (by omega)]; exact hb _ (List.getElem_mem _)
 have b1 : 0 ≤ rd t ((p : Int) + 1) ∧ rd t ((p : Int) + 1) < 256 := by rw [show ((p : Int) + 1) = ((p + 1 : Nat) : Int) by omega, rd_nat t (p + 1) (by omega)]; exact hb _ (List.getElem_mem _)
 unfold getN
 generalize rd t (p : Int) = x0 at *
 generalize rd t ((p : Int) + 1) = x1 at *
 refine Ev.of (fun k => spec_l2Get.mono _ k) (k := 3) ?_
 unfold spec_l2Get.f
 rw [show wrap64 ((([x0, x1] : List Int).length : Int) - 1) = ((1 : Nat) : Int) by simp [wrap64]]
 rw [sget_step 2 _ 0 x1 1 (by simp) (by simp) rfl (by omega) (by omega) b1.1 b1.2, show ((1 : Nat) : Int) - 1 = ((0 : Nat) : Int) by omega, sget_step 1 _ _ x0 0 (by simp) (by simp) rfl (by omega) (by omega) b0.1 b0.2, show ((0 : Nat) : Int) - 1 = -1 by omega, sget_end]
 congr 1
 omega
theorem byteL_app {a b : List Int} (ha : byteL a) (hb : byteL b) : byteL (a ++ b) := fun y hy => (List.mem_append.1 hy).elim (ha y) (hb y)
theorem byteL_cut {t : List Int} (h : byteL t) : byteL (cutN t) := fun y hy => h y (List.mem_of_mem_take (List.mem_of_mem_drop hy))
theorem put4_bytes (x : Int) : byteL (put4 x) := fun y hy => by
 simp only [put4, List.mem_cons, List.mem_nil_iff, or_false] at hy
 rcases hy with rfl | rfl | rfl | rfl <;> omega
theorem put2_bytes (x : Int) : byteL (put2 x) := fun y hy => by
 simp only [put2, List.mem_cons, List.mem_nil_iff, or_false] at hy
 rcases hy with rfl | rfl <;> omega
theorem secs_bytes (cr : List Int → Int) (seq : Int) (P : List Int) (h : byteL P) : byteL (secsOf cr seq P).flatten := by
 intro y hy
 obtain ⟨l, hl, hy⟩ := List.mem_flatten.1 hy
 obtain ⟨i, _, rfl⟩ := List.mem_map.1 hl
 have hp : byteL (pieceOf P i) := fun z hz => h z (List.mem_of_mem_drop (List.mem_of_mem_take hz))
 have hz : byteL (List.replicate (48 - (pieceOf P i).length) (0 : Int)) := fun z hz => by rw [(List.mem_replicate.1 hz).2]; omega
 have hr : byteL ([82, 49] : List Int) := fun z hz => by
  simp only [List.mem_cons, List.mem_nil_iff, or_false] at hz
  rcases hz with rfl | rfl <;> omega
 exact byteL_app (byteL_app (byteL_app (byteL_app (byteL_app (byteL_app (byteL_app (put4_bytes _) (put2_bytes _)) (put2_bytes _)) (put2_bytes _)) hr) hp) hz) (put4_bytes _) y hy
theorem specRR_loop {cr : List Int → Int} (hc : CrcOk cr) (l0 : List Int) (l1 : List S79) (a2 : Int) (a3 : Bool) (at_ seq : Int) (hok : RsOk l0 l1) (hv : vD l0 l1 a2 = true) (hs : 1 ≤ seq ∧ seq ≤ 2000000000) (K : Nat) (ha : 0 ≤ at_) (hK : at_ + K ≤ ((l0.length / 64 : Nat) : Int)) :
   ∀ (m i : Nat) (P R : List Int), i + m = K → P.length ≤ 48 * i → R.length = 64 * i → byteL P → byteL R → Ev (fun k => spec_ReadRec.l0 k at_ seq K P R i l0 l1 a2 a3) (sLoop cr (fun j => dRd l0 l1 (at_ + j)) seq K m i P R)
 | 0, i, P, R, h, hp, hr, bp, br => by
   have hst : ∀ k, spec_ReadRec.l0 (k + 1) at_ seq K P R i l0 l1 a2 a3 = if (P.length : Int) > 30000 then (some (false, ([] : List Int), 0)) else ((spec_l2Sectors.f k seq P).bind fun t681 => ((spec_l2Cat.f k t681).bind fun t684 => (if (strOfNums t684).toList = (strOfNums R).toList then (some (true, P, (K : Int))) else (some (false, ([] : List Int), 0))))) := fun k => by
    rw [spec_ReadRec.l0, if_neg (by omega)]
   refine Ev.step hst ?_
   unfold sLoop
   by_cases c : P.length > 30000
   ·rw [if_pos c]
    exact Ev.congr (fun k => if_pos (by omega)) (Ev.now _)
   ·rw [if_neg c]
    refine Ev.congr (fun k => if_neg (by omega)) ?_
    have hcat := cat_evf (secsOf cr seq P) (by unfold secsOf recK; rw [List.length_map, List.length_range]; split <;> omega) (fun x hx => by
     obtain ⟨i, _, rfl⟩ := List.mem_map.1 hx
     rw [pcOf_len _ _ _ _ _ (pieceOf_len P i)]
     omega)
    refine Ev.bind (sectors_ev hc seq (by omega) (by omega) P (by omega)) (Ev.bind hcat ?_)
    by_cases e : (secsOf cr seq P).flatten = R
    ·rw [if_pos e]
     exact Ev.congr (fun k => if_pos (by rw [e])) (Ev.now _)
    ·rw [if_neg e]
     exact Ev.congr (fun k => if_neg (fun hh => e (str_inj _ _ (secs_bytes cr seq P bp) br hh))) (Ev.now _)
 | m + 1, i, P, R, h, hp, hr, bp, br => by
   obtain ⟨f1, f2, f3, f4, f5, f6, f7⟩ := vD_facts hv
   have hin : inD l0 (at_ + i) = true := by
    unfold inD
    simp
    omega
   have hR := specRead_ev l0 l1 a2 a3 (at_ + i) hok.1 hok.2.1.1
   rw [if_pos (by rw [hv, hin]; rfl)] at hR
   have hl : (dRd l0 l1 (at_ + i)).length = 64 := dRd_len l0 l1 _ (by omega) (by omega) f3 (fun x hx => (f7 x hx).2.2)
   have hb : byteL (dRd l0 l1 (at_ + i)) := dRd_bytes l0 l1 _ hok.2.2.1 hok.2.2.2
   have ih := specRR_loop hc l0 l1 a2 a3 at_ seq hok hv hs K ha hK m (i + 1) (P ++ cutN (dRd l0 l1 (at_ + i))) (R ++ dRd l0 l1 (at_ + i)) (by omega)
   unfold sLoop
   generalize dRd l0 l1 (at_ + i) = t at hR hl hb ih
   have hg := get2_ev t hb hl 8 (by omega)
   have hn := (iget2 t hb hl 8 (by omega)).2
   have hst : ∀ k, spec_ReadRec.l0 (k + 1) at_ seq K P R i l0 l1 a2 a3 = ((spec_DiskRead.f k l0 l1 a2 a3 (wrap64 (at_ + (i : Int)))).bind fun t661 => (if 8 ≤ 10 then (if 10 ≤ (t661.length : Int) then ((spec_l2Get.f k ((t661.take 10).drop 8)).bind fun t669 => (if t669 > 48 then (some (false, ([] : List Int), 0)) else (if 12 ≤ (wrap64 (12 + t669)) then (if (wrap64 (12 + t669)) ≤ (t661.length : Int) then ((some ((t661.take ((wrap64 (12 + t669)) : Int).toNat).drop 12 : List Int)).bind fun y670 => (if P.length + y670.length < 140737488355328 then (if R.length + t661.length < 140737488355328 then (spec_ReadRec.l0 k at_ seq K (P ++ y670) (R ++ t661) (wrap64 ((i : Int) + 1)) l0 l1 a2 a3) else (none)) else (none))) else (none)) else (none)))) else (none)) else (none))) := fun k => by
    rw [spec_ReadRec.l0, if_pos (by omega)]
   refine Ev.step hst ?_
   refine Ev.congr (fun k => by rw [show wrap64 (at_ + (i : Int)) = at_ + i from by unfold wrap64; omega]) ?_
   refine Ev.bind hR ?_
   refine Ev.congr (fun k => by rw [if_pos (by decide), if_pos (by omega)]) ?_
   refine Ev.bind hg ?_
   have hcl := cutN_len t
   by_cases c : getN t 8 > 48
   ·rw [if_pos c]
    exact Ev.congr (fun k => if_pos c) (Ev.now _)
   ·rw [if_neg c]
    refine Ev.congr (fun k => by rw [if_neg c, show wrap64 (12 + getN t 8) = 12 + getN t 8 from by unfold wrap64; omega, if_pos (by omega), if_pos (by omega), Option.bind_some, show (12 + getN t 8).toNat = 12 + (getN t 8).toNat by omega]) ?_
    change Ev (fun k => if P.length + (cutN t).length < 140737488355328 then (if R.length + t.length < 140737488355328 then (spec_ReadRec.l0 k at_ seq K (P ++ cutN t) (R ++ t) (wrap64 ((i : Int) + 1)) l0 l1 a2 a3) else none) else none) _
    have h48 : 48 * i ≤ 48 * 65536 := by have := hok.1; omega
    refine Ev.congr (fun k => by rw [if_pos (by omega), if_pos (by omega), show wrap64 ((i : Int) + 1) = ((i + 1 : Nat) : Int) from by unfold wrap64; omega]) ?_
    exact ih (by rw [List.length_append]; omega) (by rw [List.length_append]; omega) (byteL_app bp (byteL_cut hb)) (byteL_app br hb)
end Go.Proofs.Yteddpdonmhiplaa.PR
