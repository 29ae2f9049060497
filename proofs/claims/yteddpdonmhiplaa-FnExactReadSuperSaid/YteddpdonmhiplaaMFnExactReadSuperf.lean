-- Made by this session's programs out of the translation and of its own texts.
import Derived.Test.YteddpdonmhiplaaMFnExactReadSupere
namespace Go.Proofs.Yteddpdonmhiplaa.PR
open Go.RowKit Go.Proofs.YteddpdonmhiplaaW.PrintWords Go.Proofs.YteddpdonmhiplaaW.PrintLast Go.Proofs.YteddpdonmhiplaaW.PrintMore
attribute [local go_sem] max2_int min2_int max_two min_two max_three min_three max_four min_four   -- for this text's walks alone
set_option linter.unusedVariables false
set_option linter.unusedSimpArgs false

/-! ### impl_ReadSuperCalls: its contract, by hand -/
-- needs impl_ReadSuper.f RsOk
def impl_ReadSuper.gT3 : Bool × List (List Nat × List Nat) := (true, [([], []), ([0], [0]), ([], []), ([2, 1], [2]), ([], []), ([], []), ([4, 1, 3, 0, 1, 4, 5], [1, 4]), ([5, 3, 6, 0, 1, 2, 3, 4, 5, 6], [3, 5])])
def impl_ReadSuper.gB3 : List Nat := [0, 1, 0, 7, 0, 0, 63, 127]
theorem impl_ReadSuper.gtab3 : rtab .any (opsOf Try.f22 3) = impl_ReadSuper.gT3 := by kernel_rfl
theorem impl_ReadSuper.gbits3 : waitsOk impl_ReadSuper.gT3.2 impl_ReadSuper.gB3 = true := by kernel_rfl
set_option maxHeartbeats 8000000 in
set_option maxRecDepth 100000 in
theorem impl_ReadSuper.calls (k : Nat) (A0_0 : Option Addr) (c0_0 : Nat) (l0_0 : List Int) (A0_1 : Option Addr) (c0_1 : Nat) (l0_1 : List (S79)) (a0_2 : Int) (a0_3 : Bool) (r1 : Bool) (r2 : Int) (r3 : Int) (r4 : Int) (w : World) (hr0_0 : Kd.C (Kd.int .u8) w A0_0 l0_0.length l0_0) (hc0_0 : l0_0.length ≤ c0_0) (hr0_1 : Kd.C k79 w A0_1 l0_1.length l0_1) (hc0_1 : l0_1.length ≤ c0_1) (h : impl_ReadSuper.f k l0_0 l0_1 a0_2 a0_3 = some (r1, r2, r3, r4)) (hby : RsOk l0_0 l0_1) :
    Calls Try.prog 22 #[.agg #[.slice A0_0 l0_0.length c0_0, .slice A0_1 l0_1.length c0_1, .int .i64 a0_2, .bool a0_3]] w fun e w' => e = .returned (.agg #[.bool r1, .int .i64 r2, .int .i64 r3, .int .i64 r4]) ∧ Below w.heap.size w w' := by
  have HBY := Aside0.mk hby
  clear hby
  have hu25 := Try.underlying25
  have hu42 := Try.underlying42
  have HR0_0 := Aside0.mk hr0_0
  have HC0_0 := Aside0.mk hc0_0
  clear hr0_0 hc0_0
  have HR0_1 := Aside0.mk hr0_1
  have HC0_1 := Aside0.mk hc0_1
  clear hr0_1 hc0_1
  have HB := Aside0.mk (Below.refl w.heap.size w)
  have H : ((impl_ValidDisk.f k l0_0 l0_1 a0_2 a0_3).bind fun t288 => (if t288 = true then ((spec_l2SuperAt.f k l0_0 l0_1 a0_2 a0_3 0).bind fun bt289 => ((spec_l2SuperAt.f k l0_0 l0_1 a0_2 a0_3 1).bind fun bt293 => (if bt293.1 = true then (if bt289.1 = true then (if bt293.2.1 > bt289.2.1 then (some (bt293.1, bt293.2.1, bt293.2.2.1, bt293.2.2.2)) else (some (bt289.1, bt289.2.1, bt289.2.2.1, bt289.2.2.2))) else (some (bt293.1, bt293.2.1, bt293.2.2.1, bt293.2.2.2))) else (some (bt289.1, bt289.2.1, bt289.2.2.1, bt289.2.2.2))))) else (some (false, 0, 0, 0)))) = some (r1, r2, r3, r4) := h
  clear h
  replace H := Option.bind_eq_some_iff.mp H
  obtain ⟨t288, A20, H⟩ := H
  replace H : (if t288 = true then ((spec_l2SuperAt.f k l0_0 l0_1 a0_2 a0_3 0).bind fun bt289 => ((spec_l2SuperAt.f k l0_0 l0_1 a0_2 a0_3 1).bind fun bt293 => (if bt293.1 = true then (if bt289.1 = true then (if bt293.2.1 > bt289.2.1 then (some (bt293.1, bt293.2.1, bt293.2.2.1, bt293.2.2.2)) else (some (bt289.1, bt289.2.1, bt289.2.2.1, bt289.2.2.2))) else (some (bt293.1, bt293.2.1, bt293.2.2.1, bt293.2.2.2))) else (some (bt289.1, bt289.2.1, bt289.2.2.1, bt289.2.2.2))))) else (some (false, 0, 0, 0))) = some (r1, r2, r3, r4) := H
  have A2 := Aside0.mk A20
  clear A20
  by_cases c3 : t288 = true
  · subst c3
    have H1 : ((spec_l2SuperAt.f k l0_0 l0_1 a0_2 a0_3 0).bind fun bt289 => ((spec_l2SuperAt.f k l0_0 l0_1 a0_2 a0_3 1).bind fun bt293 => (if bt293.1 = true then (if bt289.1 = true then (if bt293.2.1 > bt289.2.1 then (some (bt293.1, bt293.2.1, bt293.2.2.1, bt293.2.2.2)) else (some (bt289.1, bt289.2.1, bt289.2.2.1, bt289.2.2.2))) else (some (bt293.1, bt293.2.1, bt293.2.2.1, bt293.2.2.2))) else (some (bt289.1, bt289.2.1, bt289.2.2.1, bt289.2.2.2))))) = some (r1, r2, r3, r4) := by rw [if_pos rfl] at H; exact H
    clear H
    have H := H1
    clear H1
    replace H := Option.bind_eq_some_iff.mp H
    obtain ⟨⟨t289, t290, t291, t292⟩, A40, H⟩ := H
    replace H : ((spec_l2SuperAt.f k l0_0 l0_1 a0_2 a0_3 1).bind fun bt293 => (if bt293.1 = true then (if t289 = true then (if bt293.2.1 > t290 then (some (bt293.1, bt293.2.1, bt293.2.2.1, bt293.2.2.2)) else (some (t289, t290, t291, t292))) else (some (bt293.1, bt293.2.1, bt293.2.2.1, bt293.2.2.2))) else (some (t289, t290, t291, t292)))) = some (r1, r2, r3, r4) := H
    have A4 := Aside0.mk A40
    clear A40
    replace H := Option.bind_eq_some_iff.mp H
    obtain ⟨⟨t293, t294, t295, t296⟩, A50, H⟩ := H
    replace H : (if t293 = true then (if t289 = true then (if t294 > t290 then (some (t293, t294, t295, t296)) else (some (t289, t290, t291, t292))) else (some (t293, t294, t295, t296))) else (some (t289, t290, t291, t292))) = some (r1, r2, r3, r4) := H
    have A5 := Aside0.mk A50
    clear A50
    go_enter Try.func22, Try.ntmps22
    try go_wp2_with (first | ((with_reducible refine gate_dst (N := 1) rfl ?_); refine box_event ?hg (N := 1) ?hd (cs := #[.slice A0_0 l0_0.length c0_0, .slice A0_1 l0_1.length c0_1, .int .i64 a0_2, .bool a0_3]) (t := 25) ?hr ?_; (case hd => rfl); (case hg => rfl); (case hr => first | (go_simp; done) | (go_simp; rfl)); intro gb286 hg w9 hbox hb; have n0_ := Aside0.mk (below_step (by repeat (first | (with_reducible first | exact HB.out | apply below_alloc | apply pw_below_drewN | apply below_drew1) | exact HB.out)) hb); have n1_ := Aside0.mk (hbox); have n2_ := Aside0.mk ((by rw [hg]; exact (below_size (by repeat (first | (with_reducible first | exact HB.out | apply below_alloc | apply pw_below_drewN | apply below_drew1) | exact HB.out))) : w.heap.size ≤ gb286)); have n3_ := Aside0.mk ((by rw [hg]; exact (below_size (by repeat (first | (with_reducible first | exact HB.out | apply below_alloc | apply pw_below_drewN | apply below_drew1) | exact HB.out))) : w.heap.size ≤ gb286)); clear HB; have HB := n0_; have BK286 := n1_; have GW286 := n2_; have GE286 := n3_; clear n0_ n1_ n2_ n3_; clear hb hbox hg) | ((with_reducible refine gate_dst (N := 2) rfl ?_); refine box_event ?hg (N := 2) ?hd (cs := #[.bool false, .int .i64 0, .int .i64 0, .int .i64 0]) (t := 42) ?hr ?_; (case hd => rfl); (case hg => rfl); (case hr => first | (go_simp; done) | (go_simp; rfl)); intro gb287 hg w10 hbox hb; have n0_ := Aside0.mk (blk_below (g := gb286) (o := .cells #[.slice A0_0 l0_0.length c0_0, .slice A0_1 l0_1.length c0_1, .int .i64 a0_2, .bool a0_3] 25 (0, 0)) BK286.out hb); have n1_ := Aside0.mk (below_step (by repeat (first | (with_reducible first | exact HB.out | apply below_alloc | apply pw_below_drewN | apply below_drew1 | refine below_set ?_ GE286.out) | exact HB.out)) hb); have n2_ := Aside0.mk (hbox); have n3_ := Aside0.mk ((by rw [hg]; exact (below_size (by repeat (first | (with_reducible first | exact HB.out | apply below_alloc | apply pw_below_drewN | apply below_drew1 | refine below_set ?_ GE286.out) | exact HB.out))) : w.heap.size ≤ gb287)); have n4_ := Aside0.mk ((by rw [hg]; exact (below_size (by repeat (first | (with_reducible first | exact HB.out | apply below_alloc | apply pw_below_drewN | apply below_drew1 | refine below_set ?_ GE286.out) | exact HB.out))) : w.heap.size ≤ gb287)); have n5_ := Aside0.mk ((by rw [hg]; exact Nat.ne_of_lt (blk_lt (g := gb286) (o := .cells #[.slice A0_0 l0_0.length c0_0, .slice A0_1 l0_1.length c0_1, .int .i64 a0_2, .bool a0_3] 25 (0, 0)) BK286.out) : gb286 ≠ gb287)); have n6_ := Aside0.mk ((by rw [hg]; exact Nat.ne_of_gt (blk_lt (g := gb286) (o := .cells #[.slice A0_0 l0_0.length c0_0, .slice A0_1 l0_1.length c0_1, .int .i64 a0_2, .bool a0_3] 25 (0, 0)) BK286.out) : gb287 ≠ gb286)); clear BK286; clear HB; have BK286 := n0_; have HB := n1_; have BK287 := n2_; have GW287 := n3_; have GE287 := n4_; have NB286_287 := n5_; have NB287_286 := n6_; clear n0_ n1_ n2_ n3_ n4_ n5_ n6_; clear hb hbox hg; have hnb0 := NB286_287.out; have hnc1 := NB287_286.out; have hcz2_0 : w10.cell? ⟨gb286, 0, none⟩ = some (.slice A0_0 l0_0.length c0_0) := (blk_cell BK286.out 0).trans rfl; have hcz2_1 : w10.cell? ⟨gb286, 1, none⟩ = some (.slice A0_1 l0_1.length c0_1) := (blk_cell BK286.out 1).trans rfl; have hcz2_2 : w10.cell? ⟨gb286, 2, none⟩ = some (.int .i64 a0_2) := (blk_cell BK286.out 2).trans rfl; have hcz2_3 : w10.cell? ⟨gb286, 3, none⟩ = some (.bool a0_3) := (blk_cell BK286.out 3).trans rfl; have hfz3_0 := blk_frozen BK286.out 0; have hfz3_1 := blk_frozen BK286.out 1; have hfz3_2 := blk_frozen BK286.out 2; have hfz3_3 := blk_frozen BK286.out 3) | ((with_reducible refine gate_callee (f := 13) rfl ?_); refine goesL_ (some 6) rfl rfl Try.func13 (by kernel_rfl) rfl #[.agg #[.slice A0_0 l0_0.length c0_0, .slice A0_1 l0_1.length c0_1, .int .i64 a0_2, .bool a0_3]] rfl (by (try simp only [List.map_toArray, List.map_cons, List.map_nil]); first | done | rfl | (simp only [List.length_drop, List.length_take]; rfl)) ?_; (with_reducible refine (impl_ValidDisk.calls k _ _ l0_0 _ _ l0_1 a0_2 a0_3 true _ ?side1 ?side2 ?side3 ?side4 A2.out).mono ?_); (case side1 => repeat (first | exact (Kd.C_below HR0_0.out HB.out) | (with_reducible refine Kd.C_alloc ?_ _) | (with_reducible refine Kd.C_drewN ?_ _) | (with_reducible refine Kd.C_drew ?_))); (case side2 => exact HC0_0.out); (case side3 => repeat (first | exact (Kd.C_below HR0_1.out HB.out) | (with_reducible refine Kd.C_alloc ?_ _) | (with_reducible refine Kd.C_drewN ?_ _) | (with_reducible refine Kd.C_drew ?_))); (case side4 => exact HC0_1.out); rintro e w13 ⟨rfl, hb⟩; refine ⟨_, rfl, ?_⟩; have n0_ := Aside0.mk (blk_below (g := gb286) (o := .cells #[.slice A0_0 l0_0.length c0_0, .slice A0_1 l0_1.length c0_1, .int .i64 a0_2, .bool a0_3] 25 (0, 0)) BK286.out hb); have n1_ := Aside0.mk (blk_below (g := gb287) (o := .cells #[.bool false, .int .i64 0, .int .i64 0, .int .i64 0] 42 (0, 0)) BK287.out hb); have n2_ := Aside0.mk (below_step (by repeat (first | (with_reducible first | exact HB.out | apply below_alloc | apply pw_below_drewN | apply below_drew1 | refine below_set ?_ GE286.out | refine below_set ?_ GE287.out) | exact HB.out)) hb); clear BK286; clear BK287; clear HB; have BK286 := n0_; have BK287 := n1_; have HB := n2_; clear n0_ n1_ n2_; (try clear hb); (try clear hb2); (try clear hk); (try clear hi)))
    have n0_ := Aside0.mk (blk_drew BK286.out)
    have n1_ := Aside0.mk (blk_drew BK287.out)
    have n2_ := Aside0.mk (below_drew1 HB.out)
    clear BK286
    clear BK287
    clear HB
    have BK286 := n0_
    have BK287 := n1_
    have HB := n2_
    clear n0_ n1_ n2_
    refine start_ (n := 8) (S := fun w' => w'.cell? ⟨gb286, 0, none⟩ = some (.slice A0_0 l0_0.length c0_0) ∧ w'.cell? ⟨gb286, 1, none⟩ = some (.slice A0_1 l0_1.length c0_1) ∧ w'.cell? ⟨gb286, 2, none⟩ = some (.int .i64 a0_2) ∧ w'.cell? ⟨gb286, 3, none⟩ = some (.bool a0_3)) (ds := []) #[false, false, false, false, false, false, false, false] (by kernel_rfl) rfl rfl ⟨(blk_cell BK286.out 0).trans rfl, (blk_cell BK286.out 1).trans rfl, (blk_cell BK286.out 2).trans rfl, (blk_cell BK286.out 3).trans rfl⟩ (fun hHeld => ?_); refine with_tabW impl_ReadSuper.gtab3 impl_ReadSuper.gbits3 (fun HT_ HW_ => ?_)
    generalize w13.drew = w14 at BK286 BK287 HB hHeld ⊢
    refine take_ (i := 0) (N := some 9) (v := ?_) (a' := ?_) #[true, false, false, false, false, false, false, false] rfl rfl (take_ofW HT_.out HW_.out (by kernel_rfl)) (fun _ _ _ h => h) (Or.inl ⟨by rfl, ?_⟩) hHeld ?_ ?_
    rotate_left
    · rintro w' ⟨s0, s1, s2, s3⟩
      go_simp
      with_reducible rfl
    rotate_left
    · simp only [Act.put, List.setIfInBounds_toArray, List.set_cons_zero, List.set_cons_succ, i64_w, i32_w]
      rfl
    refine take_ (i := 2) (N := some 11) (v := ?_) (a' := ?_) #[true, false, true, false, false, false, false, false] rfl rfl (take_ofW HT_.out HW_.out (by kernel_rfl)) (fun _ _ _ h => h) (Or.inl ⟨by rfl, ?_⟩) hHeld ?_ ?_
    rotate_left
    · rintro w' ⟨s0, s1, s2, s3⟩
      go_simp
      with_reducible rfl
    rotate_left
    · simp only [Act.put, List.setIfInBounds_toArray, List.set_cons_zero, List.set_cons_succ, i64_w, i32_w]
      rfl
    refine join_ (σ := Nat × Nat) 2 #[true, true, true, true, true, true, false, false] (fun s_ => [(10, .agg #[.bool t289, .int .i64 t290, .int .i64 t291, .int .i64 t292]), (12, .agg #[.bool t293, .int .i64 t294, .int .i64 t295, .int .i64 t296]), (3, .pointer (some ⟨s_.1, 0, none⟩)), (4, .pointer (some ⟨s_.2, 0, none⟩))]) (fun s_ w' => (w'.cell? ⟨gb286, 0, none⟩ = some (.slice A0_0 l0_0.length c0_0) ∧ w'.cell? ⟨gb286, 1, none⟩ = some (.slice A0_1 l0_1.length c0_1) ∧ w'.cell? ⟨gb286, 2, none⟩ = some (.int .i64 a0_2) ∧ w'.cell? ⟨gb286, 3, none⟩ = some (.bool a0_3)) ∧ (w'.heap[gb286]? = some (.cells #[.slice A0_0 l0_0.length c0_0, .slice A0_1 l0_1.length c0_1, .int .i64 a0_2, .bool a0_3] 25 (0, 0))) ∧ (w'.heap[gb287]? = some (.cells #[.bool false, .int .i64 0, .int .i64 0, .int .i64 0] 42 (0, 0))) ∧ (w'.heap[s_.1]? = some (.cells #[.bool false, .int .i64 0, .int .i64 0, .int .i64 0] 42 (0, 0))) ∧ (w'.heap[s_.2]? = some (.cells #[.bool false, .int .i64 0, .int .i64 0, .int .i64 0] 42 (0, 0))) ∧ (w.heap.size ≤ s_.1) ∧ (w.heap.size ≤ s_.1) ∧ (gb286 ≠ s_.1) ∧ (s_.1 ≠ gb286) ∧ (gb287 ≠ s_.1) ∧ (s_.1 ≠ gb287) ∧ (s_.2 ≠ s_.1) ∧ (s_.1 ≠ s_.2) ∧ (w.heap.size ≤ s_.2) ∧ (w.heap.size ≤ s_.2) ∧ (gb286 ≠ s_.2) ∧ (s_.2 ≠ gb286) ∧ (gb287 ≠ s_.2) ∧ (s_.2 ≠ gb287) ∧ (Below w.heap.size w w')) ?_ ?_
    rotate_left
    · intro hJ1_3_4_5
      refine join_ (σ := Nat) 3 #[true, true, true, true, true, false, false, false] (fun s_ => [(10, .agg #[.bool t289, .int .i64 t290, .int .i64 t291, .int .i64 t292]), (12, .agg #[.bool t293, .int .i64 t294, .int .i64 t295, .int .i64 t296]), (3, .pointer (some ⟨s_, 0, none⟩))]) (fun s_ w' => (w'.cell? ⟨gb286, 0, none⟩ = some (.slice A0_0 l0_0.length c0_0) ∧ w'.cell? ⟨gb286, 1, none⟩ = some (.slice A0_1 l0_1.length c0_1) ∧ w'.cell? ⟨gb286, 2, none⟩ = some (.int .i64 a0_2) ∧ w'.cell? ⟨gb286, 3, none⟩ = some (.bool a0_3)) ∧ (w'.heap[gb286]? = some (.cells #[.slice A0_0 l0_0.length c0_0, .slice A0_1 l0_1.length c0_1, .int .i64 a0_2, .bool a0_3] 25 (0, 0))) ∧ (w'.heap[gb287]? = some (.cells #[.bool false, .int .i64 0, .int .i64 0, .int .i64 0] 42 (0, 0))) ∧ (w'.heap[s_]? = some (.cells #[.bool false, .int .i64 0, .int .i64 0, .int .i64 0] 42 (0, 0))) ∧ (w.heap.size ≤ s_) ∧ (w.heap.size ≤ s_) ∧ (gb286 ≠ s_) ∧ (s_ ≠ gb286) ∧ (gb287 ≠ s_) ∧ (s_ ≠ gb287) ∧ (Below w.heap.size w w')) ?_ ?_
      rotate_left
      · intro hJ1_3_4
        refine join_ (σ := Nat) 3 #[true, true, true, true, false, true, false, false] (fun s_ => [(10, .agg #[.bool t289, .int .i64 t290, .int .i64 t291, .int .i64 t292]), (12, .agg #[.bool t293, .int .i64 t294, .int .i64 t295, .int .i64 t296]), (4, .pointer (some ⟨s_, 0, none⟩))]) (fun s_ w' => (w'.cell? ⟨gb286, 0, none⟩ = some (.slice A0_0 l0_0.length c0_0) ∧ w'.cell? ⟨gb286, 1, none⟩ = some (.slice A0_1 l0_1.length c0_1) ∧ w'.cell? ⟨gb286, 2, none⟩ = some (.int .i64 a0_2) ∧ w'.cell? ⟨gb286, 3, none⟩ = some (.bool a0_3)) ∧ (w'.heap[gb286]? = some (.cells #[.slice A0_0 l0_0.length c0_0, .slice A0_1 l0_1.length c0_1, .int .i64 a0_2, .bool a0_3] 25 (0, 0))) ∧ (w'.heap[gb287]? = some (.cells #[.bool false, .int .i64 0, .int .i64 0, .int .i64 0] 42 (0, 0))) ∧ (w'.heap[s_]? = some (.cells #[.bool false, .int .i64 0, .int .i64 0, .int .i64 0] 42 (0, 0))) ∧ (w.heap.size ≤ s_) ∧ (w.heap.size ≤ s_) ∧ (gb286 ≠ s_) ∧ (s_ ≠ gb286) ∧ (gb287 ≠ s_) ∧ (s_ ≠ gb287) ∧ (Below w.heap.size w w')) ?_ ?_
        rotate_left
        · intro hJ1_3_5
          refine join_ (σ := Nat × Nat) 3 #[true, true, true, false, true, true, false, false] (fun s_ => [(10, .agg #[.bool t289, .int .i64 t290, .int .i64 t291, .int .i64 t292]), (3, .pointer (some ⟨s_.1, 0, none⟩)), (4, .pointer (some ⟨s_.2, 0, none⟩))]) (fun s_ w' => (w'.cell? ⟨gb286, 0, none⟩ = some (.slice A0_0 l0_0.length c0_0) ∧ w'.cell? ⟨gb286, 1, none⟩ = some (.slice A0_1 l0_1.length c0_1) ∧ w'.cell? ⟨gb286, 2, none⟩ = some (.int .i64 a0_2) ∧ w'.cell? ⟨gb286, 3, none⟩ = some (.bool a0_3)) ∧ (w'.heap[gb286]? = some (.cells #[.slice A0_0 l0_0.length c0_0, .slice A0_1 l0_1.length c0_1, .int .i64 a0_2, .bool a0_3] 25 (0, 0))) ∧ (w'.heap[gb287]? = some (.cells #[.bool false, .int .i64 0, .int .i64 0, .int .i64 0] 42 (0, 0))) ∧ (w'.heap[s_.1]? = some (.cells #[.bool false, .int .i64 0, .int .i64 0, .int .i64 0] 42 (0, 0))) ∧ (w'.heap[s_.2]? = some (.cells #[.bool false, .int .i64 0, .int .i64 0, .int .i64 0] 42 (0, 0))) ∧ (w.heap.size ≤ s_.1) ∧ (w.heap.size ≤ s_.1) ∧ (gb286 ≠ s_.1) ∧ (s_.1 ≠ gb286) ∧ (gb287 ≠ s_.1) ∧ (s_.1 ≠ gb287) ∧ (s_.2 ≠ s_.1) ∧ (s_.1 ≠ s_.2) ∧ (w.heap.size ≤ s_.2) ∧ (w.heap.size ≤ s_.2) ∧ (gb286 ≠ s_.2) ∧ (s_.2 ≠ gb286) ∧ (gb287 ≠ s_.2) ∧ (s_.2 ≠ gb287) ∧ (Below w.heap.size w w')) ?_ ?_
          rotate_left
          · intro hJ1_4_5
            refine join_ (σ := Unit) 4 #[true, true, true, true, false, false, false, false] (fun s_ => [(10, .agg #[.bool t289, .int .i64 t290, .int .i64 t291, .int .i64 t292]), (12, .agg #[.bool t293, .int .i64 t294, .int .i64 t295, .int .i64 t296])]) (fun s_ w' => (w'.cell? ⟨gb286, 0, none⟩ = some (.slice A0_0 l0_0.length c0_0) ∧ w'.cell? ⟨gb286, 1, none⟩ = some (.slice A0_1 l0_1.length c0_1) ∧ w'.cell? ⟨gb286, 2, none⟩ = some (.int .i64 a0_2) ∧ w'.cell? ⟨gb286, 3, none⟩ = some (.bool a0_3)) ∧ (w'.heap[gb286]? = some (.cells #[.slice A0_0 l0_0.length c0_0, .slice A0_1 l0_1.length c0_1, .int .i64 a0_2, .bool a0_3] 25 (0, 0))) ∧ (w'.heap[gb287]? = some (.cells #[.bool false, .int .i64 0, .int .i64 0, .int .i64 0] 42 (0, 0))) ∧ (Below w.heap.size w w')) ?_ ?_
            rotate_left
            · intro hJ1_3
              refine join_ (σ := Nat) 4 #[true, true, true, false, true, false, false, false] (fun s_ => [(10, .agg #[.bool t289, .int .i64 t290, .int .i64 t291, .int .i64 t292]), (3, .pointer (some ⟨s_, 0, none⟩))]) (fun s_ w' => (w'.cell? ⟨gb286, 0, none⟩ = some (.slice A0_0 l0_0.length c0_0) ∧ w'.cell? ⟨gb286, 1, none⟩ = some (.slice A0_1 l0_1.length c0_1) ∧ w'.cell? ⟨gb286, 2, none⟩ = some (.int .i64 a0_2) ∧ w'.cell? ⟨gb286, 3, none⟩ = some (.bool a0_3)) ∧ (w'.heap[gb286]? = some (.cells #[.slice A0_0 l0_0.length c0_0, .slice A0_1 l0_1.length c0_1, .int .i64 a0_2, .bool a0_3] 25 (0, 0))) ∧ (w'.heap[gb287]? = some (.cells #[.bool false, .int .i64 0, .int .i64 0, .int .i64 0] 42 (0, 0))) ∧ (w'.heap[s_]? = some (.cells #[.bool false, .int .i64 0, .int .i64 0, .int .i64 0] 42 (0, 0))) ∧ (w.heap.size ≤ s_) ∧ (w.heap.size ≤ s_) ∧ (gb286 ≠ s_) ∧ (s_ ≠ gb286) ∧ (gb287 ≠ s_) ∧ (s_ ≠ gb287) ∧ (Below w.heap.size w w')) ?_ ?_
              rotate_left
              · intro hJ1_4
                refine join_ (σ := Nat) 4 #[true, true, true, false, false, true, false, false] (fun s_ => [(10, .agg #[.bool t289, .int .i64 t290, .int .i64 t291, .int .i64 t292]), (4, .pointer (some ⟨s_, 0, none⟩))]) (fun s_ w' => (w'.cell? ⟨gb286, 0, none⟩ = some (.slice A0_0 l0_0.length c0_0) ∧ w'.cell? ⟨gb286, 1, none⟩ = some (.slice A0_1 l0_1.length c0_1) ∧ w'.cell? ⟨gb286, 2, none⟩ = some (.int .i64 a0_2) ∧ w'.cell? ⟨gb286, 3, none⟩ = some (.bool a0_3)) ∧ (w'.heap[gb286]? = some (.cells #[.slice A0_0 l0_0.length c0_0, .slice A0_1 l0_1.length c0_1, .int .i64 a0_2, .bool a0_3] 25 (0, 0))) ∧ (w'.heap[gb287]? = some (.cells #[.bool false, .int .i64 0, .int .i64 0, .int .i64 0] 42 (0, 0))) ∧ (w'.heap[s_]? = some (.cells #[.bool false, .int .i64 0, .int .i64 0, .int .i64 0] 42 (0, 0))) ∧ (w.heap.size ≤ s_) ∧ (w.heap.size ≤ s_) ∧ (gb286 ≠ s_) ∧ (s_ ≠ gb286) ∧ (gb287 ≠ s_) ∧ (s_ ≠ gb287) ∧ (Below w.heap.size w w')) ?_ ?_
                rotate_left
                · intro hJ1_5
                  refine join_ (σ := Nat × Nat) 4 #[true, false, true, false, true, true, false, false] (fun s_ => [(3, .pointer (some ⟨s_.1, 0, none⟩)), (4, .pointer (some ⟨s_.2, 0, none⟩))]) (fun s_ w' => (w'.cell? ⟨gb286, 0, none⟩ = some (.slice A0_0 l0_0.length c0_0) ∧ w'.cell? ⟨gb286, 1, none⟩ = some (.slice A0_1 l0_1.length c0_1) ∧ w'.cell? ⟨gb286, 2, none⟩ = some (.int .i64 a0_2) ∧ w'.cell? ⟨gb286, 3, none⟩ = some (.bool a0_3)) ∧ (w'.heap[gb286]? = some (.cells #[.slice A0_0 l0_0.length c0_0, .slice A0_1 l0_1.length c0_1, .int .i64 a0_2, .bool a0_3] 25 (0, 0))) ∧ (w'.heap[gb287]? = some (.cells #[.bool false, .int .i64 0, .int .i64 0, .int .i64 0] 42 (0, 0))) ∧ (w'.heap[s_.1]? = some (.cells #[.bool false, .int .i64 0, .int .i64 0, .int .i64 0] 42 (0, 0))) ∧ (w'.heap[s_.2]? = some (.cells #[.bool false, .int .i64 0, .int .i64 0, .int .i64 0] 42 (0, 0))) ∧ (w.heap.size ≤ s_.1) ∧ (w.heap.size ≤ s_.1) ∧ (gb286 ≠ s_.1) ∧ (s_.1 ≠ gb286) ∧ (gb287 ≠ s_.1) ∧ (s_.1 ≠ gb287) ∧ (s_.2 ≠ s_.1) ∧ (s_.1 ≠ s_.2) ∧ (w.heap.size ≤ s_.2) ∧ (w.heap.size ≤ s_.2) ∧ (gb286 ≠ s_.2) ∧ (s_.2 ≠ gb286) ∧ (gb287 ≠ s_.2) ∧ (s_.2 ≠ gb287) ∧ (Below w.heap.size w w')) ?_ ?_
                  rotate_left
                  · intro hJ4_5
                    refine join_ (σ := Unit) 5 #[true, true, true, false, false, false, false, false] (fun s_ => [(10, .agg #[.bool t289, .int .i64 t290, .int .i64 t291, .int .i64 t292])]) (fun s_ w' => (w'.cell? ⟨gb286, 0, none⟩ = some (.slice A0_0 l0_0.length c0_0) ∧ w'.cell? ⟨gb286, 1, none⟩ = some (.slice A0_1 l0_1.length c0_1) ∧ w'.cell? ⟨gb286, 2, none⟩ = some (.int .i64 a0_2) ∧ w'.cell? ⟨gb286, 3, none⟩ = some (.bool a0_3)) ∧ (w'.heap[gb286]? = some (.cells #[.slice A0_0 l0_0.length c0_0, .slice A0_1 l0_1.length c0_1, .int .i64 a0_2, .bool a0_3] 25 (0, 0))) ∧ (w'.heap[gb287]? = some (.cells #[.bool false, .int .i64 0, .int .i64 0, .int .i64 0] 42 (0, 0))) ∧ (Below w.heap.size w w')) ?_ ?_
                    rotate_left
                    · intro hJ1
                      refine join_ (σ := Nat) 5 #[true, false, true, false, true, false, false, false] (fun s_ => [(3, .pointer (some ⟨s_, 0, none⟩))]) (fun s_ w' => (w'.cell? ⟨gb286, 0, none⟩ = some (.slice A0_0 l0_0.length c0_0) ∧ w'.cell? ⟨gb286, 1, none⟩ = some (.slice A0_1 l0_1.length c0_1) ∧ w'.cell? ⟨gb286, 2, none⟩ = some (.int .i64 a0_2) ∧ w'.cell? ⟨gb286, 3, none⟩ = some (.bool a0_3)) ∧ (w'.heap[gb286]? = some (.cells #[.slice A0_0 l0_0.length c0_0, .slice A0_1 l0_1.length c0_1, .int .i64 a0_2, .bool a0_3] 25 (0, 0))) ∧ (w'.heap[gb287]? = some (.cells #[.bool false, .int .i64 0, .int .i64 0, .int .i64 0] 42 (0, 0))) ∧ (w'.heap[s_]? = some (.cells #[.bool false, .int .i64 0, .int .i64 0, .int .i64 0] 42 (0, 0))) ∧ (w.heap.size ≤ s_) ∧ (w.heap.size ≤ s_) ∧ (gb286 ≠ s_) ∧ (s_ ≠ gb286) ∧ (gb287 ≠ s_) ∧ (s_ ≠ gb287) ∧ (Below w.heap.size w w')) ?_ ?_
                      rotate_left
                      · intro hJ4
                        refine join_ (σ := Nat) 5 #[true, false, true, false, false, true, false, false] (fun s_ => [(4, .pointer (some ⟨s_, 0, none⟩))]) (fun s_ w' => (w'.cell? ⟨gb286, 0, none⟩ = some (.slice A0_0 l0_0.length c0_0) ∧ w'.cell? ⟨gb286, 1, none⟩ = some (.slice A0_1 l0_1.length c0_1) ∧ w'.cell? ⟨gb286, 2, none⟩ = some (.int .i64 a0_2) ∧ w'.cell? ⟨gb286, 3, none⟩ = some (.bool a0_3)) ∧ (w'.heap[gb286]? = some (.cells #[.slice A0_0 l0_0.length c0_0, .slice A0_1 l0_1.length c0_1, .int .i64 a0_2, .bool a0_3] 25 (0, 0))) ∧ (w'.heap[gb287]? = some (.cells #[.bool false, .int .i64 0, .int .i64 0, .int .i64 0] 42 (0, 0))) ∧ (w'.heap[s_]? = some (.cells #[.bool false, .int .i64 0, .int .i64 0, .int .i64 0] 42 (0, 0))) ∧ (w.heap.size ≤ s_) ∧ (w.heap.size ≤ s_) ∧ (gb286 ≠ s_) ∧ (s_ ≠ gb286) ∧ (gb287 ≠ s_) ∧ (s_ ≠ gb287) ∧ (Below w.heap.size w w')) ?_ ?_
                        rotate_left
                        · intro hJ5
                          refine three_ (i := 1) (j := 4) (k := 5) (Ni := some 10) (Nj := some 3) (Nk := some 4) #[true, true, true, false, false, false, false, false] #[true, false, true, false, true, false, false, false] #[true, false, true, false, false, true, false, false] rfl rfl rfl rfl rfl rfl (three_of HT_.out (by kernel_rfl)) (by decide) (by decide) (by decide) (fun K hK => ?_) (fun K hK => ?_) (fun K hK => ?_)
                          · skip
                            refine goes_ Try.func63 (by kernel_rfl) rfl #[.agg #[.slice A0_0 l0_0.length c0_0, .slice A0_1 l0_1.length c0_1, .int .i64 a0_2, .bool a0_3], .int .i64 0] (by rfl) rfl rfl (by (try simp only [List.map_toArray, List.map_cons, List.map_nil]); first | done | rfl | (simp only [List.length_drop, List.length_take]; rfl)) ?_
                            with_reducible refine (impl_Disk_super.calls k _ _ l0_0 _ _ l0_1 a0_2 a0_3 0 t289 t290 t291 t292 _ ?side1 ?side2 ?side3 ?side4 A4.out HBY.out).mono ?_
                            (case side1 => repeat (first | exact (Kd.C_below HR0_0.out HB.out) | (with_reducible refine Kd.C_alloc ?_ _) | (with_reducible refine Kd.C_drewN ?_ _) | (with_reducible refine Kd.C_drew ?_)))
                            (case side2 => exact HC0_0.out)
                            (case side3 => repeat (first | exact (Kd.C_below HR0_1.out HB.out) | (with_reducible refine Kd.C_alloc ?_ _) | (with_reducible refine Kd.C_drewN ?_ _) | (with_reducible refine Kd.C_drew ?_)))
                            (case side4 => exact HC0_1.out)
                            rintro e w15 ⟨rfl, hb⟩
                            refine ⟨_, rfl, ?_⟩
                            have n0_ := Aside0.mk (blk_below (g := gb286) (o := .cells #[.slice A0_0 l0_0.length c0_0, .slice A0_1 l0_1.length c0_1, .int .i64 a0_2, .bool a0_3] 25 (0, 0)) BK286.out hb)
                            have n1_ := Aside0.mk (blk_below (g := gb287) (o := .cells #[.bool false, .int .i64 0, .int .i64 0, .int .i64 0] 42 (0, 0)) BK287.out hb)
                            have n2_ := Aside0.mk (below_step (by repeat (first | (with_reducible first | exact HB.out | apply below_alloc | apply pw_below_drewN | apply below_drew1 | refine below_set ?_ GE286.out | refine below_set ?_ GE287.out) | exact HB.out)) hb)
                            clear BK286
                            clear BK287
                            clear HB
                            have BK286 := n0_
                            have BK287 := n1_
                            have HB := n2_
                            clear n0_ n1_ n2_
                            (try clear hb)
                            (try clear hb2)
                            (try clear hk)
                            (try clear hi)
                            refine hK.out _ _ ⟨(blk_cell BK286.out 0).trans rfl, (blk_cell BK286.out 1).trans rfl, (blk_cell BK286.out 2).trans rfl, (blk_cell BK286.out 3).trans rfl⟩ (fun hHeld => ?_)
                            clear hK K
                            refine norm_ (a' := ?_) ?_ ?_
                            rotate_left
                            · show Act.put _ (some 10) _ = _
                              simp only [Act.put, List.setIfInBounds_toArray, List.set_cons_zero, List.set_cons_succ, i64_w, i32_w]
                              rfl
                            exact norm_ (by first | (simp only [putAll, Act.put, List.setIfInBounds_toArray, List.set_cons_zero, List.set_cons_succ]; done) | (simp only [putAll, Act.put, List.setIfInBounds_toArray, List.set_cons_zero, List.set_cons_succ]; rfl)) (hJ1 () _ ⟨hHeld, BK286.out, BK287.out, (by repeat (first | (with_reducible first | exact HB.out | apply below_alloc | apply pw_below_drewN | apply below_drew1 | refine below_set ?_ GE286.out | refine below_set ?_ GE287.out) | exact HB.out))⟩)
                          · skip
                            refine box_step ?hg (N := 3) ?hd (cs := #[.bool false, .int .i64 0, .int .i64 0, .int .i64 0]) (t := 42) ?hr ?_; (case hd => rfl); (case hg => rfl); (case hr => first | (go_simp; done) | (go_simp; rfl))
                            intro gb297 hg w15 hbox hb
                            have n0_ := Aside0.mk (blk_below (g := gb286) (o := .cells #[.slice A0_0 l0_0.length c0_0, .slice A0_1 l0_1.length c0_1, .int .i64 a0_2, .bool a0_3] 25 (0, 0)) BK286.out hb)
                            have n1_ := Aside0.mk (blk_below (g := gb287) (o := .cells #[.bool false, .int .i64 0, .int .i64 0, .int .i64 0] 42 (0, 0)) BK287.out hb)
                            have n2_ := Aside0.mk (below_step (by repeat (first | (with_reducible first | exact HB.out | apply below_alloc | apply pw_below_drewN | apply below_drew1 | refine below_set ?_ GE286.out | refine below_set ?_ GE287.out) | exact HB.out)) hb)
                            have n3_ := Aside0.mk (hbox)
                            have n4_ := Aside0.mk ((by rw [hg]; exact (below_size (by repeat (first | (with_reducible first | exact HB.out | apply below_alloc | apply pw_below_drewN | apply below_drew1 | refine below_set ?_ GE286.out | refine below_set ?_ GE287.out) | exact HB.out))) : w.heap.size ≤ gb297))
                            have n5_ := Aside0.mk ((by rw [hg]; exact (below_size (by repeat (first | (with_reducible first | exact HB.out | apply below_alloc | apply pw_below_drewN | apply below_drew1 | refine below_set ?_ GE286.out | refine below_set ?_ GE287.out) | exact HB.out))) : w.heap.size ≤ gb297))
                            have n6_ := Aside0.mk ((by rw [hg]; exact Nat.ne_of_lt (blk_lt (g := gb286) (o := .cells #[.slice A0_0 l0_0.length c0_0, .slice A0_1 l0_1.length c0_1, .int .i64 a0_2, .bool a0_3] 25 (0, 0)) BK286.out) : gb286 ≠ gb297))
                            have n7_ := Aside0.mk ((by rw [hg]; exact Nat.ne_of_gt (blk_lt (g := gb286) (o := .cells #[.slice A0_0 l0_0.length c0_0, .slice A0_1 l0_1.length c0_1, .int .i64 a0_2, .bool a0_3] 25 (0, 0)) BK286.out) : gb297 ≠ gb286))
                            have n8_ := Aside0.mk ((by rw [hg]; exact Nat.ne_of_lt (blk_lt (g := gb287) (o := .cells #[.bool false, .int .i64 0, .int .i64 0, .int .i64 0] 42 (0, 0)) BK287.out) : gb287 ≠ gb297))
                            have n9_ := Aside0.mk ((by rw [hg]; exact Nat.ne_of_gt (blk_lt (g := gb287) (o := .cells #[.bool false, .int .i64 0, .int .i64 0, .int .i64 0] 42 (0, 0)) BK287.out) : gb297 ≠ gb287))
                            clear BK286
                            clear BK287
                            clear HB
                            have BK286 := n0_
                            have BK287 := n1_
                            have HB := n2_
                            have BK297 := n3_
                            have GW297 := n4_
                            have GE297 := n5_
                            have NB286_297 := n6_
                            have NB297_286 := n7_
                            have NB287_297 := n8_
                            have NB297_287 := n9_
                            clear n0_ n1_ n2_ n3_ n4_ n5_ n6_ n7_ n8_ n9_
                            clear hb hbox hg
                            refine hK.out _ _ ⟨(blk_cell BK286.out 0).trans rfl, (blk_cell BK286.out 1).trans rfl, (blk_cell BK286.out 2).trans rfl, (blk_cell BK286.out 3).trans rfl⟩ (fun hHeld => ?_)
                            clear hK K
                            refine norm_ (a' := ?_) ?_ ?_
                            rotate_left
                            · show Act.put _ (some 3) _ = _
                              simp only [Act.put, List.setIfInBounds_toArray, List.set_cons_zero, List.set_cons_succ, i64_w, i32_w]
                              rfl
                            exact norm_ (by first | (simp only [putAll, Act.put, List.setIfInBounds_toArray, List.set_cons_zero, List.set_cons_succ]; done) | (simp only [putAll, Act.put, List.setIfInBounds_toArray, List.set_cons_zero, List.set_cons_succ]; rfl)) (hJ4 (gb297) _ ⟨hHeld, BK286.out, BK287.out, BK297.out, GW297.out, GE297.out, NB286_297.out, NB297_286.out, NB287_297.out, NB297_287.out, (by repeat (first | (with_reducible first | exact HB.out | apply below_alloc | apply pw_below_drewN | apply below_drew1 | refine below_set ?_ GE286.out | refine below_set ?_ GE287.out | refine below_set ?_ GE297.out) | exact HB.out))⟩)
                          · skip
                            refine box_step ?hg (N := 4) ?hd (cs := #[.bool false, .int .i64 0, .int .i64 0, .int .i64 0]) (t := 42) ?hr ?_; (case hd => rfl); (case hg => rfl); (case hr => first | (go_simp; done) | (go_simp; rfl))
                            intro gb298 hg w15 hbox hb
                            have n0_ := Aside0.mk (blk_below (g := gb286) (o := .cells #[.slice A0_0 l0_0.length c0_0, .slice A0_1 l0_1.length c0_1, .int .i64 a0_2, .bool a0_3] 25 (0, 0)) BK286.out hb)
                            have n1_ := Aside0.mk (blk_below (g := gb287) (o := .cells #[.bool false, .int .i64 0, .int .i64 0, .int .i64 0] 42 (0, 0)) BK287.out hb)
                            have n2_ := Aside0.mk (below_step (by repeat (first | (with_reducible first | exact HB.out | apply below_alloc | apply pw_below_drewN | apply below_drew1 | refine below_set ?_ GE286.out | refine below_set ?_ GE287.out) | exact HB.out)) hb)
                            have n3_ := Aside0.mk (hbox)
                            have n4_ := Aside0.mk ((by rw [hg]; exact (below_size (by repeat (first | (with_reducible first | exact HB.out | apply below_alloc | apply pw_below_drewN | apply below_drew1 | refine below_set ?_ GE286.out | refine below_set ?_ GE287.out) | exact HB.out))) : w.heap.size ≤ gb298))
                            have n5_ := Aside0.mk ((by rw [hg]; exact (below_size (by repeat (first | (with_reducible first | exact HB.out | apply below_alloc | apply pw_below_drewN | apply below_drew1 | refine below_set ?_ GE286.out | refine below_set ?_ GE287.out) | exact HB.out))) : w.heap.size ≤ gb298))
                            have n6_ := Aside0.mk ((by rw [hg]; exact Nat.ne_of_lt (blk_lt (g := gb286) (o := .cells #[.slice A0_0 l0_0.length c0_0, .slice A0_1 l0_1.length c0_1, .int .i64 a0_2, .bool a0_3] 25 (0, 0)) BK286.out) : gb286 ≠ gb298))
                            have n7_ := Aside0.mk ((by rw [hg]; exact Nat.ne_of_gt (blk_lt (g := gb286) (o := .cells #[.slice A0_0 l0_0.length c0_0, .slice A0_1 l0_1.length c0_1, .int .i64 a0_2, .bool a0_3] 25 (0, 0)) BK286.out) : gb298 ≠ gb286))
                            have n8_ := Aside0.mk ((by rw [hg]; exact Nat.ne_of_lt (blk_lt (g := gb287) (o := .cells #[.bool false, .int .i64 0, .int .i64 0, .int .i64 0] 42 (0, 0)) BK287.out) : gb287 ≠ gb298))
                            have n9_ := Aside0.mk ((by rw [hg]; exact Nat.ne_of_gt (blk_lt (g := gb287) (o := .cells #[.bool false, .int .i64 0, .int .i64 0, .int .i64 0] 42 (0, 0)) BK287.out) : gb298 ≠ gb287))
                            clear BK286
                            clear BK287
                            clear HB
                            have BK286 := n0_
                            have BK287 := n1_
                            have HB := n2_
                            have BK298 := n3_
                            have GW298 := n4_
                            have GE298 := n5_
                            have NB286_298 := n6_
                            have NB298_286 := n7_
                            have NB287_298 := n8_
                            have NB298_287 := n9_
                            clear n0_ n1_ n2_ n3_ n4_ n5_ n6_ n7_ n8_ n9_
                            clear hb hbox hg
                            refine hK.out _ _ ⟨(blk_cell BK286.out 0).trans rfl, (blk_cell BK286.out 1).trans rfl, (blk_cell BK286.out 2).trans rfl, (blk_cell BK286.out 3).trans rfl⟩ (fun hHeld => ?_)
                            clear hK K
                            refine norm_ (a' := ?_) ?_ ?_
                            rotate_left
                            · show Act.put _ (some 4) _ = _
                              simp only [Act.put, List.setIfInBounds_toArray, List.set_cons_zero, List.set_cons_succ, i64_w, i32_w]
                              rfl
                            exact norm_ (by first | (simp only [putAll, Act.put, List.setIfInBounds_toArray, List.set_cons_zero, List.set_cons_succ]; done) | (simp only [putAll, Act.put, List.setIfInBounds_toArray, List.set_cons_zero, List.set_cons_succ]; rfl)) (hJ5 (gb298) _ ⟨hHeld, BK286.out, BK287.out, BK298.out, GW298.out, GE298.out, NB286_298.out, NB298_286.out, NB287_298.out, NB298_287.out, (by repeat (first | (with_reducible first | exact HB.out | apply below_alloc | apply pw_below_drewN | apply below_drew1 | refine below_set ?_ GE286.out | refine below_set ?_ GE287.out | refine below_set ?_ GE298.out) | exact HB.out))⟩)
                        · skip
                          rintro gb298 w16 ⟨hS_, h0_, h1_, h2_, h3_, h4_, h5_, h6_, h7_, h8_, h9_⟩
                          have n0_ : Aside0 (w16.heap[gb286]? = some (.cells #[.slice A0_0 l0_0.length c0_0, .slice A0_1 l0_1.length c0_1, .int .i64 a0_2, .bool a0_3] 25 (0, 0))) := ⟨h0_⟩
                          have n1_ : Aside0 (w16.heap[gb287]? = some (.cells #[.bool false, .int .i64 0, .int .i64 0, .int .i64 0] 42 (0, 0))) := ⟨h1_⟩
                          have n2_ : Aside0 (w16.heap[gb298]? = some (.cells #[.bool false, .int .i64 0, .int .i64 0, .int .i64 0] 42 (0, 0))) := ⟨h2_⟩
                          have n3_ : Aside0 (w.heap.size ≤ gb298) := ⟨h3_⟩
                          have n4_ : Aside0 (w.heap.size ≤ gb298) := ⟨h4_⟩
                          have n5_ : Aside0 (gb286 ≠ gb298) := ⟨h5_⟩
                          have n6_ : Aside0 (gb298 ≠ gb286) := ⟨h6_⟩
                          have n7_ : Aside0 (gb287 ≠ gb298) := ⟨h7_⟩
                          have n8_ : Aside0 (gb298 ≠ gb287) := ⟨h8_⟩
                          have n9_ : Aside0 (Below w.heap.size w w16) := ⟨h9_⟩
                          clear BK286
                          clear BK287
                          clear HB
                          clear h0_ h1_ h2_ h3_ h4_ h5_ h6_ h7_ h8_ h9_
                          have BK286 := n0_
                          have BK287 := n1_
                          have BK298 := n2_
                          have GW298 := n3_
                          have GE298 := n4_
                          have NB286_298 := n5_
                          have NB298_286 := n6_
                          have NB287_298 := n7_
                          have NB298_287 := n8_
                          have HB := n9_
                          clear n0_ n1_ n2_ n3_ n4_ n5_ n6_ n7_ n8_ n9_
                          have hHeld : w16.cell? ⟨gb286, 0, none⟩ = some (.slice A0_0 l0_0.length c0_0) ∧ w16.cell? ⟨gb286, 1, none⟩ = some (.slice A0_1 l0_1.length c0_1) ∧ w16.cell? ⟨gb286, 2, none⟩ = some (.int .i64 a0_2) ∧ w16.cell? ⟨gb286, 3, none⟩ = some (.bool a0_3) := hS_
                          refine norm_ (a' := ?_) ?_ ?_
                          rotate_left
                          · simp only [putAll, Act.put, List.setIfInBounds_toArray, List.set_cons_zero, List.set_cons_succ]
                            rfl
                          refine two_ (i := 1) (j := 4) (Ni := some 10) (Nj := some 3) #[true, true, true, false, false, true, false, false] #[true, false, true, false, true, true, false, false] rfl rfl rfl rfl (two_of HT_.out (by kernel_rfl)) (by decide) (by decide) (fun K hK => ?_) (fun K hK => ?_)
                          · skip
                            refine goes_ Try.func63 (by kernel_rfl) rfl #[.agg #[.slice A0_0 l0_0.length c0_0, .slice A0_1 l0_1.length c0_1, .int .i64 a0_2, .bool a0_3], .int .i64 0] (by rfl) rfl rfl (by (try simp only [List.map_toArray, List.map_cons, List.map_nil]); first | done | rfl | (simp only [List.length_drop, List.length_take]; rfl)) ?_
                            with_reducible refine (impl_Disk_super.calls k _ _ l0_0 _ _ l0_1 a0_2 a0_3 0 t289 t290 t291 t292 _ ?side1 ?side2 ?side3 ?side4 A4.out HBY.out).mono ?_
                            (case side1 => repeat (first | exact (Kd.C_below HR0_0.out HB.out) | (with_reducible refine Kd.C_alloc ?_ _) | (with_reducible refine Kd.C_drewN ?_ _) | (with_reducible refine Kd.C_drew ?_)))
                            (case side2 => exact HC0_0.out)
                            (case side3 => repeat (first | exact (Kd.C_below HR0_1.out HB.out) | (with_reducible refine Kd.C_alloc ?_ _) | (with_reducible refine Kd.C_drewN ?_ _) | (with_reducible refine Kd.C_drew ?_)))
                            (case side4 => exact HC0_1.out)
                            rintro e w17 ⟨rfl, hb⟩
                            refine ⟨_, rfl, ?_⟩
                            have n0_ := Aside0.mk (blk_below (g := gb286) (o := .cells #[.slice A0_0 l0_0.length c0_0, .slice A0_1 l0_1.length c0_1, .int .i64 a0_2, .bool a0_3] 25 (0, 0)) BK286.out hb)
                            have n1_ := Aside0.mk (blk_below (g := gb287) (o := .cells #[.bool false, .int .i64 0, .int .i64 0, .int .i64 0] 42 (0, 0)) BK287.out hb)
                            have n2_ := Aside0.mk (blk_below (g := gb298) (o := .cells #[.bool false, .int .i64 0, .int .i64 0, .int .i64 0] 42 (0, 0)) BK298.out hb)
                            have n3_ := Aside0.mk (below_step (by repeat (first | (with_reducible first | exact HB.out | apply below_alloc | apply pw_below_drewN | apply below_drew1 | refine below_set ?_ GE286.out | refine below_set ?_ GE287.out | refine below_set ?_ GE298.out) | exact HB.out)) hb)
                            clear BK286
                            clear BK287
                            clear BK298
                            clear HB
                            have BK286 := n0_
                            have BK287 := n1_
                            have BK298 := n2_
                            have HB := n3_
                            clear n0_ n1_ n2_ n3_
                            (try clear hb)
                            (try clear hb2)
                            (try clear hk)
                            (try clear hi)
                            refine hK.out _ _ ⟨(blk_cell BK286.out 0).trans rfl, (blk_cell BK286.out 1).trans rfl, (blk_cell BK286.out 2).trans rfl, (blk_cell BK286.out 3).trans rfl⟩ (fun hHeld => ?_)
                            clear hK K
                            refine norm_ (a' := ?_) ?_ ?_
                            rotate_left
                            · show Act.put _ (some 10) _ = _
                              simp only [Act.put, List.setIfInBounds_toArray, List.set_cons_zero, List.set_cons_succ, i64_w, i32_w]
                              rfl
                            exact norm_ (by first | (simp only [putAll, Act.put, List.setIfInBounds_toArray, List.set_cons_zero, List.set_cons_succ]; done) | (simp only [putAll, Act.put, List.setIfInBounds_toArray, List.set_cons_zero, List.set_cons_succ]; rfl)) (hJ1_5 (gb298) _ ⟨hHeld, BK286.out, BK287.out, BK298.out, GW298.out, GE298.out, NB286_298.out, NB298_286.out, NB287_298.out, NB298_287.out, (by repeat (first | (with_reducible first | exact HB.out | apply below_alloc | apply pw_below_drewN | apply below_drew1 | refine below_set ?_ GE286.out | refine below_set ?_ GE287.out | refine below_set ?_ GE298.out) | exact HB.out))⟩)
                          · skip
                            refine box_step ?hg (N := 3) ?hd (cs := #[.bool false, .int .i64 0, .int .i64 0, .int .i64 0]) (t := 42) ?hr ?_; (case hd => rfl); (case hg => rfl); (case hr => first | (go_simp; done) | (go_simp; rfl))
                            intro gb297 hg w17 hbox hb
                            have n0_ := Aside0.mk (blk_below (g := gb286) (o := .cells #[.slice A0_0 l0_0.length c0_0, .slice A0_1 l0_1.length c0_1, .int .i64 a0_2, .bool a0_3] 25 (0, 0)) BK286.out hb)
                            have n1_ := Aside0.mk (blk_below (g := gb287) (o := .cells #[.bool false, .int .i64 0, .int .i64 0, .int .i64 0] 42 (0, 0)) BK287.out hb)
                            have n2_ := Aside0.mk (blk_below (g := gb298) (o := .cells #[.bool false, .int .i64 0, .int .i64 0, .int .i64 0] 42 (0, 0)) BK298.out hb)
                            have n3_ := Aside0.mk (below_step (by repeat (first | (with_reducible first | exact HB.out | apply below_alloc | apply pw_below_drewN | apply below_drew1 | refine below_set ?_ GE286.out | refine below_set ?_ GE287.out | refine below_set ?_ GE298.out) | exact HB.out)) hb)
                            have n4_ := Aside0.mk (hbox)
                            have n5_ := Aside0.mk ((by rw [hg]; exact (below_size (by repeat (first | (with_reducible first | exact HB.out | apply below_alloc | apply pw_below_drewN | apply below_drew1 | refine below_set ?_ GE286.out | refine below_set ?_ GE287.out | refine below_set ?_ GE298.out) | exact HB.out))) : w.heap.size ≤ gb297))
                            have n6_ := Aside0.mk ((by rw [hg]; exact (below_size (by repeat (first | (with_reducible first | exact HB.out | apply below_alloc | apply pw_below_drewN | apply below_drew1 | refine below_set ?_ GE286.out | refine below_set ?_ GE287.out | refine below_set ?_ GE298.out) | exact HB.out))) : w.heap.size ≤ gb297))
                            have n7_ := Aside0.mk ((by rw [hg]; exact Nat.ne_of_lt (blk_lt (g := gb286) (o := .cells #[.slice A0_0 l0_0.length c0_0, .slice A0_1 l0_1.length c0_1, .int .i64 a0_2, .bool a0_3] 25 (0, 0)) BK286.out) : gb286 ≠ gb297))
                            have n8_ := Aside0.mk ((by rw [hg]; exact Nat.ne_of_gt (blk_lt (g := gb286) (o := .cells #[.slice A0_0 l0_0.length c0_0, .slice A0_1 l0_1.length c0_1, .int .i64 a0_2, .bool a0_3] 25 (0, 0)) BK286.out) : gb297 ≠ gb286))
                            have n9_ := Aside0.mk ((by rw [hg]; exact Nat.ne_of_lt (blk_lt (g := gb287) (o := .cells #[.bool false, .int .i64 0, .int .i64 0, .int .i64 0] 42 (0, 0)) BK287.out) : gb287 ≠ gb297))
                            have n10_ := Aside0.mk ((by rw [hg]; exact Nat.ne_of_gt (blk_lt (g := gb287) (o := .cells #[.bool false, .int .i64 0, .int .i64 0, .int .i64 0] 42 (0, 0)) BK287.out) : gb297 ≠ gb287))
                            have n11_ := Aside0.mk ((by rw [hg]; exact Nat.ne_of_lt (blk_lt (g := gb298) (o := .cells #[.bool false, .int .i64 0, .int .i64 0, .int .i64 0] 42 (0, 0)) BK298.out) : gb298 ≠ gb297))
                            have n12_ := Aside0.mk ((by rw [hg]; exact Nat.ne_of_gt (blk_lt (g := gb298) (o := .cells #[.bool false, .int .i64 0, .int .i64 0, .int .i64 0] 42 (0, 0)) BK298.out) : gb297 ≠ gb298))
                            clear BK286
                            clear BK287
                            clear BK298
                            clear HB
                            have BK286 := n0_
                            have BK287 := n1_
                            have BK298 := n2_
                            have HB := n3_
                            have BK297 := n4_
                            have GW297 := n5_
                            have GE297 := n6_
                            have NB286_297 := n7_
                            have NB297_286 := n8_
                            have NB287_297 := n9_
                            have NB297_287 := n10_
                            have NB298_297 := n11_
                            have NB297_298 := n12_
                            clear n0_ n1_ n2_ n3_ n4_ n5_ n6_ n7_ n8_ n9_ n10_ n11_ n12_
                            clear hb hbox hg
                            refine hK.out _ _ ⟨(blk_cell BK286.out 0).trans rfl, (blk_cell BK286.out 1).trans rfl, (blk_cell BK286.out 2).trans rfl, (blk_cell BK286.out 3).trans rfl⟩ (fun hHeld => ?_)
                            clear hK K
                            refine norm_ (a' := ?_) ?_ ?_
                            rotate_left
                            · show Act.put _ (some 3) _ = _
                              simp only [Act.put, List.setIfInBounds_toArray, List.set_cons_zero, List.set_cons_succ, i64_w, i32_w]
                              rfl
                            exact norm_ (by first | (simp only [putAll, Act.put, List.setIfInBounds_toArray, List.set_cons_zero, List.set_cons_succ]; done) | (simp only [putAll, Act.put, List.setIfInBounds_toArray, List.set_cons_zero, List.set_cons_succ]; rfl)) (hJ4_5 (gb297, gb298) _ ⟨hHeld, BK286.out, BK287.out, BK297.out, BK298.out, GW297.out, GE297.out, NB286_297.out, NB297_286.out, NB287_297.out, NB297_287.out, NB298_297.out, NB297_298.out, GW298.out, GE298.out, NB286_298.out, NB298_286.out, NB287_298.out, NB298_287.out, (by repeat (first | (with_reducible first | exact HB.out | apply below_alloc | apply pw_below_drewN | apply below_drew1 | refine below_set ?_ GE286.out | refine below_set ?_ GE287.out | refine below_set ?_ GE298.out | refine below_set ?_ GE297.out) | exact HB.out))⟩)
                      · skip
                        rintro gb297 w16 ⟨hS_, h0_, h1_, h2_, h3_, h4_, h5_, h6_, h7_, h8_, h9_⟩
                        have n0_ : Aside0 (w16.heap[gb286]? = some (.cells #[.slice A0_0 l0_0.length c0_0, .slice A0_1 l0_1.length c0_1, .int .i64 a0_2, .bool a0_3] 25 (0, 0))) := ⟨h0_⟩
                        have n1_ : Aside0 (w16.heap[gb287]? = some (.cells #[.bool false, .int .i64 0, .int .i64 0, .int .i64 0] 42 (0, 0))) := ⟨h1_⟩
                        have n2_ : Aside0 (w16.heap[gb297]? = some (.cells #[.bool false, .int .i64 0, .int .i64 0, .int .i64 0] 42 (0, 0))) := ⟨h2_⟩
                        have n3_ : Aside0 (w.heap.size ≤ gb297) := ⟨h3_⟩
                        have n4_ : Aside0 (w.heap.size ≤ gb297) := ⟨h4_⟩
                        have n5_ : Aside0 (gb286 ≠ gb297) := ⟨h5_⟩
                        have n6_ : Aside0 (gb297 ≠ gb286) := ⟨h6_⟩
                        have n7_ : Aside0 (gb287 ≠ gb297) := ⟨h7_⟩
                        have n8_ : Aside0 (gb297 ≠ gb287) := ⟨h8_⟩
                        have n9_ : Aside0 (Below w.heap.size w w16) := ⟨h9_⟩
                        clear BK286
                        clear BK287
                        clear HB
                        clear h0_ h1_ h2_ h3_ h4_ h5_ h6_ h7_ h8_ h9_
                        have BK286 := n0_
                        have BK287 := n1_
                        have BK297 := n2_
                        have GW297 := n3_
                        have GE297 := n4_
                        have NB286_297 := n5_
                        have NB297_286 := n6_
                        have NB287_297 := n7_
                        have NB297_287 := n8_
                        have HB := n9_
                        clear n0_ n1_ n2_ n3_ n4_ n5_ n6_ n7_ n8_ n9_
                        have hHeld : w16.cell? ⟨gb286, 0, none⟩ = some (.slice A0_0 l0_0.length c0_0) ∧ w16.cell? ⟨gb286, 1, none⟩ = some (.slice A0_1 l0_1.length c0_1) ∧ w16.cell? ⟨gb286, 2, none⟩ = some (.int .i64 a0_2) ∧ w16.cell? ⟨gb286, 3, none⟩ = some (.bool a0_3) := hS_
                        refine norm_ (a' := ?_) ?_ ?_
                        rotate_left
                        · simp only [putAll, Act.put, List.setIfInBounds_toArray, List.set_cons_zero, List.set_cons_succ]
                          rfl
                        refine two_ (i := 1) (j := 5) (Ni := some 10) (Nj := some 4) #[true, true, true, false, true, false, false, false] #[true, false, true, false, true, true, false, false] rfl rfl rfl rfl (two_of HT_.out (by kernel_rfl)) (by decide) (by decide) (fun K hK => ?_) (fun K hK => ?_)
                        · skip
                          refine goes_ Try.func63 (by kernel_rfl) rfl #[.agg #[.slice A0_0 l0_0.length c0_0, .slice A0_1 l0_1.length c0_1, .int .i64 a0_2, .bool a0_3], .int .i64 0] (by rfl) rfl rfl (by (try simp only [List.map_toArray, List.map_cons, List.map_nil]); first | done | rfl | (simp only [List.length_drop, List.length_take]; rfl)) ?_
                          with_reducible refine (impl_Disk_super.calls k _ _ l0_0 _ _ l0_1 a0_2 a0_3 0 t289 t290 t291 t292 _ ?side1 ?side2 ?side3 ?side4 A4.out HBY.out).mono ?_
                          (case side1 => repeat (first | exact (Kd.C_below HR0_0.out HB.out) | (with_reducible refine Kd.C_alloc ?_ _) | (with_reducible refine Kd.C_drewN ?_ _) | (with_reducible refine Kd.C_drew ?_)))
                          (case side2 => exact HC0_0.out)
                          (case side3 => repeat (first | exact (Kd.C_below HR0_1.out HB.out) | (with_reducible refine Kd.C_alloc ?_ _) | (with_reducible refine Kd.C_drewN ?_ _) | (with_reducible refine Kd.C_drew ?_)))
                          (case side4 => exact HC0_1.out)
                          rintro e w17 ⟨rfl, hb⟩
                          refine ⟨_, rfl, ?_⟩
                          have n0_ := Aside0.mk (blk_below (g := gb286) (o := .cells #[.slice A0_0 l0_0.length c0_0, .slice A0_1 l0_1.length c0_1, .int .i64 a0_2, .bool a0_3] 25 (0, 0)) BK286.out hb)
                          have n1_ := Aside0.mk (blk_below (g := gb287) (o := .cells #[.bool false, .int .i64 0, .int .i64 0, .int .i64 0] 42 (0, 0)) BK287.out hb)
                          have n2_ := Aside0.mk (blk_below (g := gb297) (o := .cells #[.bool false, .int .i64 0, .int .i64 0, .int .i64 0] 42 (0, 0)) BK297.out hb)
                          have n3_ := Aside0.mk (below_step (by repeat (first | (with_reducible first | exact HB.out | apply below_alloc | apply pw_below_drewN | apply below_drew1 | refine below_set ?_ GE286.out | refine below_set ?_ GE287.out | refine below_set ?_ GE297.out) | exact HB.out)) hb)
                          clear BK286
                          clear BK287
                          clear BK297
                          clear HB
                          have BK286 := n0_
                          have BK287 := n1_
                          have BK297 := n2_
                          have HB := n3_
                          clear n0_ n1_ n2_ n3_
                          (try clear hb)
                          (try clear hb2)
                          (try clear hk)
                          (try clear hi)
                          refine hK.out _ _ ⟨(blk_cell BK286.out 0).trans rfl, (blk_cell BK286.out 1).trans rfl, (blk_cell BK286.out 2).trans rfl, (blk_cell BK286.out 3).trans rfl⟩ (fun hHeld => ?_)
                          clear hK K
                          refine norm_ (a' := ?_) ?_ ?_
                          rotate_left
                          · show Act.put _ (some 10) _ = _
                            simp only [Act.put, List.setIfInBounds_toArray, List.set_cons_zero, List.set_cons_succ, i64_w, i32_w]
                            rfl
                          exact norm_ (by first | (simp only [putAll, Act.put, List.setIfInBounds_toArray, List.set_cons_zero, List.set_cons_succ]; done) | (simp only [putAll, Act.put, List.setIfInBounds_toArray, List.set_cons_zero, List.set_cons_succ]; rfl)) (hJ1_4 (gb297) _ ⟨hHeld, BK286.out, BK287.out, BK297.out, GW297.out, GE297.out, NB286_297.out, NB297_286.out, NB287_297.out, NB297_287.out, (by repeat (first | (with_reducible first | exact HB.out | apply below_alloc | apply pw_below_drewN | apply below_drew1 | refine below_set ?_ GE286.out | refine below_set ?_ GE287.out | refine below_set ?_ GE297.out) | exact HB.out))⟩)
                        · skip
                          refine box_step ?hg (N := 4) ?hd (cs := #[.bool false, .int .i64 0, .int .i64 0, .int .i64 0]) (t := 42) ?hr ?_; (case hd => rfl); (case hg => rfl); (case hr => first | (go_simp; done) | (go_simp; rfl))
                          intro gb298 hg w17 hbox hb
                          have n0_ := Aside0.mk (blk_below (g := gb286) (o := .cells #[.slice A0_0 l0_0.length c0_0, .slice A0_1 l0_1.length c0_1, .int .i64 a0_2, .bool a0_3] 25 (0, 0)) BK286.out hb)
                          have n1_ := Aside0.mk (blk_below (g := gb287) (o := .cells #[.bool false, .int .i64 0, .int .i64 0, .int .i64 0] 42 (0, 0)) BK287.out hb)
                          have n2_ := Aside0.mk (blk_below (g := gb297) (o := .cells #[.bool false, .int .i64 0, .int .i64 0, .int .i64 0] 42 (0, 0)) BK297.out hb)
                          have n3_ := Aside0.mk (below_step (by repeat (first | (with_reducible first | exact HB.out | apply below_alloc | apply pw_below_drewN | apply below_drew1 | refine below_set ?_ GE286.out | refine below_set ?_ GE287.out | refine below_set ?_ GE297.out) | exact HB.out)) hb)
                          have n4_ := Aside0.mk (hbox)
                          have n5_ := Aside0.mk ((by rw [hg]; exact (below_size (by repeat (first | (with_reducible first | exact HB.out | apply below_alloc | apply pw_below_drewN | apply below_drew1 | refine below_set ?_ GE286.out | refine below_set ?_ GE287.out | refine below_set ?_ GE297.out) | exact HB.out))) : w.heap.size ≤ gb298))
                          have n6_ := Aside0.mk ((by rw [hg]; exact (below_size (by repeat (first | (with_reducible first | exact HB.out | apply below_alloc | apply pw_below_drewN | apply below_drew1 | refine below_set ?_ GE286.out | refine below_set ?_ GE287.out | refine below_set ?_ GE297.out) | exact HB.out))) : w.heap.size ≤ gb298))
                          have n7_ := Aside0.mk ((by rw [hg]; exact Nat.ne_of_lt (blk_lt (g := gb286) (o := .cells #[.slice A0_0 l0_0.length c0_0, .slice A0_1 l0_1.length c0_1, .int .i64 a0_2, .bool a0_3] 25 (0, 0)) BK286.out) : gb286 ≠ gb298))
                          have n8_ := Aside0.mk ((by rw [hg]; exact Nat.ne_of_gt (blk_lt (g := gb286) (o := .cells #[.slice A0_0 l0_0.length c0_0, .slice A0_1 l0_1.length c0_1, .int .i64 a0_2, .bool a0_3] 25 (0, 0)) BK286.out) : gb298 ≠ gb286))
                          have n9_ := Aside0.mk ((by rw [hg]; exact Nat.ne_of_lt (blk_lt (g := gb287) (o := .cells #[.bool false, .int .i64 0, .int .i64 0, .int .i64 0] 42 (0, 0)) BK287.out) : gb287 ≠ gb298))
                          have n10_ := Aside0.mk ((by rw [hg]; exact Nat.ne_of_gt (blk_lt (g := gb287) (o := .cells #[.bool false, .int .i64 0, .int .i64 0, .int .i64 0] 42 (0, 0)) BK287.out) : gb298 ≠ gb287))
                          have n11_ := Aside0.mk ((by rw [hg]; exact Nat.ne_of_lt (blk_lt (g := gb297) (o := .cells #[.bool false, .int .i64 0, .int .i64 0, .int .i64 0] 42 (0, 0)) BK297.out) : gb297 ≠ gb298))
                          have n12_ := Aside0.mk ((by rw [hg]; exact Nat.ne_of_gt (blk_lt (g := gb297) (o := .cells #[.bool false, .int .i64 0, .int .i64 0, .int .i64 0] 42 (0, 0)) BK297.out) : gb298 ≠ gb297))
                          clear BK286
                          clear BK287
                          clear BK297
                          clear HB
                          have BK286 := n0_
                          have BK287 := n1_
                          have BK297 := n2_
                          have HB := n3_
                          have BK298 := n4_
                          have GW298 := n5_
                          have GE298 := n6_
                          have NB286_298 := n7_
                          have NB298_286 := n8_
                          have NB287_298 := n9_
                          have NB298_287 := n10_
                          have NB297_298 := n11_
                          have NB298_297 := n12_
                          clear n0_ n1_ n2_ n3_ n4_ n5_ n6_ n7_ n8_ n9_ n10_ n11_ n12_
                          clear hb hbox hg
                          refine hK.out _ _ ⟨(blk_cell BK286.out 0).trans rfl, (blk_cell BK286.out 1).trans rfl, (blk_cell BK286.out 2).trans rfl, (blk_cell BK286.out 3).trans rfl⟩ (fun hHeld => ?_)
                          clear hK K
                          refine norm_ (a' := ?_) ?_ ?_
                          rotate_left
                          · show Act.put _ (some 4) _ = _
                            simp only [Act.put, List.setIfInBounds_toArray, List.set_cons_zero, List.set_cons_succ, i64_w, i32_w]
                            rfl
                          exact norm_ (by first | (simp only [putAll, Act.put, List.setIfInBounds_toArray, List.set_cons_zero, List.set_cons_succ]; done) | (simp only [putAll, Act.put, List.setIfInBounds_toArray, List.set_cons_zero, List.set_cons_succ]; rfl)) (hJ4_5 (gb297, gb298) _ ⟨hHeld, BK286.out, BK287.out, BK297.out, BK298.out, GW297.out, GE297.out, NB286_297.out, NB297_286.out, NB287_297.out, NB297_287.out, NB298_297.out, NB297_298.out, GW298.out, GE298.out, NB286_298.out, NB298_286.out, NB287_298.out, NB298_287.out, (by repeat (first | (with_reducible first | exact HB.out | apply below_alloc | apply pw_below_drewN | apply below_drew1 | refine below_set ?_ GE286.out | refine below_set ?_ GE287.out | refine below_set ?_ GE297.out | refine below_set ?_ GE298.out) | exact HB.out))⟩)
                    · skip
                      rintro _ w16 ⟨hS_, h0_, h1_, h2_⟩
                      have n0_ : Aside0 (w16.heap[gb286]? = some (.cells #[.slice A0_0 l0_0.length c0_0, .slice A0_1 l0_1.length c0_1, .int .i64 a0_2, .bool a0_3] 25 (0, 0))) := ⟨h0_⟩
                      have n1_ : Aside0 (w16.heap[gb287]? = some (.cells #[.bool false, .int .i64 0, .int .i64 0, .int .i64 0] 42 (0, 0))) := ⟨h1_⟩
                      have n2_ : Aside0 (Below w.heap.size w w16) := ⟨h2_⟩
                      clear BK286
                      clear BK287
                      clear HB
                      clear h0_ h1_ h2_
                      have BK286 := n0_
                      have BK287 := n1_
                      have HB := n2_
                      clear n0_ n1_ n2_
                      have hHeld : w16.cell? ⟨gb286, 0, none⟩ = some (.slice A0_0 l0_0.length c0_0) ∧ w16.cell? ⟨gb286, 1, none⟩ = some (.slice A0_1 l0_1.length c0_1) ∧ w16.cell? ⟨gb286, 2, none⟩ = some (.int .i64 a0_2) ∧ w16.cell? ⟨gb286, 3, none⟩ = some (.bool a0_3) := hS_
                      refine norm_ (a' := ?_) ?_ ?_
                      rotate_left
                      · simp only [putAll, Act.put, List.setIfInBounds_toArray, List.set_cons_zero, List.set_cons_succ]
                        rfl
                      refine three_ (i := 3) (j := 4) (k := 5) (Ni := some 12) (Nj := some 3) (Nk := some 4) #[true, true, true, true, false, false, false, false] #[true, true, true, false, true, false, false, false] #[true, true, true, false, false, true, false, false] rfl rfl rfl rfl rfl rfl (three_of HT_.out (by kernel_rfl)) (by decide) (by decide) (by decide) (fun K hK => ?_) (fun K hK => ?_) (fun K hK => ?_)
                      · skip
                        refine goes_ Try.func63 (by kernel_rfl) rfl #[.agg #[.slice A0_0 l0_0.length c0_0, .slice A0_1 l0_1.length c0_1, .int .i64 a0_2, .bool a0_3], .int .i64 1] (by rfl) rfl rfl (by (try simp only [List.map_toArray, List.map_cons, List.map_nil]); first | done | rfl | (simp only [List.length_drop, List.length_take]; rfl)) ?_
                        with_reducible refine (impl_Disk_super.calls k _ _ l0_0 _ _ l0_1 a0_2 a0_3 1 t293 t294 t295 t296 _ ?side1 ?side2 ?side3 ?side4 A5.out HBY.out).mono ?_
                        (case side1 => repeat (first | exact (Kd.C_below HR0_0.out HB.out) | (with_reducible refine Kd.C_alloc ?_ _) | (with_reducible refine Kd.C_drewN ?_ _) | (with_reducible refine Kd.C_drew ?_)))
                        (case side2 => exact HC0_0.out)
                        (case side3 => repeat (first | exact (Kd.C_below HR0_1.out HB.out) | (with_reducible refine Kd.C_alloc ?_ _) | (with_reducible refine Kd.C_drewN ?_ _) | (with_reducible refine Kd.C_drew ?_)))
                        (case side4 => exact HC0_1.out)
                        rintro e w17 ⟨rfl, hb⟩
                        refine ⟨_, rfl, ?_⟩
                        have n0_ := Aside0.mk (blk_below (g := gb286) (o := .cells #[.slice A0_0 l0_0.length c0_0, .slice A0_1 l0_1.length c0_1, .int .i64 a0_2, .bool a0_3] 25 (0, 0)) BK286.out hb)
                        have n1_ := Aside0.mk (blk_below (g := gb287) (o := .cells #[.bool false, .int .i64 0, .int .i64 0, .int .i64 0] 42 (0, 0)) BK287.out hb)
                        have n2_ := Aside0.mk (below_step (by repeat (first | (with_reducible first | exact HB.out | apply below_alloc | apply pw_below_drewN | apply below_drew1 | refine below_set ?_ GE286.out | refine below_set ?_ GE287.out) | exact HB.out)) hb)
                        clear BK286
                        clear BK287
                        clear HB
                        have BK286 := n0_
                        have BK287 := n1_
                        have HB := n2_
                        clear n0_ n1_ n2_
                        (try clear hb)
                        (try clear hb2)
                        (try clear hk)
                        (try clear hi)
                        refine hK.out _ _ ⟨(blk_cell BK286.out 0).trans rfl, (blk_cell BK286.out 1).trans rfl, (blk_cell BK286.out 2).trans rfl, (blk_cell BK286.out 3).trans rfl⟩ (fun hHeld => ?_)
                        clear hK K
                        refine norm_ (a' := ?_) ?_ ?_
                        rotate_left
                        · show Act.put _ (some 12) _ = _
                          simp only [Act.put, List.setIfInBounds_toArray, List.set_cons_zero, List.set_cons_succ, i64_w, i32_w]
                          rfl
                        exact norm_ (by first | (simp only [putAll, Act.put, List.setIfInBounds_toArray, List.set_cons_zero, List.set_cons_succ]; done) | (simp only [putAll, Act.put, List.setIfInBounds_toArray, List.set_cons_zero, List.set_cons_succ]; rfl)) (hJ1_3 () _ ⟨hHeld, BK286.out, BK287.out, (by repeat (first | (with_reducible first | exact HB.out | apply below_alloc | apply pw_below_drewN | apply below_drew1 | refine below_set ?_ GE286.out | refine below_set ?_ GE287.out) | exact HB.out))⟩)
                      · skip
                        refine box_step ?hg (N := 3) ?hd (cs := #[.bool false, .int .i64 0, .int .i64 0, .int .i64 0]) (t := 42) ?hr ?_; (case hd => rfl); (case hg => rfl); (case hr => first | (go_simp; done) | (go_simp; rfl))
                        intro gb297 hg w17 hbox hb
                        have n0_ := Aside0.mk (blk_below (g := gb286) (o := .cells #[.slice A0_0 l0_0.length c0_0, .slice A0_1 l0_1.length c0_1, .int .i64 a0_2, .bool a0_3] 25 (0, 0)) BK286.out hb)
                        have n1_ := Aside0.mk (blk_below (g := gb287) (o := .cells #[.bool false, .int .i64 0, .int .i64 0, .int .i64 0] 42 (0, 0)) BK287.out hb)
                        have n2_ := Aside0.mk (below_step (by repeat (first | (with_reducible first | exact HB.out | apply below_alloc | apply pw_below_drewN | apply below_drew1 | refine below_set ?_ GE286.out | refine below_set ?_ GE287.out) | exact HB.out)) hb)
                        have n3_ := Aside0.mk (hbox)
                        have n4_ := Aside0.mk ((by rw [hg]; exact (below_size (by repeat (first | (with_reducible first | exact HB.out | apply below_alloc | apply pw_below_drewN | apply below_drew1 | refine below_set ?_ GE286.out | refine below_set ?_ GE287.out) | exact HB.out))) : w.heap.size ≤ gb297))
                        have n5_ := Aside0.mk ((by rw [hg]; exact (below_size (by repeat (first | (with_reducible first | exact HB.out | apply below_alloc | apply pw_below_drewN | apply below_drew1 | refine below_set ?_ GE286.out | refine below_set ?_ GE287.out) | exact HB.out))) : w.heap.size ≤ gb297))
                        have n6_ := Aside0.mk ((by rw [hg]; exact Nat.ne_of_lt (blk_lt (g := gb286) (o := .cells #[.slice A0_0 l0_0.length c0_0, .slice A0_1 l0_1.length c0_1, .int .i64 a0_2, .bool a0_3] 25 (0, 0)) BK286.out) : gb286 ≠ gb297))
                        have n7_ := Aside0.mk ((by rw [hg]; exact Nat.ne_of_gt (blk_lt (g := gb286) (o := .cells #[.slice A0_0 l0_0.length c0_0, .slice A0_1 l0_1.length c0_1, .int .i64 a0_2, .bool a0_3] 25 (0, 0)) BK286.out) : gb297 ≠ gb286))
                        have n8_ := Aside0.mk ((by rw [hg]; exact Nat.ne_of_lt (blk_lt (g := gb287) (o := .cells #[.bool false, .int .i64 0, .int .i64 0, .int .i64 0] 42 (0, 0)) BK287.out) : gb287 ≠ gb297))
                        have n9_ := Aside0.mk ((by rw [hg]; exact Nat.ne_of_gt (blk_lt (g := gb287) (o := .cells #[.bool false, .int .i64 0, .int .i64 0, .int .i64 0] 42 (0, 0)) BK287.out) : gb297 ≠ gb287))
                        clear BK286
                        clear BK287
                        clear HB
                        have BK286 := n0_
                        have BK287 := n1_
                        have HB := n2_
                        have BK297 := n3_
                        have GW297 := n4_
                        have GE297 := n5_
                        have NB286_297 := n6_
                        have NB297_286 := n7_
                        have NB287_297 := n8_
                        have NB297_287 := n9_
                        clear n0_ n1_ n2_ n3_ n4_ n5_ n6_ n7_ n8_ n9_
                        clear hb hbox hg
                        refine hK.out _ _ ⟨(blk_cell BK286.out 0).trans rfl, (blk_cell BK286.out 1).trans rfl, (blk_cell BK286.out 2).trans rfl, (blk_cell BK286.out 3).trans rfl⟩ (fun hHeld => ?_)
                        clear hK K
                        refine norm_ (a' := ?_) ?_ ?_
                        rotate_left
                        · show Act.put _ (some 3) _ = _
                          simp only [Act.put, List.setIfInBounds_toArray, List.set_cons_zero, List.set_cons_succ, i64_w, i32_w]
                          rfl
                        exact norm_ (by first | (simp only [putAll, Act.put, List.setIfInBounds_toArray, List.set_cons_zero, List.set_cons_succ]; done) | (simp only [putAll, Act.put, List.setIfInBounds_toArray, List.set_cons_zero, List.set_cons_succ]; rfl)) (hJ1_4 (gb297) _ ⟨hHeld, BK286.out, BK287.out, BK297.out, GW297.out, GE297.out, NB286_297.out, NB297_286.out, NB287_297.out, NB297_287.out, (by repeat (first | (with_reducible first | exact HB.out | apply below_alloc | apply pw_below_drewN | apply below_drew1 | refine below_set ?_ GE286.out | refine below_set ?_ GE287.out | refine below_set ?_ GE297.out) | exact HB.out))⟩)
                      · skip
                        refine box_step ?hg (N := 4) ?hd (cs := #[.bool false, .int .i64 0, .int .i64 0, .int .i64 0]) (t := 42) ?hr ?_; (case hd => rfl); (case hg => rfl); (case hr => first | (go_simp; done) | (go_simp; rfl))
                        intro gb298 hg w17 hbox hb
                        have n0_ := Aside0.mk (blk_below (g := gb286) (o := .cells #[.slice A0_0 l0_0.length c0_0, .slice A0_1 l0_1.length c0_1, .int .i64 a0_2, .bool a0_3] 25 (0, 0)) BK286.out hb)
                        have n1_ := Aside0.mk (blk_below (g := gb287) (o := .cells #[.bool false, .int .i64 0, .int .i64 0, .int .i64 0] 42 (0, 0)) BK287.out hb)
                        have n2_ := Aside0.mk (below_step (by repeat (first | (with_reducible first | exact HB.out | apply below_alloc | apply pw_below_drewN | apply below_drew1 | refine below_set ?_ GE286.out | refine below_set ?_ GE287.out) | exact HB.out)) hb)
                        have n3_ := Aside0.mk (hbox)
                        have n4_ := Aside0.mk ((by rw [hg]; exact (below_size (by repeat (first | (with_reducible first | exact HB.out | apply below_alloc | apply pw_below_drewN | apply below_drew1 | refine below_set ?_ GE286.out | refine below_set ?_ GE287.out) | exact HB.out))) : w.heap.size ≤ gb298))
                        have n5_ := Aside0.mk ((by rw [hg]; exact (below_size (by repeat (first | (with_reducible first | exact HB.out | apply below_alloc | apply pw_below_drewN | apply below_drew1 | refine below_set ?_ GE286.out | refine below_set ?_ GE287.out) | exact HB.out))) : w.heap.size ≤ gb298))
                        have n6_ := Aside0.mk ((by rw [hg]; exact Nat.ne_of_lt (blk_lt (g := gb286) (o := .cells #[.slice A0_0 l0_0.length c0_0, .slice A0_1 l0_1.length c0_1, .int .i64 a0_2, .bool a0_3] 25 (0, 0)) BK286.out) : gb286 ≠ gb298))
                        have n7_ := Aside0.mk ((by rw [hg]; exact Nat.ne_of_gt (blk_lt (g := gb286) (o := .cells #[.slice A0_0 l0_0.length c0_0, .slice A0_1 l0_1.length c0_1, .int .i64 a0_2, .bool a0_3] 25 (0, 0)) BK286.out) : gb298 ≠ gb286))
                        have n8_ := Aside0.mk ((by rw [hg]; exact Nat.ne_of_lt (blk_lt (g := gb287) (o := .cells #[.bool false, .int .i64 0, .int .i64 0, .int .i64 0] 42 (0, 0)) BK287.out) : gb287 ≠ gb298))
                        have n9_ := Aside0.mk ((by rw [hg]; exact Nat.ne_of_gt (blk_lt (g := gb287) (o := .cells #[.bool false, .int .i64 0, .int .i64 0, .int .i64 0] 42 (0, 0)) BK287.out) : gb298 ≠ gb287))
                        clear BK286
                        clear BK287
                        clear HB
                        have BK286 := n0_
                        have BK287 := n1_
                        have HB := n2_
                        have BK298 := n3_
                        have GW298 := n4_
                        have GE298 := n5_
                        have NB286_298 := n6_
                        have NB298_286 := n7_
                        have NB287_298 := n8_
                        have NB298_287 := n9_
                        clear n0_ n1_ n2_ n3_ n4_ n5_ n6_ n7_ n8_ n9_
                        clear hb hbox hg
                        refine hK.out _ _ ⟨(blk_cell BK286.out 0).trans rfl, (blk_cell BK286.out 1).trans rfl, (blk_cell BK286.out 2).trans rfl, (blk_cell BK286.out 3).trans rfl⟩ (fun hHeld => ?_)
                        clear hK K
                        refine norm_ (a' := ?_) ?_ ?_
                        rotate_left
                        · show Act.put _ (some 4) _ = _
                          simp only [Act.put, List.setIfInBounds_toArray, List.set_cons_zero, List.set_cons_succ, i64_w, i32_w]
                          rfl
                        exact norm_ (by first | (simp only [putAll, Act.put, List.setIfInBounds_toArray, List.set_cons_zero, List.set_cons_succ]; done) | (simp only [putAll, Act.put, List.setIfInBounds_toArray, List.set_cons_zero, List.set_cons_succ]; rfl)) (hJ1_5 (gb298) _ ⟨hHeld, BK286.out, BK287.out, BK298.out, GW298.out, GE298.out, NB286_298.out, NB298_286.out, NB287_298.out, NB298_287.out, (by repeat (first | (with_reducible first | exact HB.out | apply below_alloc | apply pw_below_drewN | apply below_drew1 | refine below_set ?_ GE286.out | refine below_set ?_ GE287.out | refine below_set ?_ GE298.out) | exact HB.out))⟩)
                  · skip
                    rintro ⟨gb297, gb298⟩ w17 ⟨hS_, h0_, h1_, h2_, h3_, h4_, h5_, h6_, h7_, h8_, h9_, h10_, h11_, h12_, h13_, h14_, h15_, h16_, h17_, h18_⟩
                    have n0_ : Aside0 (w17.heap[gb286]? = some (.cells #[.slice A0_0 l0_0.length c0_0, .slice A0_1 l0_1.length c0_1, .int .i64 a0_2, .bool a0_3] 25 (0, 0))) := ⟨h0_⟩
                    have n1_ : Aside0 (w17.heap[gb287]? = some (.cells #[.bool false, .int .i64 0, .int .i64 0, .int .i64 0] 42 (0, 0))) := ⟨h1_⟩
                    have n2_ : Aside0 (w17.heap[gb297]? = some (.cells #[.bool false, .int .i64 0, .int .i64 0, .int .i64 0] 42 (0, 0))) := ⟨h2_⟩
                    have n3_ : Aside0 (w17.heap[gb298]? = some (.cells #[.bool false, .int .i64 0, .int .i64 0, .int .i64 0] 42 (0, 0))) := ⟨h3_⟩
                    have n4_ : Aside0 (w.heap.size ≤ gb297) := ⟨h4_⟩
                    have n5_ : Aside0 (w.heap.size ≤ gb297) := ⟨h5_⟩
                    have n6_ : Aside0 (gb286 ≠ gb297) := ⟨h6_⟩
                    have n7_ : Aside0 (gb297 ≠ gb286) := ⟨h7_⟩
                    have n8_ : Aside0 (gb287 ≠ gb297) := ⟨h8_⟩
                    have n9_ : Aside0 (gb297 ≠ gb287) := ⟨h9_⟩
                    have n10_ : Aside0 (gb298 ≠ gb297) := ⟨h10_⟩
                    have n11_ : Aside0 (gb297 ≠ gb298) := ⟨h11_⟩
                    have n12_ : Aside0 (w.heap.size ≤ gb298) := ⟨h12_⟩
                    have n13_ : Aside0 (w.heap.size ≤ gb298) := ⟨h13_⟩
                    have n14_ : Aside0 (gb286 ≠ gb298) := ⟨h14_⟩
                    have n15_ : Aside0 (gb298 ≠ gb286) := ⟨h15_⟩
                    have n16_ : Aside0 (gb287 ≠ gb298) := ⟨h16_⟩
                    have n17_ : Aside0 (gb298 ≠ gb287) := ⟨h17_⟩
                    have n18_ : Aside0 (Below w.heap.size w w17) := ⟨h18_⟩
                    clear BK286
                    clear BK287
                    clear HB
                    clear h0_ h1_ h2_ h3_ h4_ h5_ h6_ h7_ h8_ h9_ h10_ h11_ h12_ h13_ h14_ h15_ h16_ h17_ h18_
                    have BK286 := n0_
                    have BK287 := n1_
                    have BK297 := n2_
                    have BK298 := n3_
                    have GW297 := n4_
                    have GE297 := n5_
                    have NB286_297 := n6_
                    have NB297_286 := n7_
                    have NB287_297 := n8_
                    have NB297_287 := n9_
                    have NB298_297 := n10_
                    have NB297_298 := n11_
                    have GW298 := n12_
                    have GE298 := n13_
                    have NB286_298 := n14_
                    have NB298_286 := n15_
                    have NB287_298 := n16_
                    have NB298_287 := n17_
                    have HB := n18_
                    clear n0_ n1_ n2_ n3_ n4_ n5_ n6_ n7_ n8_ n9_ n10_ n11_ n12_ n13_ n14_ n15_ n16_ n17_ n18_
                    have hHeld : w17.cell? ⟨gb286, 0, none⟩ = some (.slice A0_0 l0_0.length c0_0) ∧ w17.cell? ⟨gb286, 1, none⟩ = some (.slice A0_1 l0_1.length c0_1) ∧ w17.cell? ⟨gb286, 2, none⟩ = some (.int .i64 a0_2) ∧ w17.cell? ⟨gb286, 3, none⟩ = some (.bool a0_3) := hS_
                    refine norm_ (a' := ?_) ?_ ?_
                    rotate_left
                    · simp only [putAll, Act.put, List.setIfInBounds_toArray, List.set_cons_zero, List.set_cons_succ]
                      rfl
                    refine one_ (i := 1) (N := some 10) #[true, true, true, false, true, true, false, false] rfl rfl (one_of HT_.out (by kernel_rfl)) (by decide) (fun K hK => ?_)
                    refine goes_ Try.func63 (by kernel_rfl) rfl #[.agg #[.slice A0_0 l0_0.length c0_0, .slice A0_1 l0_1.length c0_1, .int .i64 a0_2, .bool a0_3], .int .i64 0] (by rfl) rfl rfl (by (try simp only [List.map_toArray, List.map_cons, List.map_nil]); first | done | rfl | (simp only [List.length_drop, List.length_take]; rfl)) ?_
                    with_reducible refine (impl_Disk_super.calls k _ _ l0_0 _ _ l0_1 a0_2 a0_3 0 t289 t290 t291 t292 _ ?side1 ?side2 ?side3 ?side4 A4.out HBY.out).mono ?_
                    (case side1 => repeat (first | exact (Kd.C_below HR0_0.out HB.out) | (with_reducible refine Kd.C_alloc ?_ _) | (with_reducible refine Kd.C_drewN ?_ _) | (with_reducible refine Kd.C_drew ?_)))
                    (case side2 => exact HC0_0.out)
                    (case side3 => repeat (first | exact (Kd.C_below HR0_1.out HB.out) | (with_reducible refine Kd.C_alloc ?_ _) | (with_reducible refine Kd.C_drewN ?_ _) | (with_reducible refine Kd.C_drew ?_)))
                    (case side4 => exact HC0_1.out)
                    rintro e w18 ⟨rfl, hb⟩
                    refine ⟨_, rfl, ?_⟩
                    have n0_ := Aside0.mk (blk_below (g := gb286) (o := .cells #[.slice A0_0 l0_0.length c0_0, .slice A0_1 l0_1.length c0_1, .int .i64 a0_2, .bool a0_3] 25 (0, 0)) BK286.out hb)
                    have n1_ := Aside0.mk (blk_below (g := gb287) (o := .cells #[.bool false, .int .i64 0, .int .i64 0, .int .i64 0] 42 (0, 0)) BK287.out hb)
                    have n2_ := Aside0.mk (blk_below (g := gb297) (o := .cells #[.bool false, .int .i64 0, .int .i64 0, .int .i64 0] 42 (0, 0)) BK297.out hb)
                    have n3_ := Aside0.mk (blk_below (g := gb298) (o := .cells #[.bool false, .int .i64 0, .int .i64 0, .int .i64 0] 42 (0, 0)) BK298.out hb)
                    have n4_ := Aside0.mk (below_step (by repeat (first | (with_reducible first | exact HB.out | apply below_alloc | apply pw_below_drewN | apply below_drew1 | refine below_set ?_ GE286.out | refine below_set ?_ GE287.out | refine below_set ?_ GE297.out | refine below_set ?_ GE298.out) | exact HB.out)) hb)
                    clear BK286
                    clear BK287
                    clear BK297
                    clear BK298
                    clear HB
                    have BK286 := n0_
                    have BK287 := n1_
                    have BK297 := n2_
                    have BK298 := n3_
                    have HB := n4_
                    clear n0_ n1_ n2_ n3_ n4_
                    (try clear hb)
                    (try clear hb2)
                    (try clear hk)
                    (try clear hi)
                    refine hK.out _ _ ⟨(blk_cell BK286.out 0).trans rfl, (blk_cell BK286.out 1).trans rfl, (blk_cell BK286.out 2).trans rfl, (blk_cell BK286.out 3).trans rfl⟩ (fun hHeld => ?_)
                    clear hK K
                    refine norm_ (a' := ?_) ?_ ?_
                    rotate_left
                    · show Act.put _ (some 10) _ = _
                      simp only [Act.put, List.setIfInBounds_toArray, List.set_cons_zero, List.set_cons_succ, i64_w, i32_w]
                      rfl
                    exact norm_ (by first | (simp only [putAll, Act.put, List.setIfInBounds_toArray, List.set_cons_zero, List.set_cons_succ]; done) | (simp only [putAll, Act.put, List.setIfInBounds_toArray, List.set_cons_zero, List.set_cons_succ]; rfl)) (hJ1_4_5 (gb297, gb298) _ ⟨hHeld, BK286.out, BK287.out, BK297.out, BK298.out, GW297.out, GE297.out, NB286_297.out, NB297_286.out, NB287_297.out, NB297_287.out, NB298_297.out, NB297_298.out, GW298.out, GE298.out, NB286_298.out, NB298_286.out, NB287_298.out, NB298_287.out, (by repeat (first | (with_reducible first | exact HB.out | apply below_alloc | apply pw_below_drewN | apply below_drew1 | refine below_set ?_ GE286.out | refine below_set ?_ GE287.out | refine below_set ?_ GE297.out | refine below_set ?_ GE298.out) | exact HB.out))⟩)
                · skip
                  rintro gb298 w17 ⟨hS_, h0_, h1_, h2_, h3_, h4_, h5_, h6_, h7_, h8_, h9_⟩
                  have n0_ : Aside0 (w17.heap[gb286]? = some (.cells #[.slice A0_0 l0_0.length c0_0, .slice A0_1 l0_1.length c0_1, .int .i64 a0_2, .bool a0_3] 25 (0, 0))) := ⟨h0_⟩
                  have n1_ : Aside0 (w17.heap[gb287]? = some (.cells #[.bool false, .int .i64 0, .int .i64 0, .int .i64 0] 42 (0, 0))) := ⟨h1_⟩
                  have n2_ : Aside0 (w17.heap[gb298]? = some (.cells #[.bool false, .int .i64 0, .int .i64 0, .int .i64 0] 42 (0, 0))) := ⟨h2_⟩
                  have n3_ : Aside0 (w.heap.size ≤ gb298) := ⟨h3_⟩
                  have n4_ : Aside0 (w.heap.size ≤ gb298) := ⟨h4_⟩
                  have n5_ : Aside0 (gb286 ≠ gb298) := ⟨h5_⟩
                  have n6_ : Aside0 (gb298 ≠ gb286) := ⟨h6_⟩
                  have n7_ : Aside0 (gb287 ≠ gb298) := ⟨h7_⟩
                  have n8_ : Aside0 (gb298 ≠ gb287) := ⟨h8_⟩
                  have n9_ : Aside0 (Below w.heap.size w w17) := ⟨h9_⟩
                  clear BK286
                  clear BK287
                  clear HB
                  clear h0_ h1_ h2_ h3_ h4_ h5_ h6_ h7_ h8_ h9_
                  have BK286 := n0_
                  have BK287 := n1_
                  have BK298 := n2_
                  have GW298 := n3_
                  have GE298 := n4_
                  have NB286_298 := n5_
                  have NB298_286 := n6_
                  have NB287_298 := n7_
                  have NB298_287 := n8_
                  have HB := n9_
                  clear n0_ n1_ n2_ n3_ n4_ n5_ n6_ n7_ n8_ n9_
                  have hHeld : w17.cell? ⟨gb286, 0, none⟩ = some (.slice A0_0 l0_0.length c0_0) ∧ w17.cell? ⟨gb286, 1, none⟩ = some (.slice A0_1 l0_1.length c0_1) ∧ w17.cell? ⟨gb286, 2, none⟩ = some (.int .i64 a0_2) ∧ w17.cell? ⟨gb286, 3, none⟩ = some (.bool a0_3) := hS_
                  refine norm_ (a' := ?_) ?_ ?_
                  rotate_left
                  · simp only [putAll, Act.put, List.setIfInBounds_toArray, List.set_cons_zero, List.set_cons_succ]
                    rfl
                  refine two_ (i := 3) (j := 4) (Ni := some 12) (Nj := some 3) #[true, true, true, true, false, true, false, false] #[true, true, true, false, true, true, false, false] rfl rfl rfl rfl (two_of HT_.out (by kernel_rfl)) (by decide) (by decide) (fun K hK => ?_) (fun K hK => ?_)
                  · skip
                    refine goes_ Try.func63 (by kernel_rfl) rfl #[.agg #[.slice A0_0 l0_0.length c0_0, .slice A0_1 l0_1.length c0_1, .int .i64 a0_2, .bool a0_3], .int .i64 1] (by rfl) rfl rfl (by (try simp only [List.map_toArray, List.map_cons, List.map_nil]); first | done | rfl | (simp only [List.length_drop, List.length_take]; rfl)) ?_
                    with_reducible refine (impl_Disk_super.calls k _ _ l0_0 _ _ l0_1 a0_2 a0_3 1 t293 t294 t295 t296 _ ?side1 ?side2 ?side3 ?side4 A5.out HBY.out).mono ?_
                    (case side1 => repeat (first | exact (Kd.C_below HR0_0.out HB.out) | (with_reducible refine Kd.C_alloc ?_ _) | (with_reducible refine Kd.C_drewN ?_ _) | (with_reducible refine Kd.C_drew ?_)))
                    (case side2 => exact HC0_0.out)
                    (case side3 => repeat (first | exact (Kd.C_below HR0_1.out HB.out) | (with_reducible refine Kd.C_alloc ?_ _) | (with_reducible refine Kd.C_drewN ?_ _) | (with_reducible refine Kd.C_drew ?_)))
                    (case side4 => exact HC0_1.out)
                    rintro e w18 ⟨rfl, hb⟩
                    refine ⟨_, rfl, ?_⟩
                    have n0_ := Aside0.mk (blk_below (g := gb286) (o := .cells #[.slice A0_0 l0_0.length c0_0, .slice A0_1 l0_1.length c0_1, .int .i64 a0_2, .bool a0_3] 25 (0, 0)) BK286.out hb)
                    have n1_ := Aside0.mk (blk_below (g := gb287) (o := .cells #[.bool false, .int .i64 0, .int .i64 0, .int .i64 0] 42 (0, 0)) BK287.out hb)
                    have n2_ := Aside0.mk (blk_below (g := gb298) (o := .cells #[.bool false, .int .i64 0, .int .i64 0, .int .i64 0] 42 (0, 0)) BK298.out hb)
                    have n3_ := Aside0.mk (below_step (by repeat (first | (with_reducible first | exact HB.out | apply below_alloc | apply pw_below_drewN | apply below_drew1 | refine below_set ?_ GE286.out | refine below_set ?_ GE287.out | refine below_set ?_ GE298.out) | exact HB.out)) hb)
                    clear BK286
                    clear BK287
                    clear BK298
                    clear HB
                    have BK286 := n0_
                    have BK287 := n1_
                    have BK298 := n2_
                    have HB := n3_
                    clear n0_ n1_ n2_ n3_
                    (try clear hb)
                    (try clear hb2)
                    (try clear hk)
                    (try clear hi)
                    refine hK.out _ _ ⟨(blk_cell BK286.out 0).trans rfl, (blk_cell BK286.out 1).trans rfl, (blk_cell BK286.out 2).trans rfl, (blk_cell BK286.out 3).trans rfl⟩ (fun hHeld => ?_)
                    clear hK K
                    refine norm_ (a' := ?_) ?_ ?_
                    rotate_left
                    · show Act.put _ (some 12) _ = _
                      simp only [Act.put, List.setIfInBounds_toArray, List.set_cons_zero, List.set_cons_succ, i64_w, i32_w]
                      rfl
                    exact norm_ (by first | (simp only [putAll, Act.put, List.setIfInBounds_toArray, List.set_cons_zero, List.set_cons_succ]; done) | (simp only [putAll, Act.put, List.setIfInBounds_toArray, List.set_cons_zero, List.set_cons_succ]; rfl)) (hJ1_3_5 (gb298) _ ⟨hHeld, BK286.out, BK287.out, BK298.out, GW298.out, GE298.out, NB286_298.out, NB298_286.out, NB287_298.out, NB298_287.out, (by repeat (first | (with_reducible first | exact HB.out | apply below_alloc | apply pw_below_drewN | apply below_drew1 | refine below_set ?_ GE286.out | refine below_set ?_ GE287.out | refine below_set ?_ GE298.out) | exact HB.out))⟩)
                  · skip
                    refine box_step ?hg (N := 3) ?hd (cs := #[.bool false, .int .i64 0, .int .i64 0, .int .i64 0]) (t := 42) ?hr ?_; (case hd => rfl); (case hg => rfl); (case hr => first | (go_simp; done) | (go_simp; rfl))
                    intro gb297 hg w18 hbox hb
                    have n0_ := Aside0.mk (blk_below (g := gb286) (o := .cells #[.slice A0_0 l0_0.length c0_0, .slice A0_1 l0_1.length c0_1, .int .i64 a0_2, .bool a0_3] 25 (0, 0)) BK286.out hb)
                    have n1_ := Aside0.mk (blk_below (g := gb287) (o := .cells #[.bool false, .int .i64 0, .int .i64 0, .int .i64 0] 42 (0, 0)) BK287.out hb)
                    have n2_ := Aside0.mk (blk_below (g := gb298) (o := .cells #[.bool false, .int .i64 0, .int .i64 0, .int .i64 0] 42 (0, 0)) BK298.out hb)
                    have n3_ := Aside0.mk (below_step (by repeat (first | (with_reducible first | exact HB.out | apply below_alloc | apply pw_below_drewN | apply below_drew1 | refine below_set ?_ GE286.out | refine below_set ?_ GE287.out | refine below_set ?_ GE298.out) | exact HB.out)) hb)
                    have n4_ := Aside0.mk (hbox)
                    have n5_ := Aside0.mk ((by rw [hg]; exact (below_size (by repeat (first | (with_reducible first | exact HB.out | apply below_alloc | apply pw_below_drewN | apply below_drew1 | refine below_set ?_ GE286.out | refine below_set ?_ GE287.out | refine below_set ?_ GE298.out) | exact HB.out))) : w.heap.size ≤ gb297))
                    have n6_ := Aside0.mk ((by rw [hg]; exact (below_size (by repeat (first | (with_reducible first | exact HB.out | apply below_alloc | apply pw_below_drewN | apply below_drew1 | refine below_set ?_ GE286.out | refine below_set ?_ GE287.out | refine below_set ?_ GE298.out) | exact HB.out))) : w.heap.size ≤ gb297))
                    have n7_ := Aside0.mk ((by rw [hg]; exact Nat.ne_of_lt (blk_lt (g := gb286) (o := .cells #[.slice A0_0 l0_0.length c0_0, .slice A0_1 l0_1.length c0_1, .int .i64 a0_2, .bool a0_3] 25 (0, 0)) BK286.out) : gb286 ≠ gb297))
                    have n8_ := Aside0.mk ((by rw [hg]; exact Nat.ne_of_gt (blk_lt (g := gb286) (o := .cells #[.slice A0_0 l0_0.length c0_0, .slice A0_1 l0_1.length c0_1, .int .i64 a0_2, .bool a0_3] 25 (0, 0)) BK286.out) : gb297 ≠ gb286))
                    have n9_ := Aside0.mk ((by rw [hg]; exact Nat.ne_of_lt (blk_lt (g := gb287) (o := .cells #[.bool false, .int .i64 0, .int .i64 0, .int .i64 0] 42 (0, 0)) BK287.out) : gb287 ≠ gb297))
                    have n10_ := Aside0.mk ((by rw [hg]; exact Nat.ne_of_gt (blk_lt (g := gb287) (o := .cells #[.bool false, .int .i64 0, .int .i64 0, .int .i64 0] 42 (0, 0)) BK287.out) : gb297 ≠ gb287))
                    have n11_ := Aside0.mk ((by rw [hg]; exact Nat.ne_of_lt (blk_lt (g := gb298) (o := .cells #[.bool false, .int .i64 0, .int .i64 0, .int .i64 0] 42 (0, 0)) BK298.out) : gb298 ≠ gb297))
                    have n12_ := Aside0.mk ((by rw [hg]; exact Nat.ne_of_gt (blk_lt (g := gb298) (o := .cells #[.bool false, .int .i64 0, .int .i64 0, .int .i64 0] 42 (0, 0)) BK298.out) : gb297 ≠ gb298))
                    clear BK286
                    clear BK287
                    clear BK298
                    clear HB
                    have BK286 := n0_
                    have BK287 := n1_
                    have BK298 := n2_
                    have HB := n3_
                    have BK297 := n4_
                    have GW297 := n5_
                    have GE297 := n6_
                    have NB286_297 := n7_
                    have NB297_286 := n8_
                    have NB287_297 := n9_
                    have NB297_287 := n10_
                    have NB298_297 := n11_
                    have NB297_298 := n12_
                    clear n0_ n1_ n2_ n3_ n4_ n5_ n6_ n7_ n8_ n9_ n10_ n11_ n12_
                    clear hb hbox hg
                    refine hK.out _ _ ⟨(blk_cell BK286.out 0).trans rfl, (blk_cell BK286.out 1).trans rfl, (blk_cell BK286.out 2).trans rfl, (blk_cell BK286.out 3).trans rfl⟩ (fun hHeld => ?_)
                    clear hK K
                    refine norm_ (a' := ?_) ?_ ?_
                    rotate_left
                    · show Act.put _ (some 3) _ = _
                      simp only [Act.put, List.setIfInBounds_toArray, List.set_cons_zero, List.set_cons_succ, i64_w, i32_w]
                      rfl
                    exact norm_ (by first | (simp only [putAll, Act.put, List.setIfInBounds_toArray, List.set_cons_zero, List.set_cons_succ]; done) | (simp only [putAll, Act.put, List.setIfInBounds_toArray, List.set_cons_zero, List.set_cons_succ]; rfl)) (hJ1_4_5 (gb297, gb298) _ ⟨hHeld, BK286.out, BK287.out, BK297.out, BK298.out, GW297.out, GE297.out, NB286_297.out, NB297_286.out, NB287_297.out, NB297_287.out, NB298_297.out, NB297_298.out, GW298.out, GE298.out, NB286_298.out, NB298_286.out, NB287_298.out, NB298_287.out, (by repeat (first | (with_reducible first | exact HB.out | apply below_alloc | apply pw_below_drewN | apply below_drew1 | refine below_set ?_ GE286.out | refine below_set ?_ GE287.out | refine below_set ?_ GE298.out | refine below_set ?_ GE297.out) | exact HB.out))⟩)
              · skip
                rintro gb297 w17 ⟨hS_, h0_, h1_, h2_, h3_, h4_, h5_, h6_, h7_, h8_, h9_⟩
                have n0_ : Aside0 (w17.heap[gb286]? = some (.cells #[.slice A0_0 l0_0.length c0_0, .slice A0_1 l0_1.length c0_1, .int .i64 a0_2, .bool a0_3] 25 (0, 0))) := ⟨h0_⟩
                have n1_ : Aside0 (w17.heap[gb287]? = some (.cells #[.bool false, .int .i64 0, .int .i64 0, .int .i64 0] 42 (0, 0))) := ⟨h1_⟩
                have n2_ : Aside0 (w17.heap[gb297]? = some (.cells #[.bool false, .int .i64 0, .int .i64 0, .int .i64 0] 42 (0, 0))) := ⟨h2_⟩
                have n3_ : Aside0 (w.heap.size ≤ gb297) := ⟨h3_⟩
                have n4_ : Aside0 (w.heap.size ≤ gb297) := ⟨h4_⟩
                have n5_ : Aside0 (gb286 ≠ gb297) := ⟨h5_⟩
                have n6_ : Aside0 (gb297 ≠ gb286) := ⟨h6_⟩
                have n7_ : Aside0 (gb287 ≠ gb297) := ⟨h7_⟩
                have n8_ : Aside0 (gb297 ≠ gb287) := ⟨h8_⟩
                have n9_ : Aside0 (Below w.heap.size w w17) := ⟨h9_⟩
                clear BK286
                clear BK287
                clear HB
                clear h0_ h1_ h2_ h3_ h4_ h5_ h6_ h7_ h8_ h9_
                have BK286 := n0_
                have BK287 := n1_
                have BK297 := n2_
                have GW297 := n3_
                have GE297 := n4_
                have NB286_297 := n5_
                have NB297_286 := n6_
                have NB287_297 := n7_
                have NB297_287 := n8_
                have HB := n9_
                clear n0_ n1_ n2_ n3_ n4_ n5_ n6_ n7_ n8_ n9_
                have hHeld : w17.cell? ⟨gb286, 0, none⟩ = some (.slice A0_0 l0_0.length c0_0) ∧ w17.cell? ⟨gb286, 1, none⟩ = some (.slice A0_1 l0_1.length c0_1) ∧ w17.cell? ⟨gb286, 2, none⟩ = some (.int .i64 a0_2) ∧ w17.cell? ⟨gb286, 3, none⟩ = some (.bool a0_3) := hS_
                refine norm_ (a' := ?_) ?_ ?_
                rotate_left
                · simp only [putAll, Act.put, List.setIfInBounds_toArray, List.set_cons_zero, List.set_cons_succ]
                  rfl
                refine two_ (i := 3) (j := 5) (Ni := some 12) (Nj := some 4) #[true, true, true, true, true, false, false, false] #[true, true, true, false, true, true, false, false] rfl rfl rfl rfl (two_of HT_.out (by kernel_rfl)) (by decide) (by decide) (fun K hK => ?_) (fun K hK => ?_)
                · skip
                  refine goes_ Try.func63 (by kernel_rfl) rfl #[.agg #[.slice A0_0 l0_0.length c0_0, .slice A0_1 l0_1.length c0_1, .int .i64 a0_2, .bool a0_3], .int .i64 1] (by rfl) rfl rfl (by (try simp only [List.map_toArray, List.map_cons, List.map_nil]); first | done | rfl | (simp only [List.length_drop, List.length_take]; rfl)) ?_
                  with_reducible refine (impl_Disk_super.calls k _ _ l0_0 _ _ l0_1 a0_2 a0_3 1 t293 t294 t295 t296 _ ?side1 ?side2 ?side3 ?side4 A5.out HBY.out).mono ?_
                  (case side1 => repeat (first | exact (Kd.C_below HR0_0.out HB.out) | (with_reducible refine Kd.C_alloc ?_ _) | (with_reducible refine Kd.C_drewN ?_ _) | (with_reducible refine Kd.C_drew ?_)))
                  (case side2 => exact HC0_0.out)
                  (case side3 => repeat (first | exact (Kd.C_below HR0_1.out HB.out) | (with_reducible refine Kd.C_alloc ?_ _) | (with_reducible refine Kd.C_drewN ?_ _) | (with_reducible refine Kd.C_drew ?_)))
                  (case side4 => exact HC0_1.out)
                  rintro e w18 ⟨rfl, hb⟩
                  refine ⟨_, rfl, ?_⟩
                  have n0_ := Aside0.mk (blk_below (g := gb286) (o := .cells #[.slice A0_0 l0_0.length c0_0, .slice A0_1 l0_1.length c0_1, .int .i64 a0_2, .bool a0_3] 25 (0, 0)) BK286.out hb)
                  have n1_ := Aside0.mk (blk_below (g := gb287) (o := .cells #[.bool false, .int .i64 0, .int .i64 0, .int .i64 0] 42 (0, 0)) BK287.out hb)
                  have n2_ := Aside0.mk (blk_below (g := gb297) (o := .cells #[.bool false, .int .i64 0, .int .i64 0, .int .i64 0] 42 (0, 0)) BK297.out hb)
                  have n3_ := Aside0.mk (below_step (by repeat (first | (with_reducible first | exact HB.out | apply below_alloc | apply pw_below_drewN | apply below_drew1 | refine below_set ?_ GE286.out | refine below_set ?_ GE287.out | refine below_set ?_ GE297.out) | exact HB.out)) hb)
                  clear BK286
                  clear BK287
                  clear BK297
                  clear HB
                  have BK286 := n0_
                  have BK287 := n1_
                  have BK297 := n2_
                  have HB := n3_
                  clear n0_ n1_ n2_ n3_
                  (try clear hb)
                  (try clear hb2)
                  (try clear hk)
                  (try clear hi)
                  refine hK.out _ _ ⟨(blk_cell BK286.out 0).trans rfl, (blk_cell BK286.out 1).trans rfl, (blk_cell BK286.out 2).trans rfl, (blk_cell BK286.out 3).trans rfl⟩ (fun hHeld => ?_)
                  clear hK K
                  refine norm_ (a' := ?_) ?_ ?_
                  rotate_left
                  · show Act.put _ (some 12) _ = _
                    simp only [Act.put, List.setIfInBounds_toArray, List.set_cons_zero, List.set_cons_succ, i64_w, i32_w]
                    rfl
                  exact norm_ (by first | (simp only [putAll, Act.put, List.setIfInBounds_toArray, List.set_cons_zero, List.set_cons_succ]; done) | (simp only [putAll, Act.put, List.setIfInBounds_toArray, List.set_cons_zero, List.set_cons_succ]; rfl)) (hJ1_3_4 (gb297) _ ⟨hHeld, BK286.out, BK287.out, BK297.out, GW297.out, GE297.out, NB286_297.out, NB297_286.out, NB287_297.out, NB297_287.out, (by repeat (first | (with_reducible first | exact HB.out | apply below_alloc | apply pw_below_drewN | apply below_drew1 | refine below_set ?_ GE286.out | refine below_set ?_ GE287.out | refine below_set ?_ GE297.out) | exact HB.out))⟩)
                · skip
                  refine box_step ?hg (N := 4) ?hd (cs := #[.bool false, .int .i64 0, .int .i64 0, .int .i64 0]) (t := 42) ?hr ?_; (case hd => rfl); (case hg => rfl); (case hr => first | (go_simp; done) | (go_simp; rfl))
                  intro gb298 hg w18 hbox hb
                  have n0_ := Aside0.mk (blk_below (g := gb286) (o := .cells #[.slice A0_0 l0_0.length c0_0, .slice A0_1 l0_1.length c0_1, .int .i64 a0_2, .bool a0_3] 25 (0, 0)) BK286.out hb)
                  have n1_ := Aside0.mk (blk_below (g := gb287) (o := .cells #[.bool false, .int .i64 0, .int .i64 0, .int .i64 0] 42 (0, 0)) BK287.out hb)
                  have n2_ := Aside0.mk (blk_below (g := gb297) (o := .cells #[.bool false, .int .i64 0, .int .i64 0, .int .i64 0] 42 (0, 0)) BK297.out hb)
                  have n3_ := Aside0.mk (below_step (by repeat (first | (with_reducible first | exact HB.out | apply below_alloc | apply pw_below_drewN | apply below_drew1 | refine below_set ?_ GE286.out | refine below_set ?_ GE287.out | refine below_set ?_ GE297.out) | exact HB.out)) hb)
                  have n4_ := Aside0.mk (hbox)
                  have n5_ := Aside0.mk ((by rw [hg]; exact (below_size (by repeat (first | (with_reducible first | exact HB.out | apply below_alloc | apply pw_below_drewN | apply below_drew1 | refine below_set ?_ GE286.out | refine below_set ?_ GE287.out | refine below_set ?_ GE297.out) | exact HB.out))) : w.heap.size ≤ gb298))
                  have n6_ := Aside0.mk ((by rw [hg]; exact (below_size (by repeat (first | (with_reducible first | exact HB.out | apply below_alloc | apply pw_below_drewN | apply below_drew1 | refine below_set ?_ GE286.out | refine below_set ?_ GE287.out | refine below_set ?_ GE297.out) | exact HB.out))) : w.heap.size ≤ gb298))
                  have n7_ := Aside0.mk ((by rw [hg]; exact Nat.ne_of_lt (blk_lt (g := gb286) (o := .cells #[.slice A0_0 l0_0.length c0_0, .slice A0_1 l0_1.length c0_1, .int .i64 a0_2, .bool a0_3] 25 (0, 0)) BK286.out) : gb286 ≠ gb298))
                  have n8_ := Aside0.mk ((by rw [hg]; exact Nat.ne_of_gt (blk_lt (g := gb286) (o := .cells #[.slice A0_0 l0_0.length c0_0, .slice A0_1 l0_1.length c0_1, .int .i64 a0_2, .bool a0_3] 25 (0, 0)) BK286.out) : gb298 ≠ gb286))
                  have n9_ := Aside0.mk ((by rw [hg]; exact Nat.ne_of_lt (blk_lt (g := gb287) (o := .cells #[.bool false, .int .i64 0, .int .i64 0, .int .i64 0] 42 (0, 0)) BK287.out) : gb287 ≠ gb298))
                  have n10_ := Aside0.mk ((by rw [hg]; exact Nat.ne_of_gt (blk_lt (g := gb287) (o := .cells #[.bool false, .int .i64 0, .int .i64 0, .int .i64 0] 42 (0, 0)) BK287.out) : gb298 ≠ gb287))
                  have n11_ := Aside0.mk ((by rw [hg]; exact Nat.ne_of_lt (blk_lt (g := gb297) (o := .cells #[.bool false, .int .i64 0, .int .i64 0, .int .i64 0] 42 (0, 0)) BK297.out) : gb297 ≠ gb298))
                  have n12_ := Aside0.mk ((by rw [hg]; exact Nat.ne_of_gt (blk_lt (g := gb297) (o := .cells #[.bool false, .int .i64 0, .int .i64 0, .int .i64 0] 42 (0, 0)) BK297.out) : gb298 ≠ gb297))
                  clear BK286
                  clear BK287
                  clear BK297
                  clear HB
                  have BK286 := n0_
                  have BK287 := n1_
                  have BK297 := n2_
                  have HB := n3_
                  have BK298 := n4_
                  have GW298 := n5_
                  have GE298 := n6_
                  have NB286_298 := n7_
                  have NB298_286 := n8_
                  have NB287_298 := n9_
                  have NB298_287 := n10_
                  have NB297_298 := n11_
                  have NB298_297 := n12_
                  clear n0_ n1_ n2_ n3_ n4_ n5_ n6_ n7_ n8_ n9_ n10_ n11_ n12_
                  clear hb hbox hg
                  refine hK.out _ _ ⟨(blk_cell BK286.out 0).trans rfl, (blk_cell BK286.out 1).trans rfl, (blk_cell BK286.out 2).trans rfl, (blk_cell BK286.out 3).trans rfl⟩ (fun hHeld => ?_)
                  clear hK K
                  refine norm_ (a' := ?_) ?_ ?_
                  rotate_left
                  · show Act.put _ (some 4) _ = _
                    simp only [Act.put, List.setIfInBounds_toArray, List.set_cons_zero, List.set_cons_succ, i64_w, i32_w]
                    rfl
                  exact norm_ (by first | (simp only [putAll, Act.put, List.setIfInBounds_toArray, List.set_cons_zero, List.set_cons_succ]; done) | (simp only [putAll, Act.put, List.setIfInBounds_toArray, List.set_cons_zero, List.set_cons_succ]; rfl)) (hJ1_4_5 (gb297, gb298) _ ⟨hHeld, BK286.out, BK287.out, BK297.out, BK298.out, GW297.out, GE297.out, NB286_297.out, NB297_286.out, NB287_297.out, NB297_287.out, NB298_297.out, NB297_298.out, GW298.out, GE298.out, NB286_298.out, NB298_286.out, NB287_298.out, NB298_287.out, (by repeat (first | (with_reducible first | exact HB.out | apply below_alloc | apply pw_below_drewN | apply below_drew1 | refine below_set ?_ GE286.out | refine below_set ?_ GE287.out | refine below_set ?_ GE297.out | refine below_set ?_ GE298.out) | exact HB.out))⟩)
            · skip
              rintro _ w17 ⟨hS_, h0_, h1_, h2_⟩
              have n0_ : Aside0 (w17.heap[gb286]? = some (.cells #[.slice A0_0 l0_0.length c0_0, .slice A0_1 l0_1.length c0_1, .int .i64 a0_2, .bool a0_3] 25 (0, 0))) := ⟨h0_⟩
              have n1_ : Aside0 (w17.heap[gb287]? = some (.cells #[.bool false, .int .i64 0, .int .i64 0, .int .i64 0] 42 (0, 0))) := ⟨h1_⟩
              have n2_ : Aside0 (Below w.heap.size w w17) := ⟨h2_⟩
              clear BK286
              clear BK287
              clear HB
              clear h0_ h1_ h2_
              have BK286 := n0_
              have BK287 := n1_
              have HB := n2_
              clear n0_ n1_ n2_
              have hHeld : w17.cell? ⟨gb286, 0, none⟩ = some (.slice A0_0 l0_0.length c0_0) ∧ w17.cell? ⟨gb286, 1, none⟩ = some (.slice A0_1 l0_1.length c0_1) ∧ w17.cell? ⟨gb286, 2, none⟩ = some (.int .i64 a0_2) ∧ w17.cell? ⟨gb286, 3, none⟩ = some (.bool a0_3) := hS_
              refine norm_ (a' := ?_) ?_ ?_
              rotate_left
              · simp only [putAll, Act.put, List.setIfInBounds_toArray, List.set_cons_zero, List.set_cons_succ]
                rfl
              refine two_ (i := 4) (j := 5) (Ni := some 3) (Nj := some 4) #[true, true, true, true, true, false, false, false] #[true, true, true, true, false, true, false, false] rfl rfl rfl rfl (two_of HT_.out (by kernel_rfl)) (by decide) (by decide) (fun K hK => ?_) (fun K hK => ?_)
              · skip
                refine box_step ?hg (N := 3) ?hd (cs := #[.bool false, .int .i64 0, .int .i64 0, .int .i64 0]) (t := 42) ?hr ?_; (case hd => rfl); (case hg => rfl); (case hr => first | (go_simp; done) | (go_simp; rfl))
                intro gb297 hg w18 hbox hb
                have n0_ := Aside0.mk (blk_below (g := gb286) (o := .cells #[.slice A0_0 l0_0.length c0_0, .slice A0_1 l0_1.length c0_1, .int .i64 a0_2, .bool a0_3] 25 (0, 0)) BK286.out hb)
                have n1_ := Aside0.mk (blk_below (g := gb287) (o := .cells #[.bool false, .int .i64 0, .int .i64 0, .int .i64 0] 42 (0, 0)) BK287.out hb)
                have n2_ := Aside0.mk (below_step (by repeat (first | (with_reducible first | exact HB.out | apply below_alloc | apply pw_below_drewN | apply below_drew1 | refine below_set ?_ GE286.out | refine below_set ?_ GE287.out) | exact HB.out)) hb)
                have n3_ := Aside0.mk (hbox)
                have n4_ := Aside0.mk ((by rw [hg]; exact (below_size (by repeat (first | (with_reducible first | exact HB.out | apply below_alloc | apply pw_below_drewN | apply below_drew1 | refine below_set ?_ GE286.out | refine below_set ?_ GE287.out) | exact HB.out))) : w.heap.size ≤ gb297))
                have n5_ := Aside0.mk ((by rw [hg]; exact (below_size (by repeat (first | (with_reducible first | exact HB.out | apply below_alloc | apply pw_below_drewN | apply below_drew1 | refine below_set ?_ GE286.out | refine below_set ?_ GE287.out) | exact HB.out))) : w.heap.size ≤ gb297))
                have n6_ := Aside0.mk ((by rw [hg]; exact Nat.ne_of_lt (blk_lt (g := gb286) (o := .cells #[.slice A0_0 l0_0.length c0_0, .slice A0_1 l0_1.length c0_1, .int .i64 a0_2, .bool a0_3] 25 (0, 0)) BK286.out) : gb286 ≠ gb297))
                have n7_ := Aside0.mk ((by rw [hg]; exact Nat.ne_of_gt (blk_lt (g := gb286) (o := .cells #[.slice A0_0 l0_0.length c0_0, .slice A0_1 l0_1.length c0_1, .int .i64 a0_2, .bool a0_3] 25 (0, 0)) BK286.out) : gb297 ≠ gb286))
                have n8_ := Aside0.mk ((by rw [hg]; exact Nat.ne_of_lt (blk_lt (g := gb287) (o := .cells #[.bool false, .int .i64 0, .int .i64 0, .int .i64 0] 42 (0, 0)) BK287.out) : gb287 ≠ gb297))
                have n9_ := Aside0.mk ((by rw [hg]; exact Nat.ne_of_gt (blk_lt (g := gb287) (o := .cells #[.bool false, .int .i64 0, .int .i64 0, .int .i64 0] 42 (0, 0)) BK287.out) : gb297 ≠ gb287))
                clear BK286
                clear BK287
                clear HB
                have BK286 := n0_
                have BK287 := n1_
                have HB := n2_
                have BK297 := n3_
                have GW297 := n4_
                have GE297 := n5_
                have NB286_297 := n6_
                have NB297_286 := n7_
                have NB287_297 := n8_
                have NB297_287 := n9_
                clear n0_ n1_ n2_ n3_ n4_ n5_ n6_ n7_ n8_ n9_
                clear hb hbox hg
                refine hK.out _ _ ⟨(blk_cell BK286.out 0).trans rfl, (blk_cell BK286.out 1).trans rfl, (blk_cell BK286.out 2).trans rfl, (blk_cell BK286.out 3).trans rfl⟩ (fun hHeld => ?_)
                clear hK K
                refine norm_ (a' := ?_) ?_ ?_
                rotate_left
                · show Act.put _ (some 3) _ = _
                  simp only [Act.put, List.setIfInBounds_toArray, List.set_cons_zero, List.set_cons_succ, i64_w, i32_w]
                  rfl
                exact norm_ (by first | (simp only [putAll, Act.put, List.setIfInBounds_toArray, List.set_cons_zero, List.set_cons_succ]; done) | (simp only [putAll, Act.put, List.setIfInBounds_toArray, List.set_cons_zero, List.set_cons_succ]; rfl)) (hJ1_3_4 (gb297) _ ⟨hHeld, BK286.out, BK287.out, BK297.out, GW297.out, GE297.out, NB286_297.out, NB297_286.out, NB287_297.out, NB297_287.out, (by repeat (first | (with_reducible first | exact HB.out | apply below_alloc | apply pw_below_drewN | apply below_drew1 | refine below_set ?_ GE286.out | refine below_set ?_ GE287.out | refine below_set ?_ GE297.out) | exact HB.out))⟩)
              · skip
                refine box_step ?hg (N := 4) ?hd (cs := #[.bool false, .int .i64 0, .int .i64 0, .int .i64 0]) (t := 42) ?hr ?_; (case hd => rfl); (case hg => rfl); (case hr => first | (go_simp; done) | (go_simp; rfl))
                intro gb298 hg w18 hbox hb
                have n0_ := Aside0.mk (blk_below (g := gb286) (o := .cells #[.slice A0_0 l0_0.length c0_0, .slice A0_1 l0_1.length c0_1, .int .i64 a0_2, .bool a0_3] 25 (0, 0)) BK286.out hb)
                have n1_ := Aside0.mk (blk_below (g := gb287) (o := .cells #[.bool false, .int .i64 0, .int .i64 0, .int .i64 0] 42 (0, 0)) BK287.out hb)
                have n2_ := Aside0.mk (below_step (by repeat (first | (with_reducible first | exact HB.out | apply below_alloc | apply pw_below_drewN | apply below_drew1 | refine below_set ?_ GE286.out | refine below_set ?_ GE287.out) | exact HB.out)) hb)
                have n3_ := Aside0.mk (hbox)
                have n4_ := Aside0.mk ((by rw [hg]; exact (below_size (by repeat (first | (with_reducible first | exact HB.out | apply below_alloc | apply pw_below_drewN | apply below_drew1 | refine below_set ?_ GE286.out | refine below_set ?_ GE287.out) | exact HB.out))) : w.heap.size ≤ gb298))
                have n5_ := Aside0.mk ((by rw [hg]; exact (below_size (by repeat (first | (with_reducible first | exact HB.out | apply below_alloc | apply pw_below_drewN | apply below_drew1 | refine below_set ?_ GE286.out | refine below_set ?_ GE287.out) | exact HB.out))) : w.heap.size ≤ gb298))
                have n6_ := Aside0.mk ((by rw [hg]; exact Nat.ne_of_lt (blk_lt (g := gb286) (o := .cells #[.slice A0_0 l0_0.length c0_0, .slice A0_1 l0_1.length c0_1, .int .i64 a0_2, .bool a0_3] 25 (0, 0)) BK286.out) : gb286 ≠ gb298))
                have n7_ := Aside0.mk ((by rw [hg]; exact Nat.ne_of_gt (blk_lt (g := gb286) (o := .cells #[.slice A0_0 l0_0.length c0_0, .slice A0_1 l0_1.length c0_1, .int .i64 a0_2, .bool a0_3] 25 (0, 0)) BK286.out) : gb298 ≠ gb286))
                have n8_ := Aside0.mk ((by rw [hg]; exact Nat.ne_of_lt (blk_lt (g := gb287) (o := .cells #[.bool false, .int .i64 0, .int .i64 0, .int .i64 0] 42 (0, 0)) BK287.out) : gb287 ≠ gb298))
                have n9_ := Aside0.mk ((by rw [hg]; exact Nat.ne_of_gt (blk_lt (g := gb287) (o := .cells #[.bool false, .int .i64 0, .int .i64 0, .int .i64 0] 42 (0, 0)) BK287.out) : gb298 ≠ gb287))
                clear BK286
                clear BK287
                clear HB
                have BK286 := n0_
                have BK287 := n1_
                have HB := n2_
                have BK298 := n3_
                have GW298 := n4_
                have GE298 := n5_
                have NB286_298 := n6_
                have NB298_286 := n7_
                have NB287_298 := n8_
                have NB298_287 := n9_
                clear n0_ n1_ n2_ n3_ n4_ n5_ n6_ n7_ n8_ n9_
                clear hb hbox hg
                refine hK.out _ _ ⟨(blk_cell BK286.out 0).trans rfl, (blk_cell BK286.out 1).trans rfl, (blk_cell BK286.out 2).trans rfl, (blk_cell BK286.out 3).trans rfl⟩ (fun hHeld => ?_)
                clear hK K
                refine norm_ (a' := ?_) ?_ ?_
                rotate_left
                · show Act.put _ (some 4) _ = _
                  simp only [Act.put, List.setIfInBounds_toArray, List.set_cons_zero, List.set_cons_succ, i64_w, i32_w]
                  rfl
                exact norm_ (by first | (simp only [putAll, Act.put, List.setIfInBounds_toArray, List.set_cons_zero, List.set_cons_succ]; done) | (simp only [putAll, Act.put, List.setIfInBounds_toArray, List.set_cons_zero, List.set_cons_succ]; rfl)) (hJ1_3_5 (gb298) _ ⟨hHeld, BK286.out, BK287.out, BK298.out, GW298.out, GE298.out, NB286_298.out, NB298_286.out, NB287_298.out, NB298_287.out, (by repeat (first | (with_reducible first | exact HB.out | apply below_alloc | apply pw_below_drewN | apply below_drew1 | refine below_set ?_ GE286.out | refine below_set ?_ GE287.out | refine below_set ?_ GE298.out) | exact HB.out))⟩)
          · skip
            rintro ⟨gb297, gb298⟩ w18 ⟨hS_, h0_, h1_, h2_, h3_, h4_, h5_, h6_, h7_, h8_, h9_, h10_, h11_, h12_, h13_, h14_, h15_, h16_, h17_, h18_⟩
            have n0_ : Aside0 (w18.heap[gb286]? = some (.cells #[.slice A0_0 l0_0.length c0_0, .slice A0_1 l0_1.length c0_1, .int .i64 a0_2, .bool a0_3] 25 (0, 0))) := ⟨h0_⟩
            have n1_ : Aside0 (w18.heap[gb287]? = some (.cells #[.bool false, .int .i64 0, .int .i64 0, .int .i64 0] 42 (0, 0))) := ⟨h1_⟩
            have n2_ : Aside0 (w18.heap[gb297]? = some (.cells #[.bool false, .int .i64 0, .int .i64 0, .int .i64 0] 42 (0, 0))) := ⟨h2_⟩
            have n3_ : Aside0 (w18.heap[gb298]? = some (.cells #[.bool false, .int .i64 0, .int .i64 0, .int .i64 0] 42 (0, 0))) := ⟨h3_⟩
            have n4_ : Aside0 (w.heap.size ≤ gb297) := ⟨h4_⟩
            have n5_ : Aside0 (w.heap.size ≤ gb297) := ⟨h5_⟩
            have n6_ : Aside0 (gb286 ≠ gb297) := ⟨h6_⟩
            have n7_ : Aside0 (gb297 ≠ gb286) := ⟨h7_⟩
            have n8_ : Aside0 (gb287 ≠ gb297) := ⟨h8_⟩
            have n9_ : Aside0 (gb297 ≠ gb287) := ⟨h9_⟩
            have n10_ : Aside0 (gb298 ≠ gb297) := ⟨h10_⟩
            have n11_ : Aside0 (gb297 ≠ gb298) := ⟨h11_⟩
            have n12_ : Aside0 (w.heap.size ≤ gb298) := ⟨h12_⟩
            have n13_ : Aside0 (w.heap.size ≤ gb298) := ⟨h13_⟩
            have n14_ : Aside0 (gb286 ≠ gb298) := ⟨h14_⟩
            have n15_ : Aside0 (gb298 ≠ gb286) := ⟨h15_⟩
            have n16_ : Aside0 (gb287 ≠ gb298) := ⟨h16_⟩
            have n17_ : Aside0 (gb298 ≠ gb287) := ⟨h17_⟩
            have n18_ : Aside0 (Below w.heap.size w w18) := ⟨h18_⟩
            clear BK286
            clear BK287
            clear HB
            clear h0_ h1_ h2_ h3_ h4_ h5_ h6_ h7_ h8_ h9_ h10_ h11_ h12_ h13_ h14_ h15_ h16_ h17_ h18_
            have BK286 := n0_
            have BK287 := n1_
            have BK297 := n2_
            have BK298 := n3_
            have GW297 := n4_
            have GE297 := n5_
            have NB286_297 := n6_
            have NB297_286 := n7_
            have NB287_297 := n8_
            have NB297_287 := n9_
            have NB298_297 := n10_
            have NB297_298 := n11_
            have GW298 := n12_
            have GE298 := n13_
            have NB286_298 := n14_
            have NB298_286 := n15_
            have NB287_298 := n16_
            have NB298_287 := n17_
            have HB := n18_
            clear n0_ n1_ n2_ n3_ n4_ n5_ n6_ n7_ n8_ n9_ n10_ n11_ n12_ n13_ n14_ n15_ n16_ n17_ n18_
            have hHeld : w18.cell? ⟨gb286, 0, none⟩ = some (.slice A0_0 l0_0.length c0_0) ∧ w18.cell? ⟨gb286, 1, none⟩ = some (.slice A0_1 l0_1.length c0_1) ∧ w18.cell? ⟨gb286, 2, none⟩ = some (.int .i64 a0_2) ∧ w18.cell? ⟨gb286, 3, none⟩ = some (.bool a0_3) := hS_
            refine norm_ (a' := ?_) ?_ ?_
            rotate_left
            · simp only [putAll, Act.put, List.setIfInBounds_toArray, List.set_cons_zero, List.set_cons_succ]
              rfl
            refine one_ (i := 3) (N := some 12) #[true, true, true, true, true, true, false, false] rfl rfl (one_of HT_.out (by kernel_rfl)) (by decide) (fun K hK => ?_)
            refine goes_ Try.func63 (by kernel_rfl) rfl #[.agg #[.slice A0_0 l0_0.length c0_0, .slice A0_1 l0_1.length c0_1, .int .i64 a0_2, .bool a0_3], .int .i64 1] (by rfl) rfl rfl (by (try simp only [List.map_toArray, List.map_cons, List.map_nil]); first | done | rfl | (simp only [List.length_drop, List.length_take]; rfl)) ?_
            with_reducible refine (impl_Disk_super.calls k _ _ l0_0 _ _ l0_1 a0_2 a0_3 1 t293 t294 t295 t296 _ ?side1 ?side2 ?side3 ?side4 A5.out HBY.out).mono ?_
            (case side1 => repeat (first | exact (Kd.C_below HR0_0.out HB.out) | (with_reducible refine Kd.C_alloc ?_ _) | (with_reducible refine Kd.C_drewN ?_ _) | (with_reducible refine Kd.C_drew ?_)))
            (case side2 => exact HC0_0.out)
            (case side3 => repeat (first | exact (Kd.C_below HR0_1.out HB.out) | (with_reducible refine Kd.C_alloc ?_ _) | (with_reducible refine Kd.C_drewN ?_ _) | (with_reducible refine Kd.C_drew ?_)))
            (case side4 => exact HC0_1.out)
            rintro e w19 ⟨rfl, hb⟩
            refine ⟨_, rfl, ?_⟩
            have n0_ := Aside0.mk (blk_below (g := gb286) (o := .cells #[.slice A0_0 l0_0.length c0_0, .slice A0_1 l0_1.length c0_1, .int .i64 a0_2, .bool a0_3] 25 (0, 0)) BK286.out hb)
            have n1_ := Aside0.mk (blk_below (g := gb287) (o := .cells #[.bool false, .int .i64 0, .int .i64 0, .int .i64 0] 42 (0, 0)) BK287.out hb)
            have n2_ := Aside0.mk (blk_below (g := gb297) (o := .cells #[.bool false, .int .i64 0, .int .i64 0, .int .i64 0] 42 (0, 0)) BK297.out hb)
            have n3_ := Aside0.mk (blk_below (g := gb298) (o := .cells #[.bool false, .int .i64 0, .int .i64 0, .int .i64 0] 42 (0, 0)) BK298.out hb)
            have n4_ := Aside0.mk (below_step (by repeat (first | (with_reducible first | exact HB.out | apply below_alloc | apply pw_below_drewN | apply below_drew1 | refine below_set ?_ GE286.out | refine below_set ?_ GE287.out | refine below_set ?_ GE297.out | refine below_set ?_ GE298.out) | exact HB.out)) hb)
            clear BK286
            clear BK287
            clear BK297
            clear BK298
            clear HB
            have BK286 := n0_
            have BK287 := n1_
            have BK297 := n2_
            have BK298 := n3_
            have HB := n4_
            clear n0_ n1_ n2_ n3_ n4_
            (try clear hb)
            (try clear hb2)
            (try clear hk)
            (try clear hi)
            refine hK.out _ _ ⟨(blk_cell BK286.out 0).trans rfl, (blk_cell BK286.out 1).trans rfl, (blk_cell BK286.out 2).trans rfl, (blk_cell BK286.out 3).trans rfl⟩ (fun hHeld => ?_)
            clear hK K
            refine norm_ (a' := ?_) ?_ ?_
            rotate_left
            · show Act.put _ (some 12) _ = _
              simp only [Act.put, List.setIfInBounds_toArray, List.set_cons_zero, List.set_cons_succ, i64_w, i32_w]
              rfl
            exact norm_ (by first | (simp only [putAll, Act.put, List.setIfInBounds_toArray, List.set_cons_zero, List.set_cons_succ]; done) | (simp only [putAll, Act.put, List.setIfInBounds_toArray, List.set_cons_zero, List.set_cons_succ]; rfl)) (hJ1_3_4_5 (gb297, gb298) _ ⟨hHeld, BK286.out, BK287.out, BK297.out, BK298.out, GW297.out, GE297.out, NB286_297.out, NB297_286.out, NB287_297.out, NB297_287.out, NB298_297.out, NB297_298.out, GW298.out, GE298.out, NB286_298.out, NB298_286.out, NB287_298.out, NB298_287.out, (by repeat (first | (with_reducible first | exact HB.out | apply below_alloc | apply pw_below_drewN | apply below_drew1 | refine below_set ?_ GE286.out | refine below_set ?_ GE287.out | refine below_set ?_ GE297.out | refine below_set ?_ GE298.out) | exact HB.out))⟩)
        · skip
          rintro gb298 w18 ⟨hS_, h0_, h1_, h2_, h3_, h4_, h5_, h6_, h7_, h8_, h9_⟩
          have n0_ : Aside0 (w18.heap[gb286]? = some (.cells #[.slice A0_0 l0_0.length c0_0, .slice A0_1 l0_1.length c0_1, .int .i64 a0_2, .bool a0_3] 25 (0, 0))) := ⟨h0_⟩
          have n1_ : Aside0 (w18.heap[gb287]? = some (.cells #[.bool false, .int .i64 0, .int .i64 0, .int .i64 0] 42 (0, 0))) := ⟨h1_⟩
          have n2_ : Aside0 (w18.heap[gb298]? = some (.cells #[.bool false, .int .i64 0, .int .i64 0, .int .i64 0] 42 (0, 0))) := ⟨h2_⟩
          have n3_ : Aside0 (w.heap.size ≤ gb298) := ⟨h3_⟩
          have n4_ : Aside0 (w.heap.size ≤ gb298) := ⟨h4_⟩
          have n5_ : Aside0 (gb286 ≠ gb298) := ⟨h5_⟩
          have n6_ : Aside0 (gb298 ≠ gb286) := ⟨h6_⟩
          have n7_ : Aside0 (gb287 ≠ gb298) := ⟨h7_⟩
          have n8_ : Aside0 (gb298 ≠ gb287) := ⟨h8_⟩
          have n9_ : Aside0 (Below w.heap.size w w18) := ⟨h9_⟩
          clear BK286
          clear BK287
          clear HB
          clear h0_ h1_ h2_ h3_ h4_ h5_ h6_ h7_ h8_ h9_
          have BK286 := n0_
          have BK287 := n1_
          have BK298 := n2_
          have GW298 := n3_
          have GE298 := n4_
          have NB286_298 := n5_
          have NB298_286 := n6_
          have NB287_298 := n7_
          have NB298_287 := n8_
          have HB := n9_
          clear n0_ n1_ n2_ n3_ n4_ n5_ n6_ n7_ n8_ n9_
          have hHeld : w18.cell? ⟨gb286, 0, none⟩ = some (.slice A0_0 l0_0.length c0_0) ∧ w18.cell? ⟨gb286, 1, none⟩ = some (.slice A0_1 l0_1.length c0_1) ∧ w18.cell? ⟨gb286, 2, none⟩ = some (.int .i64 a0_2) ∧ w18.cell? ⟨gb286, 3, none⟩ = some (.bool a0_3) := hS_
          refine norm_ (a' := ?_) ?_ ?_
          rotate_left
          · simp only [putAll, Act.put, List.setIfInBounds_toArray, List.set_cons_zero, List.set_cons_succ]
            rfl
          refine one_ (i := 4) (N := some 3) #[true, true, true, true, true, true, false, false] rfl rfl (one_of HT_.out (by kernel_rfl)) (by decide) (fun K hK => ?_)
          refine box_step ?hg (N := 3) ?hd (cs := #[.bool false, .int .i64 0, .int .i64 0, .int .i64 0]) (t := 42) ?hr ?_; (case hd => rfl); (case hg => rfl); (case hr => first | (go_simp; done) | (go_simp; rfl))
          intro gb297 hg w19 hbox hb
          have n0_ := Aside0.mk (blk_below (g := gb286) (o := .cells #[.slice A0_0 l0_0.length c0_0, .slice A0_1 l0_1.length c0_1, .int .i64 a0_2, .bool a0_3] 25 (0, 0)) BK286.out hb)
          have n1_ := Aside0.mk (blk_below (g := gb287) (o := .cells #[.bool false, .int .i64 0, .int .i64 0, .int .i64 0] 42 (0, 0)) BK287.out hb)
          have n2_ := Aside0.mk (blk_below (g := gb298) (o := .cells #[.bool false, .int .i64 0, .int .i64 0, .int .i64 0] 42 (0, 0)) BK298.out hb)
          have n3_ := Aside0.mk (below_step (by repeat (first | (with_reducible first | exact HB.out | apply below_alloc | apply pw_below_drewN | apply below_drew1 | refine below_set ?_ GE286.out | refine below_set ?_ GE287.out | refine below_set ?_ GE298.out) | exact HB.out)) hb)
          have n4_ := Aside0.mk (hbox)
          have n5_ := Aside0.mk ((by rw [hg]; exact (below_size (by repeat (first | (with_reducible first | exact HB.out | apply below_alloc | apply pw_below_drewN | apply below_drew1 | refine below_set ?_ GE286.out | refine below_set ?_ GE287.out | refine below_set ?_ GE298.out) | exact HB.out))) : w.heap.size ≤ gb297))
          have n6_ := Aside0.mk ((by rw [hg]; exact (below_size (by repeat (first | (with_reducible first | exact HB.out | apply below_alloc | apply pw_below_drewN | apply below_drew1 | refine below_set ?_ GE286.out | refine below_set ?_ GE287.out | refine below_set ?_ GE298.out) | exact HB.out))) : w.heap.size ≤ gb297))
          have n7_ := Aside0.mk ((by rw [hg]; exact Nat.ne_of_lt (blk_lt (g := gb286) (o := .cells #[.slice A0_0 l0_0.length c0_0, .slice A0_1 l0_1.length c0_1, .int .i64 a0_2, .bool a0_3] 25 (0, 0)) BK286.out) : gb286 ≠ gb297))
          have n8_ := Aside0.mk ((by rw [hg]; exact Nat.ne_of_gt (blk_lt (g := gb286) (o := .cells #[.slice A0_0 l0_0.length c0_0, .slice A0_1 l0_1.length c0_1, .int .i64 a0_2, .bool a0_3] 25 (0, 0)) BK286.out) : gb297 ≠ gb286))
          have n9_ := Aside0.mk ((by rw [hg]; exact Nat.ne_of_lt (blk_lt (g := gb287) (o := .cells #[.bool false, .int .i64 0, .int .i64 0, .int .i64 0] 42 (0, 0)) BK287.out) : gb287 ≠ gb297))
          have n10_ := Aside0.mk ((by rw [hg]; exact Nat.ne_of_gt (blk_lt (g := gb287) (o := .cells #[.bool false, .int .i64 0, .int .i64 0, .int .i64 0] 42 (0, 0)) BK287.out) : gb297 ≠ gb287))
          have n11_ := Aside0.mk ((by rw [hg]; exact Nat.ne_of_lt (blk_lt (g := gb298) (o := .cells #[.bool false, .int .i64 0, .int .i64 0, .int .i64 0] 42 (0, 0)) BK298.out) : gb298 ≠ gb297))
          have n12_ := Aside0.mk ((by rw [hg]; exact Nat.ne_of_gt (blk_lt (g := gb298) (o := .cells #[.bool false, .int .i64 0, .int .i64 0, .int .i64 0] 42 (0, 0)) BK298.out) : gb297 ≠ gb298))
          clear BK286
          clear BK287
          clear BK298
          clear HB
          have BK286 := n0_
          have BK287 := n1_
          have BK298 := n2_
          have HB := n3_
          have BK297 := n4_
          have GW297 := n5_
          have GE297 := n6_
          have NB286_297 := n7_
          have NB297_286 := n8_
          have NB287_297 := n9_
          have NB297_287 := n10_
          have NB298_297 := n11_
          have NB297_298 := n12_
          clear n0_ n1_ n2_ n3_ n4_ n5_ n6_ n7_ n8_ n9_ n10_ n11_ n12_
          clear hb hbox hg
          refine hK.out _ _ ⟨(blk_cell BK286.out 0).trans rfl, (blk_cell BK286.out 1).trans rfl, (blk_cell BK286.out 2).trans rfl, (blk_cell BK286.out 3).trans rfl⟩ (fun hHeld => ?_)
          clear hK K
          refine norm_ (a' := ?_) ?_ ?_
          rotate_left
          · show Act.put _ (some 3) _ = _
            simp only [Act.put, List.setIfInBounds_toArray, List.set_cons_zero, List.set_cons_succ, i64_w, i32_w]
            rfl
          exact norm_ (by first | (simp only [putAll, Act.put, List.setIfInBounds_toArray, List.set_cons_zero, List.set_cons_succ]; done) | (simp only [putAll, Act.put, List.setIfInBounds_toArray, List.set_cons_zero, List.set_cons_succ]; rfl)) (hJ1_3_4_5 (gb297, gb298) _ ⟨hHeld, BK286.out, BK287.out, BK297.out, BK298.out, GW297.out, GE297.out, NB286_297.out, NB297_286.out, NB287_297.out, NB297_287.out, NB298_297.out, NB297_298.out, GW298.out, GE298.out, NB286_298.out, NB298_286.out, NB287_298.out, NB298_287.out, (by repeat (first | (with_reducible first | exact HB.out | apply below_alloc | apply pw_below_drewN | apply below_drew1 | refine below_set ?_ GE286.out | refine below_set ?_ GE287.out | refine below_set ?_ GE298.out | refine below_set ?_ GE297.out) | exact HB.out))⟩)
      · skip
        rintro gb297 w18 ⟨hS_, h0_, h1_, h2_, h3_, h4_, h5_, h6_, h7_, h8_, h9_⟩
        have n0_ : Aside0 (w18.heap[gb286]? = some (.cells #[.slice A0_0 l0_0.length c0_0, .slice A0_1 l0_1.length c0_1, .int .i64 a0_2, .bool a0_3] 25 (0, 0))) := ⟨h0_⟩
        have n1_ : Aside0 (w18.heap[gb287]? = some (.cells #[.bool false, .int .i64 0, .int .i64 0, .int .i64 0] 42 (0, 0))) := ⟨h1_⟩
        have n2_ : Aside0 (w18.heap[gb297]? = some (.cells #[.bool false, .int .i64 0, .int .i64 0, .int .i64 0] 42 (0, 0))) := ⟨h2_⟩
        have n3_ : Aside0 (w.heap.size ≤ gb297) := ⟨h3_⟩
        have n4_ : Aside0 (w.heap.size ≤ gb297) := ⟨h4_⟩
        have n5_ : Aside0 (gb286 ≠ gb297) := ⟨h5_⟩
        have n6_ : Aside0 (gb297 ≠ gb286) := ⟨h6_⟩
        have n7_ : Aside0 (gb287 ≠ gb297) := ⟨h7_⟩
        have n8_ : Aside0 (gb297 ≠ gb287) := ⟨h8_⟩
        have n9_ : Aside0 (Below w.heap.size w w18) := ⟨h9_⟩
        clear BK286
        clear BK287
        clear HB
        clear h0_ h1_ h2_ h3_ h4_ h5_ h6_ h7_ h8_ h9_
        have BK286 := n0_
        have BK287 := n1_
        have BK297 := n2_
        have GW297 := n3_
        have GE297 := n4_
        have NB286_297 := n5_
        have NB297_286 := n6_
        have NB287_297 := n7_
        have NB297_287 := n8_
        have HB := n9_
        clear n0_ n1_ n2_ n3_ n4_ n5_ n6_ n7_ n8_ n9_
        have hHeld : w18.cell? ⟨gb286, 0, none⟩ = some (.slice A0_0 l0_0.length c0_0) ∧ w18.cell? ⟨gb286, 1, none⟩ = some (.slice A0_1 l0_1.length c0_1) ∧ w18.cell? ⟨gb286, 2, none⟩ = some (.int .i64 a0_2) ∧ w18.cell? ⟨gb286, 3, none⟩ = some (.bool a0_3) := hS_
        refine norm_ (a' := ?_) ?_ ?_
        rotate_left
        · simp only [putAll, Act.put, List.setIfInBounds_toArray, List.set_cons_zero, List.set_cons_succ]
          rfl
        refine one_ (i := 5) (N := some 4) #[true, true, true, true, true, true, false, false] rfl rfl (one_of HT_.out (by kernel_rfl)) (by decide) (fun K hK => ?_)
        refine box_step ?hg (N := 4) ?hd (cs := #[.bool false, .int .i64 0, .int .i64 0, .int .i64 0]) (t := 42) ?hr ?_; (case hd => rfl); (case hg => rfl); (case hr => first | (go_simp; done) | (go_simp; rfl))
        intro gb298 hg w19 hbox hb
        have n0_ := Aside0.mk (blk_below (g := gb286) (o := .cells #[.slice A0_0 l0_0.length c0_0, .slice A0_1 l0_1.length c0_1, .int .i64 a0_2, .bool a0_3] 25 (0, 0)) BK286.out hb)
        have n1_ := Aside0.mk (blk_below (g := gb287) (o := .cells #[.bool false, .int .i64 0, .int .i64 0, .int .i64 0] 42 (0, 0)) BK287.out hb)
        have n2_ := Aside0.mk (blk_below (g := gb297) (o := .cells #[.bool false, .int .i64 0, .int .i64 0, .int .i64 0] 42 (0, 0)) BK297.out hb)
        have n3_ := Aside0.mk (below_step (by repeat (first | (with_reducible first | exact HB.out | apply below_alloc | apply pw_below_drewN | apply below_drew1 | refine below_set ?_ GE286.out | refine below_set ?_ GE287.out | refine below_set ?_ GE297.out) | exact HB.out)) hb)
        have n4_ := Aside0.mk (hbox)
        have n5_ := Aside0.mk ((by rw [hg]; exact (below_size (by repeat (first | (with_reducible first | exact HB.out | apply below_alloc | apply pw_below_drewN | apply below_drew1 | refine below_set ?_ GE286.out | refine below_set ?_ GE287.out | refine below_set ?_ GE297.out) | exact HB.out))) : w.heap.size ≤ gb298))
        have n6_ := Aside0.mk ((by rw [hg]; exact (below_size (by repeat (first | (with_reducible first | exact HB.out | apply below_alloc | apply pw_below_drewN | apply below_drew1 | refine below_set ?_ GE286.out | refine below_set ?_ GE287.out | refine below_set ?_ GE297.out) | exact HB.out))) : w.heap.size ≤ gb298))
        have n7_ := Aside0.mk ((by rw [hg]; exact Nat.ne_of_lt (blk_lt (g := gb286) (o := .cells #[.slice A0_0 l0_0.length c0_0, .slice A0_1 l0_1.length c0_1, .int .i64 a0_2, .bool a0_3] 25 (0, 0)) BK286.out) : gb286 ≠ gb298))
        have n8_ := Aside0.mk ((by rw [hg]; exact Nat.ne_of_gt (blk_lt (g := gb286) (o := .cells #[.slice A0_0 l0_0.length c0_0, .slice A0_1 l0_1.length c0_1, .int .i64 a0_2, .bool a0_3] 25 (0, 0)) BK286.out) : gb298 ≠ gb286))
        have n9_ := Aside0.mk ((by rw [hg]; exact Nat.ne_of_lt (blk_lt (g := gb287) (o := .cells #[.bool false, .int .i64 0, .int .i64 0, .int .i64 0] 42 (0, 0)) BK287.out) : gb287 ≠ gb298))
        have n10_ := Aside0.mk ((by rw [hg]; exact Nat.ne_of_gt (blk_lt (g := gb287) (o := .cells #[.bool false, .int .i64 0, .int .i64 0, .int .i64 0] 42 (0, 0)) BK287.out) : gb298 ≠ gb287))
        have n11_ := Aside0.mk ((by rw [hg]; exact Nat.ne_of_lt (blk_lt (g := gb297) (o := .cells #[.bool false, .int .i64 0, .int .i64 0, .int .i64 0] 42 (0, 0)) BK297.out) : gb297 ≠ gb298))
        have n12_ := Aside0.mk ((by rw [hg]; exact Nat.ne_of_gt (blk_lt (g := gb297) (o := .cells #[.bool false, .int .i64 0, .int .i64 0, .int .i64 0] 42 (0, 0)) BK297.out) : gb298 ≠ gb297))
        clear BK286
        clear BK287
        clear BK297
        clear HB
        have BK286 := n0_
        have BK287 := n1_
        have BK297 := n2_
        have HB := n3_
        have BK298 := n4_
        have GW298 := n5_
        have GE298 := n6_
        have NB286_298 := n7_
        have NB298_286 := n8_
        have NB287_298 := n9_
        have NB298_287 := n10_
        have NB297_298 := n11_
        have NB298_297 := n12_
        clear n0_ n1_ n2_ n3_ n4_ n5_ n6_ n7_ n8_ n9_ n10_ n11_ n12_
        clear hb hbox hg
        refine hK.out _ _ ⟨(blk_cell BK286.out 0).trans rfl, (blk_cell BK286.out 1).trans rfl, (blk_cell BK286.out 2).trans rfl, (blk_cell BK286.out 3).trans rfl⟩ (fun hHeld => ?_)
        clear hK K
        refine norm_ (a' := ?_) ?_ ?_
        rotate_left
        · show Act.put _ (some 4) _ = _
          simp only [Act.put, List.setIfInBounds_toArray, List.set_cons_zero, List.set_cons_succ, i64_w, i32_w]
          rfl
        exact norm_ (by first | (simp only [putAll, Act.put, List.setIfInBounds_toArray, List.set_cons_zero, List.set_cons_succ]; done) | (simp only [putAll, Act.put, List.setIfInBounds_toArray, List.set_cons_zero, List.set_cons_succ]; rfl)) (hJ1_3_4_5 (gb297, gb298) _ ⟨hHeld, BK286.out, BK287.out, BK297.out, BK298.out, GW297.out, GE297.out, NB286_297.out, NB297_286.out, NB287_297.out, NB297_287.out, NB298_297.out, NB297_298.out, GW298.out, GE298.out, NB286_298.out, NB298_286.out, NB287_298.out, NB298_287.out, (by repeat (first | (with_reducible first | exact HB.out | apply below_alloc | apply pw_below_drewN | apply below_drew1 | refine below_set ?_ GE286.out | refine below_set ?_ GE287.out | refine below_set ?_ GE297.out | refine below_set ?_ GE298.out) | exact HB.out))⟩)
    rintro ⟨gb297, gb298⟩ w19 ⟨hS_, h0_, h1_, h2_, h3_, h4_, h5_, h6_, h7_, h8_, h9_, h10_, h11_, h12_, h13_, h14_, h15_, h16_, h17_, h18_⟩
    have n0_ : Aside0 (w19.heap[gb286]? = some (.cells #[.slice A0_0 l0_0.length c0_0, .slice A0_1 l0_1.length c0_1, .int .i64 a0_2, .bool a0_3] 25 (0, 0))) := ⟨h0_⟩
    have n1_ : Aside0 (w19.heap[gb287]? = some (.cells #[.bool false, .int .i64 0, .int .i64 0, .int .i64 0] 42 (0, 0))) := ⟨h1_⟩
    have n2_ : Aside0 (w19.heap[gb297]? = some (.cells #[.bool false, .int .i64 0, .int .i64 0, .int .i64 0] 42 (0, 0))) := ⟨h2_⟩
    have n3_ : Aside0 (w19.heap[gb298]? = some (.cells #[.bool false, .int .i64 0, .int .i64 0, .int .i64 0] 42 (0, 0))) := ⟨h3_⟩
    have n4_ : Aside0 (w.heap.size ≤ gb297) := ⟨h4_⟩
    have n5_ : Aside0 (w.heap.size ≤ gb297) := ⟨h5_⟩
    have n6_ : Aside0 (gb286 ≠ gb297) := ⟨h6_⟩
    have n7_ : Aside0 (gb297 ≠ gb286) := ⟨h7_⟩
    have n8_ : Aside0 (gb287 ≠ gb297) := ⟨h8_⟩
    have n9_ : Aside0 (gb297 ≠ gb287) := ⟨h9_⟩
    have n10_ : Aside0 (gb298 ≠ gb297) := ⟨h10_⟩
    have n11_ : Aside0 (gb297 ≠ gb298) := ⟨h11_⟩
    have n12_ : Aside0 (w.heap.size ≤ gb298) := ⟨h12_⟩
    have n13_ : Aside0 (w.heap.size ≤ gb298) := ⟨h13_⟩
    have n14_ : Aside0 (gb286 ≠ gb298) := ⟨h14_⟩
    have n15_ : Aside0 (gb298 ≠ gb286) := ⟨h15_⟩
    have n16_ : Aside0 (gb287 ≠ gb298) := ⟨h16_⟩
    have n17_ : Aside0 (gb298 ≠ gb287) := ⟨h17_⟩
    have n18_ : Aside0 (Below w.heap.size w w19) := ⟨h18_⟩
    clear BK286
    clear BK287
    clear HB
    clear h0_ h1_ h2_ h3_ h4_ h5_ h6_ h7_ h8_ h9_ h10_ h11_ h12_ h13_ h14_ h15_ h16_ h17_ h18_
    have BK286 := n0_
    have BK287 := n1_
    have BK297 := n2_
    have BK298 := n3_
    have GW297 := n4_
    have GE297 := n5_
    have NB286_297 := n6_
    have NB297_286 := n7_
    have NB287_297 := n8_
    have NB297_287 := n9_
    have NB298_297 := n10_
    have NB297_298 := n11_
    have GW298 := n12_
    have GE298 := n13_
    have NB286_298 := n14_
    have NB298_286 := n15_
    have NB287_298 := n16_
    have NB298_287 := n17_
    have HB := n18_
    clear n0_ n1_ n2_ n3_ n4_ n5_ n6_ n7_ n8_ n9_ n10_ n11_ n12_ n13_ n14_ n15_ n16_ n17_ n18_
    have hHeld : w19.cell? ⟨gb286, 0, none⟩ = some (.slice A0_0 l0_0.length c0_0) ∧ w19.cell? ⟨gb286, 1, none⟩ = some (.slice A0_1 l0_1.length c0_1) ∧ w19.cell? ⟨gb286, 2, none⟩ = some (.int .i64 a0_2) ∧ w19.cell? ⟨gb286, 3, none⟩ = some (.bool a0_3) := hS_
    refine norm_ (a' := ?_) ?_ ?_
    rotate_left
    · simp only [putAll, Act.put, List.setIfInBounds_toArray, List.set_cons_zero, List.set_cons_succ]
      rfl
    refine one_ (i := 6) (N := none) #[true, true, true, true, true, true, true, false] rfl rfl (one_of HT_.out (by kernel_rfl)) (by decide) (fun K hK => ?_)
    have hs4 : w19.cell? ⟨gb297, 0, none⟩ = some (.bool false) := (blk_cell BK297.out 0).trans rfl
    have hfs5 := blk_frozen BK297.out 0
    have hns6_0 := NB286_297.out
    have hns6_1 := NB287_297.out
    have hns6_3 := NB298_297.out
    have hms7_0 := NB297_286.out
    have hms7_1 := NB297_287.out
    have hms7_3 := NB297_298.out
    have hs8 : w19.cell? ⟨gb297, 1, none⟩ = some (.int .i64 0) := (blk_cell BK297.out 1).trans rfl
    have hfs9 := blk_frozen BK297.out 1
    have hns10_0 := NB286_297.out
    have hns10_1 := NB287_297.out
    have hns10_3 := NB298_297.out
    have hms11_0 := NB297_286.out
    have hms11_1 := NB297_287.out
    have hms11_3 := NB297_298.out
    have hs12 : w19.cell? ⟨gb297, 2, none⟩ = some (.int .i64 0) := (blk_cell BK297.out 2).trans rfl
    have hfs13 := blk_frozen BK297.out 2
    have hns14_0 := NB286_297.out
    have hns14_1 := NB287_297.out
    have hns14_3 := NB298_297.out
    have hms15_0 := NB297_286.out
    have hms15_1 := NB297_287.out
    have hms15_3 := NB297_298.out
    have hs16 : w19.cell? ⟨gb297, 3, none⟩ = some (.int .i64 0) := (blk_cell BK297.out 3).trans rfl
    have hfs17 := blk_frozen BK297.out 3
    have hns18_0 := NB286_297.out
    have hns18_1 := NB287_297.out
    have hns18_3 := NB298_297.out
    have hms19_0 := NB297_286.out
    have hms19_1 := NB297_287.out
    have hms19_3 := NB297_298.out
    refine skip_ (w1 := ?_) (by rfl) rfl ?_ ?_
    rotate_left
    · go_simp
      rfl
    refine hK.out _ _ ⟨((cell_far (p := ⟨gb297, _, none⟩) NB286_297.out _).trans (((cell_far (p := ⟨gb297, _, none⟩) NB286_297.out _).trans (((cell_far (p := ⟨gb297, _, none⟩) NB286_297.out _).trans (((cell_far (p := ⟨gb297, _, none⟩) NB286_297.out _).trans (hHeld.1)))))))), ((cell_far (p := ⟨gb297, _, none⟩) NB286_297.out _).trans (((cell_far (p := ⟨gb297, _, none⟩) NB286_297.out _).trans (((cell_far (p := ⟨gb297, _, none⟩) NB286_297.out _).trans (((cell_far (p := ⟨gb297, _, none⟩) NB286_297.out _).trans (hHeld.2.1)))))))), ((cell_far (p := ⟨gb297, _, none⟩) NB286_297.out _).trans (((cell_far (p := ⟨gb297, _, none⟩) NB286_297.out _).trans (((cell_far (p := ⟨gb297, _, none⟩) NB286_297.out _).trans (((cell_far (p := ⟨gb297, _, none⟩) NB286_297.out _).trans (hHeld.2.2.1)))))))), ((cell_far (p := ⟨gb297, _, none⟩) NB286_297.out _).trans (((cell_far (p := ⟨gb297, _, none⟩) NB286_297.out _).trans (((cell_far (p := ⟨gb297, _, none⟩) NB286_297.out _).trans (((cell_far (p := ⟨gb297, _, none⟩) NB286_297.out _).trans (hHeld.2.2.2))))))))⟩ (fun hHeld => ?_)
    clear hK K
    refine one_ (i := 7) (N := none) #[true, true, true, true, true, true, true, true] rfl rfl (one_of HT_.out (by kernel_rfl)) (by decide) (fun K hK => ?_)
    have hs20 : w19.cell? ⟨gb298, 0, none⟩ = some (.bool false) := (blk_cell BK298.out 0).trans rfl
    have hfs21 := blk_frozen BK298.out 0
    have hns22_0 := NB286_298.out
    have hns22_1 := NB287_298.out
    have hns22_2 := NB297_298.out
    have hms23_0 := NB298_286.out
    have hms23_1 := NB298_287.out
    have hms23_2 := NB298_297.out
    have hs24 : w19.cell? ⟨gb298, 1, none⟩ = some (.int .i64 0) := (blk_cell BK298.out 1).trans rfl
    have hfs25 := blk_frozen BK298.out 1
    have hns26_0 := NB286_298.out
    have hns26_1 := NB287_298.out
    have hns26_2 := NB297_298.out
    have hms27_0 := NB298_286.out
    have hms27_1 := NB298_287.out
    have hms27_2 := NB298_297.out
    have hs28 : w19.cell? ⟨gb298, 2, none⟩ = some (.int .i64 0) := (blk_cell BK298.out 2).trans rfl
    have hfs29 := blk_frozen BK298.out 2
    have hns30_0 := NB286_298.out
    have hns30_1 := NB287_298.out
    have hns30_2 := NB297_298.out
    have hms31_0 := NB298_286.out
    have hms31_1 := NB298_287.out
    have hms31_2 := NB298_297.out
    have hs32 : w19.cell? ⟨gb298, 3, none⟩ = some (.int .i64 0) := (blk_cell BK298.out 3).trans rfl
    have hfs33 := blk_frozen BK298.out 3
    have hns34_0 := NB286_298.out
    have hns34_1 := NB287_298.out
    have hns34_2 := NB297_298.out
    have hms35_0 := NB298_286.out
    have hms35_1 := NB298_287.out
    have hms35_2 := NB298_297.out
    refine skip_ (w1 := ?_) (by rfl) rfl ?_ ?_
    rotate_left
    · go_simp
      rfl
    refine hK.out _ _ ⟨((cell_far (p := ⟨gb298, _, none⟩) NB286_298.out _).trans (((cell_far (p := ⟨gb298, _, none⟩) NB286_298.out _).trans (((cell_far (p := ⟨gb298, _, none⟩) NB286_298.out _).trans (((cell_far (p := ⟨gb298, _, none⟩) NB286_298.out _).trans (hHeld.1)))))))), ((cell_far (p := ⟨gb298, _, none⟩) NB286_298.out _).trans (((cell_far (p := ⟨gb298, _, none⟩) NB286_298.out _).trans (((cell_far (p := ⟨gb298, _, none⟩) NB286_298.out _).trans (((cell_far (p := ⟨gb298, _, none⟩) NB286_298.out _).trans (hHeld.2.1)))))))), ((cell_far (p := ⟨gb298, _, none⟩) NB286_298.out _).trans (((cell_far (p := ⟨gb298, _, none⟩) NB286_298.out _).trans (((cell_far (p := ⟨gb298, _, none⟩) NB286_298.out _).trans (((cell_far (p := ⟨gb298, _, none⟩) NB286_298.out _).trans (hHeld.2.2.1)))))))), ((cell_far (p := ⟨gb298, _, none⟩) NB286_298.out _).trans (((cell_far (p := ⟨gb298, _, none⟩) NB286_298.out _).trans (((cell_far (p := ⟨gb298, _, none⟩) NB286_298.out _).trans (((cell_far (p := ⟨gb298, _, none⟩) NB286_298.out _).trans (hHeld.2.2.2))))))))⟩ (fun hHeld => ?_)
    clear hK K
    refine done_ (done_of HT_.out (by kernel_rfl)) ?_
    by_cases c6 : t293 = true
    · subst c6
      have H1 : (if t289 = true then (if t294 > t290 then (some (true, t294, t295, t296)) else (some (t289, t290, t291, t292))) else (some (true, t294, t295, t296))) = some (r1, r2, r3, r4) := by rw [if_pos rfl] at H; exact H
      clear H
      have H := H1
      clear H1
      by_cases c7 : t289 = true
      · subst c7
        have H1 : (if t294 > t290 then (some (true, t294, t295, t296)) else (some (true, t290, t291, t292))) = some (r1, r2, r3, r4) := by rw [if_pos rfl] at H; exact H
        clear H
        have H := H1
        clear H1
        by_cases c8 : t294 > t290
        · rw [if_pos c8] at H
          have c8b0 : decide (t290 < t294) = true := decide_eq_true c8
          clear c8
          simp only [Option.some.injEq, Prod.mk.injEq] at H
          obtain ⟨rfl, rfl, rfl, rfl⟩ := H
          have hnb28 := NB298_286.out
          have hnc28 := NB286_298.out
          have hnb29 := NB298_287.out
          have hnc29 := NB287_298.out
          have hnb30 := NB298_297.out
          have hnc30 := NB297_298.out
          have hcz31_0 : w19.cell? ⟨gb298, 0, none⟩ = some (.bool false) := (blk_cell BK298.out 0).trans rfl
          have hcz31_1 : w19.cell? ⟨gb298, 1, none⟩ = some (.int .i64 0) := (blk_cell BK298.out 1).trans rfl
          have hcz31_2 : w19.cell? ⟨gb298, 2, none⟩ = some (.int .i64 0) := (blk_cell BK298.out 2).trans rfl
          have hcz31_3 : w19.cell? ⟨gb298, 3, none⟩ = some (.int .i64 0) := (blk_cell BK298.out 3).trans rfl
          have hfz31_0 := blk_frozen BK298.out 0
          have hfz31_1 := blk_frozen BK298.out 1
          have hfz31_2 := blk_frozen BK298.out 2
          have hfz31_3 := blk_frozen BK298.out 3
          have hnb32 := NB297_286.out
          have hnc32 := NB286_297.out
          have hnb33 := NB297_287.out
          have hnc33 := NB287_297.out
          have hcz34_0 : w19.cell? ⟨gb297, 0, none⟩ = some (.bool false) := (blk_cell BK297.out 0).trans rfl
          have hcz34_1 : w19.cell? ⟨gb297, 1, none⟩ = some (.int .i64 0) := (blk_cell BK297.out 1).trans rfl
          have hcz34_2 : w19.cell? ⟨gb297, 2, none⟩ = some (.int .i64 0) := (blk_cell BK297.out 2).trans rfl
          have hcz34_3 : w19.cell? ⟨gb297, 3, none⟩ = some (.int .i64 0) := (blk_cell BK297.out 3).trans rfl
          have hfz34_0 := blk_frozen BK297.out 0
          have hfz34_1 := blk_frozen BK297.out 1
          have hfz34_2 := blk_frozen BK297.out 2
          have hfz34_3 := blk_frozen BK297.out 3
          have hcz35_0 : w19.cell? ⟨gb287, 0, none⟩ = some (.bool false) := (blk_cell BK287.out 0).trans rfl
          have hcz35_1 : w19.cell? ⟨gb287, 1, none⟩ = some (.int .i64 0) := (blk_cell BK287.out 1).trans rfl
          have hcz35_2 : w19.cell? ⟨gb287, 2, none⟩ = some (.int .i64 0) := (blk_cell BK287.out 2).trans rfl
          have hcz35_3 : w19.cell? ⟨gb287, 3, none⟩ = some (.int .i64 0) := (blk_cell BK287.out 3).trans rfl
          have hfz35_0 := blk_frozen BK287.out 0
          have hfz35_1 := blk_frozen BK287.out 1
          have hfz35_2 := blk_frozen BK287.out 2
          have hfz35_3 := blk_frozen BK287.out 3
          try go_wp2
          refine bodyPost_ret (results_cell_row rfl _ _ gb287 42 #[.bool true, .int .i64 t294, .int .i64 t295, .int .i64 t296] (0, 0) _ rfl (by (with_reducible repeat (first | refine blk_drewN ?_ _ | refine blk_drew ?_ | refine blk_alloc ?_ _)); refine blk_put (cs := #[.bool true, .int .i64 t294, .int .i64 t295, .int .i64 0]) ?_ 3 _ rfl; (with_reducible repeat (first | refine blk_drewN ?_ _ | refine blk_drew ?_ | refine blk_alloc ?_ _)); refine blk_put (cs := #[.bool true, .int .i64 t294, .int .i64 0, .int .i64 0]) ?_ 2 _ rfl; (with_reducible repeat (first | refine blk_drewN ?_ _ | refine blk_drew ?_ | refine blk_alloc ?_ _)); refine blk_put (cs := #[.bool true, .int .i64 0, .int .i64 0, .int .i64 0]) ?_ 1 _ rfl; (with_reducible repeat (first | refine blk_drewN ?_ _ | refine blk_drew ?_ | refine blk_alloc ?_ _)); refine blk_put (cs := #[.bool false, .int .i64 0, .int .i64 0, .int .i64 0]) ?_ 0 _ rfl; (with_reducible repeat (first | refine blk_drewN ?_ _ | refine blk_drew ?_ | refine blk_alloc ?_ _)); refine blk_far ?_ NB287_298.out _; (with_reducible repeat (first | refine blk_drewN ?_ _ | refine blk_drew ?_ | refine blk_alloc ?_ _)); refine blk_far ?_ NB287_298.out _; (with_reducible repeat (first | refine blk_drewN ?_ _ | refine blk_drew ?_ | refine blk_alloc ?_ _)); refine blk_far ?_ NB287_298.out _; (with_reducible repeat (first | refine blk_drewN ?_ _ | refine blk_drew ?_ | refine blk_alloc ?_ _)); refine blk_far ?_ NB287_298.out _; (with_reducible repeat (first | refine blk_drewN ?_ _ | refine blk_drew ?_ | refine blk_alloc ?_ _)); refine blk_far ?_ NB287_297.out _; (with_reducible repeat (first | refine blk_drewN ?_ _ | refine blk_drew ?_ | refine blk_alloc ?_ _)); refine blk_far ?_ NB287_297.out _; (with_reducible repeat (first | refine blk_drewN ?_ _ | refine blk_drew ?_ | refine blk_alloc ?_ _)); refine blk_far ?_ NB287_297.out _; (with_reducible repeat (first | refine blk_drewN ?_ _ | refine blk_drew ?_ | refine blk_alloc ?_ _)); refine blk_far ?_ NB287_297.out _; (with_reducible repeat (first | refine blk_drewN ?_ _ | refine blk_drew ?_ | refine blk_alloc ?_ _)); exact BK287.out) Try.underlying42 rfl (by kernel_rfl)) rfl ?_
          exact ⟨by first | rfl | (simp [errW_none, errW_some] <;> rfl) | (simp [*, errW_none, errW_some] <;> rfl), by repeat (first | (with_reducible first | exact HB.out | apply below_alloc | apply pw_below_drewN | apply below_drew1 | refine below_set ?_ GE286.out | refine below_set ?_ GE287.out | refine below_set ?_ GE297.out | refine below_set ?_ GE298.out) | exact HB.out)⟩
        · rw [if_neg c8] at H
          have c8b0 : decide (t290 < t294) = false := decide_eq_false c8
          clear c8
          simp only [Option.some.injEq, Prod.mk.injEq] at H
          obtain ⟨rfl, rfl, rfl, rfl⟩ := H
          have hnb55 := NB298_286.out
          have hnc55 := NB286_298.out
          have hnb56 := NB298_287.out
          have hnc56 := NB287_298.out
          have hnb57 := NB298_297.out
          have hnc57 := NB297_298.out
          have hcz58_0 : w19.cell? ⟨gb298, 0, none⟩ = some (.bool false) := (blk_cell BK298.out 0).trans rfl
          have hcz58_1 : w19.cell? ⟨gb298, 1, none⟩ = some (.int .i64 0) := (blk_cell BK298.out 1).trans rfl
          have hcz58_2 : w19.cell? ⟨gb298, 2, none⟩ = some (.int .i64 0) := (blk_cell BK298.out 2).trans rfl
          have hcz58_3 : w19.cell? ⟨gb298, 3, none⟩ = some (.int .i64 0) := (blk_cell BK298.out 3).trans rfl
          have hfz58_0 := blk_frozen BK298.out 0
          have hfz58_1 := blk_frozen BK298.out 1
          have hfz58_2 := blk_frozen BK298.out 2
          have hfz58_3 := blk_frozen BK298.out 3
          have hnb59 := NB297_286.out
          have hnc59 := NB286_297.out
          have hnb60 := NB297_287.out
          have hnc60 := NB287_297.out
          have hcz61_0 : w19.cell? ⟨gb297, 0, none⟩ = some (.bool false) := (blk_cell BK297.out 0).trans rfl
          have hcz61_1 : w19.cell? ⟨gb297, 1, none⟩ = some (.int .i64 0) := (blk_cell BK297.out 1).trans rfl
          have hcz61_2 : w19.cell? ⟨gb297, 2, none⟩ = some (.int .i64 0) := (blk_cell BK297.out 2).trans rfl
          have hcz61_3 : w19.cell? ⟨gb297, 3, none⟩ = some (.int .i64 0) := (blk_cell BK297.out 3).trans rfl
          have hfz61_0 := blk_frozen BK297.out 0
          have hfz61_1 := blk_frozen BK297.out 1
          have hfz61_2 := blk_frozen BK297.out 2
          have hfz61_3 := blk_frozen BK297.out 3
          have hcz62_0 : w19.cell? ⟨gb287, 0, none⟩ = some (.bool false) := (blk_cell BK287.out 0).trans rfl
          have hcz62_1 : w19.cell? ⟨gb287, 1, none⟩ = some (.int .i64 0) := (blk_cell BK287.out 1).trans rfl
          have hcz62_2 : w19.cell? ⟨gb287, 2, none⟩ = some (.int .i64 0) := (blk_cell BK287.out 2).trans rfl
          have hcz62_3 : w19.cell? ⟨gb287, 3, none⟩ = some (.int .i64 0) := (blk_cell BK287.out 3).trans rfl
          have hfz62_0 := blk_frozen BK287.out 0
          have hfz62_1 := blk_frozen BK287.out 1
          have hfz62_2 := blk_frozen BK287.out 2
          have hfz62_3 := blk_frozen BK287.out 3
          try go_wp2
          refine bodyPost_ret (results_cell_row rfl _ _ gb287 42 #[.bool true, .int .i64 t290, .int .i64 t291, .int .i64 t292] (0, 0) _ rfl (by (with_reducible repeat (first | refine blk_drewN ?_ _ | refine blk_drew ?_ | refine blk_alloc ?_ _)); refine blk_put (cs := #[.bool true, .int .i64 t290, .int .i64 t291, .int .i64 0]) ?_ 3 _ rfl; (with_reducible repeat (first | refine blk_drewN ?_ _ | refine blk_drew ?_ | refine blk_alloc ?_ _)); refine blk_put (cs := #[.bool true, .int .i64 t290, .int .i64 0, .int .i64 0]) ?_ 2 _ rfl; (with_reducible repeat (first | refine blk_drewN ?_ _ | refine blk_drew ?_ | refine blk_alloc ?_ _)); refine blk_put (cs := #[.bool true, .int .i64 0, .int .i64 0, .int .i64 0]) ?_ 1 _ rfl; (with_reducible repeat (first | refine blk_drewN ?_ _ | refine blk_drew ?_ | refine blk_alloc ?_ _)); refine blk_put (cs := #[.bool false, .int .i64 0, .int .i64 0, .int .i64 0]) ?_ 0 _ rfl; (with_reducible repeat (first | refine blk_drewN ?_ _ | refine blk_drew ?_ | refine blk_alloc ?_ _)); refine blk_far ?_ NB287_298.out _; (with_reducible repeat (first | refine blk_drewN ?_ _ | refine blk_drew ?_ | refine blk_alloc ?_ _)); refine blk_far ?_ NB287_298.out _; (with_reducible repeat (first | refine blk_drewN ?_ _ | refine blk_drew ?_ | refine blk_alloc ?_ _)); refine blk_far ?_ NB287_298.out _; (with_reducible repeat (first | refine blk_drewN ?_ _ | refine blk_drew ?_ | refine blk_alloc ?_ _)); refine blk_far ?_ NB287_298.out _; (with_reducible repeat (first | refine blk_drewN ?_ _ | refine blk_drew ?_ | refine blk_alloc ?_ _)); refine blk_far ?_ NB287_297.out _; (with_reducible repeat (first | refine blk_drewN ?_ _ | refine blk_drew ?_ | refine blk_alloc ?_ _)); refine blk_far ?_ NB287_297.out _; (with_reducible repeat (first | refine blk_drewN ?_ _ | refine blk_drew ?_ | refine blk_alloc ?_ _)); refine blk_far ?_ NB287_297.out _; (with_reducible repeat (first | refine blk_drewN ?_ _ | refine blk_drew ?_ | refine blk_alloc ?_ _)); refine blk_far ?_ NB287_297.out _; (with_reducible repeat (first | refine blk_drewN ?_ _ | refine blk_drew ?_ | refine blk_alloc ?_ _)); exact BK287.out) Try.underlying42 rfl (by kernel_rfl)) rfl ?_
          exact ⟨by first | rfl | (simp [errW_none, errW_some] <;> rfl) | (simp [*, errW_none, errW_some] <;> rfl), by repeat (first | (with_reducible first | exact HB.out | apply below_alloc | apply pw_below_drewN | apply below_drew1 | refine below_set ?_ GE286.out | refine below_set ?_ GE287.out | refine below_set ?_ GE297.out | refine below_set ?_ GE298.out) | exact HB.out)⟩
      · replace c7 := Bool.eq_false_iff.mpr c7
        subst c7
        have H1 : (some (true, t294, t295, t296)) = some (r1, r2, r3, r4) := by rw [if_neg (show ¬ (false = true) by decide)] at H; exact H
        clear H
        have H := H1
        clear H1
        simp only [Option.some.injEq, Prod.mk.injEq] at H
        obtain ⟨rfl, rfl, rfl, rfl⟩ := H
        have hnb82 := NB298_286.out
        have hnc82 := NB286_298.out
        have hnb83 := NB298_287.out
        have hnc83 := NB287_298.out
        have hnb84 := NB298_297.out
        have hnc84 := NB297_298.out
        have hcz85_0 : w19.cell? ⟨gb298, 0, none⟩ = some (.bool false) := (blk_cell BK298.out 0).trans rfl
        have hcz85_1 : w19.cell? ⟨gb298, 1, none⟩ = some (.int .i64 0) := (blk_cell BK298.out 1).trans rfl
        have hcz85_2 : w19.cell? ⟨gb298, 2, none⟩ = some (.int .i64 0) := (blk_cell BK298.out 2).trans rfl
        have hcz85_3 : w19.cell? ⟨gb298, 3, none⟩ = some (.int .i64 0) := (blk_cell BK298.out 3).trans rfl
        have hfz85_0 := blk_frozen BK298.out 0
        have hfz85_1 := blk_frozen BK298.out 1
        have hfz85_2 := blk_frozen BK298.out 2
        have hfz85_3 := blk_frozen BK298.out 3
        have hnb86 := NB297_286.out
        have hnc86 := NB286_297.out
        have hnb87 := NB297_287.out
        have hnc87 := NB287_297.out
        have hcz88_0 : w19.cell? ⟨gb297, 0, none⟩ = some (.bool false) := (blk_cell BK297.out 0).trans rfl
        have hcz88_1 : w19.cell? ⟨gb297, 1, none⟩ = some (.int .i64 0) := (blk_cell BK297.out 1).trans rfl
        have hcz88_2 : w19.cell? ⟨gb297, 2, none⟩ = some (.int .i64 0) := (blk_cell BK297.out 2).trans rfl
        have hcz88_3 : w19.cell? ⟨gb297, 3, none⟩ = some (.int .i64 0) := (blk_cell BK297.out 3).trans rfl
        have hfz88_0 := blk_frozen BK297.out 0
        have hfz88_1 := blk_frozen BK297.out 1
        have hfz88_2 := blk_frozen BK297.out 2
        have hfz88_3 := blk_frozen BK297.out 3
        have hcz89_0 : w19.cell? ⟨gb287, 0, none⟩ = some (.bool false) := (blk_cell BK287.out 0).trans rfl
        have hcz89_1 : w19.cell? ⟨gb287, 1, none⟩ = some (.int .i64 0) := (blk_cell BK287.out 1).trans rfl
        have hcz89_2 : w19.cell? ⟨gb287, 2, none⟩ = some (.int .i64 0) := (blk_cell BK287.out 2).trans rfl
        have hcz89_3 : w19.cell? ⟨gb287, 3, none⟩ = some (.int .i64 0) := (blk_cell BK287.out 3).trans rfl
        have hfz89_0 := blk_frozen BK287.out 0
        have hfz89_1 := blk_frozen BK287.out 1
        have hfz89_2 := blk_frozen BK287.out 2
        have hfz89_3 := blk_frozen BK287.out 3
        try go_wp2
        refine bodyPost_ret (results_cell_row rfl _ _ gb287 42 #[.bool true, .int .i64 t294, .int .i64 t295, .int .i64 t296] (0, 0) _ rfl (by (with_reducible repeat (first | refine blk_drewN ?_ _ | refine blk_drew ?_ | refine blk_alloc ?_ _)); refine blk_put (cs := #[.bool true, .int .i64 t294, .int .i64 t295, .int .i64 0]) ?_ 3 _ rfl; (with_reducible repeat (first | refine blk_drewN ?_ _ | refine blk_drew ?_ | refine blk_alloc ?_ _)); refine blk_put (cs := #[.bool true, .int .i64 t294, .int .i64 0, .int .i64 0]) ?_ 2 _ rfl; (with_reducible repeat (first | refine blk_drewN ?_ _ | refine blk_drew ?_ | refine blk_alloc ?_ _)); refine blk_put (cs := #[.bool true, .int .i64 0, .int .i64 0, .int .i64 0]) ?_ 1 _ rfl; (with_reducible repeat (first | refine blk_drewN ?_ _ | refine blk_drew ?_ | refine blk_alloc ?_ _)); refine blk_put (cs := #[.bool false, .int .i64 0, .int .i64 0, .int .i64 0]) ?_ 0 _ rfl; (with_reducible repeat (first | refine blk_drewN ?_ _ | refine blk_drew ?_ | refine blk_alloc ?_ _)); refine blk_far ?_ NB287_298.out _; (with_reducible repeat (first | refine blk_drewN ?_ _ | refine blk_drew ?_ | refine blk_alloc ?_ _)); refine blk_far ?_ NB287_298.out _; (with_reducible repeat (first | refine blk_drewN ?_ _ | refine blk_drew ?_ | refine blk_alloc ?_ _)); refine blk_far ?_ NB287_298.out _; (with_reducible repeat (first | refine blk_drewN ?_ _ | refine blk_drew ?_ | refine blk_alloc ?_ _)); refine blk_far ?_ NB287_298.out _; (with_reducible repeat (first | refine blk_drewN ?_ _ | refine blk_drew ?_ | refine blk_alloc ?_ _)); refine blk_far ?_ NB287_297.out _; (with_reducible repeat (first | refine blk_drewN ?_ _ | refine blk_drew ?_ | refine blk_alloc ?_ _)); refine blk_far ?_ NB287_297.out _; (with_reducible repeat (first | refine blk_drewN ?_ _ | refine blk_drew ?_ | refine blk_alloc ?_ _)); refine blk_far ?_ NB287_297.out _; (with_reducible repeat (first | refine blk_drewN ?_ _ | refine blk_drew ?_ | refine blk_alloc ?_ _)); refine blk_far ?_ NB287_297.out _; (with_reducible repeat (first | refine blk_drewN ?_ _ | refine blk_drew ?_ | refine blk_alloc ?_ _)); exact BK287.out) Try.underlying42 rfl (by kernel_rfl)) rfl ?_
        exact ⟨by first | rfl | (simp [errW_none, errW_some] <;> rfl) | (simp [*, errW_none, errW_some] <;> rfl), by repeat (first | (with_reducible first | exact HB.out | apply below_alloc | apply pw_below_drewN | apply below_drew1 | refine below_set ?_ GE286.out | refine below_set ?_ GE287.out | refine below_set ?_ GE297.out | refine below_set ?_ GE298.out) | exact HB.out)⟩
    · replace c6 := Bool.eq_false_iff.mpr c6
      subst c6
      have H1 : (some (t289, t290, t291, t292)) = some (r1, r2, r3, r4) := by rw [if_neg (show ¬ (false = true) by decide)] at H; exact H
      clear H
      have H := H1
      clear H1
      simp only [Option.some.injEq, Prod.mk.injEq] at H
      obtain ⟨rfl, rfl, rfl, rfl⟩ := H
      have hnb109 := NB298_286.out
      have hnc109 := NB286_298.out
      have hnb110 := NB298_287.out
      have hnc110 := NB287_298.out
      have hnb111 := NB298_297.out
      have hnc111 := NB297_298.out
      have hcz112_0 : w19.cell? ⟨gb298, 0, none⟩ = some (.bool false) := (blk_cell BK298.out 0).trans rfl
      have hcz112_1 : w19.cell? ⟨gb298, 1, none⟩ = some (.int .i64 0) := (blk_cell BK298.out 1).trans rfl
      have hcz112_2 : w19.cell? ⟨gb298, 2, none⟩ = some (.int .i64 0) := (blk_cell BK298.out 2).trans rfl
      have hcz112_3 : w19.cell? ⟨gb298, 3, none⟩ = some (.int .i64 0) := (blk_cell BK298.out 3).trans rfl
      have hfz112_0 := blk_frozen BK298.out 0
      have hfz112_1 := blk_frozen BK298.out 1
      have hfz112_2 := blk_frozen BK298.out 2
      have hfz112_3 := blk_frozen BK298.out 3
      have hnb113 := NB297_286.out
      have hnc113 := NB286_297.out
      have hnb114 := NB297_287.out
      have hnc114 := NB287_297.out
      have hcz115_0 : w19.cell? ⟨gb297, 0, none⟩ = some (.bool false) := (blk_cell BK297.out 0).trans rfl
      have hcz115_1 : w19.cell? ⟨gb297, 1, none⟩ = some (.int .i64 0) := (blk_cell BK297.out 1).trans rfl
      have hcz115_2 : w19.cell? ⟨gb297, 2, none⟩ = some (.int .i64 0) := (blk_cell BK297.out 2).trans rfl
      have hcz115_3 : w19.cell? ⟨gb297, 3, none⟩ = some (.int .i64 0) := (blk_cell BK297.out 3).trans rfl
      have hfz115_0 := blk_frozen BK297.out 0
      have hfz115_1 := blk_frozen BK297.out 1
      have hfz115_2 := blk_frozen BK297.out 2
      have hfz115_3 := blk_frozen BK297.out 3
      have hcz116_0 : w19.cell? ⟨gb287, 0, none⟩ = some (.bool false) := (blk_cell BK287.out 0).trans rfl
      have hcz116_1 : w19.cell? ⟨gb287, 1, none⟩ = some (.int .i64 0) := (blk_cell BK287.out 1).trans rfl
      have hcz116_2 : w19.cell? ⟨gb287, 2, none⟩ = some (.int .i64 0) := (blk_cell BK287.out 2).trans rfl
      have hcz116_3 : w19.cell? ⟨gb287, 3, none⟩ = some (.int .i64 0) := (blk_cell BK287.out 3).trans rfl
      have hfz116_0 := blk_frozen BK287.out 0
      have hfz116_1 := blk_frozen BK287.out 1
      have hfz116_2 := blk_frozen BK287.out 2
      have hfz116_3 := blk_frozen BK287.out 3
      try go_wp2
      refine bodyPost_ret (results_cell_row rfl _ _ gb287 42 #[.bool t289, .int .i64 t290, .int .i64 t291, .int .i64 t292] (0, 0) _ rfl (by (with_reducible repeat (first | refine blk_drewN ?_ _ | refine blk_drew ?_ | refine blk_alloc ?_ _)); refine blk_put (cs := #[.bool t289, .int .i64 t290, .int .i64 t291, .int .i64 0]) ?_ 3 _ rfl; (with_reducible repeat (first | refine blk_drewN ?_ _ | refine blk_drew ?_ | refine blk_alloc ?_ _)); refine blk_put (cs := #[.bool t289, .int .i64 t290, .int .i64 0, .int .i64 0]) ?_ 2 _ rfl; (with_reducible repeat (first | refine blk_drewN ?_ _ | refine blk_drew ?_ | refine blk_alloc ?_ _)); refine blk_put (cs := #[.bool t289, .int .i64 0, .int .i64 0, .int .i64 0]) ?_ 1 _ rfl; (with_reducible repeat (first | refine blk_drewN ?_ _ | refine blk_drew ?_ | refine blk_alloc ?_ _)); refine blk_put (cs := #[.bool false, .int .i64 0, .int .i64 0, .int .i64 0]) ?_ 0 _ rfl; (with_reducible repeat (first | refine blk_drewN ?_ _ | refine blk_drew ?_ | refine blk_alloc ?_ _)); refine blk_far ?_ NB287_298.out _; (with_reducible repeat (first | refine blk_drewN ?_ _ | refine blk_drew ?_ | refine blk_alloc ?_ _)); refine blk_far ?_ NB287_298.out _; (with_reducible repeat (first | refine blk_drewN ?_ _ | refine blk_drew ?_ | refine blk_alloc ?_ _)); refine blk_far ?_ NB287_298.out _; (with_reducible repeat (first | refine blk_drewN ?_ _ | refine blk_drew ?_ | refine blk_alloc ?_ _)); refine blk_far ?_ NB287_298.out _; (with_reducible repeat (first | refine blk_drewN ?_ _ | refine blk_drew ?_ | refine blk_alloc ?_ _)); refine blk_far ?_ NB287_297.out _; (with_reducible repeat (first | refine blk_drewN ?_ _ | refine blk_drew ?_ | refine blk_alloc ?_ _)); refine blk_far ?_ NB287_297.out _; (with_reducible repeat (first | refine blk_drewN ?_ _ | refine blk_drew ?_ | refine blk_alloc ?_ _)); refine blk_far ?_ NB287_297.out _; (with_reducible repeat (first | refine blk_drewN ?_ _ | refine blk_drew ?_ | refine blk_alloc ?_ _)); refine blk_far ?_ NB287_297.out _; (with_reducible repeat (first | refine blk_drewN ?_ _ | refine blk_drew ?_ | refine blk_alloc ?_ _)); exact BK287.out) Try.underlying42 rfl (by kernel_rfl)) rfl ?_
      exact ⟨by first | rfl | (simp [errW_none, errW_some] <;> rfl) | (simp [*, errW_none, errW_some] <;> rfl), by repeat (first | (with_reducible first | exact HB.out | apply below_alloc | apply pw_below_drewN | apply below_drew1 | refine below_set ?_ GE286.out | refine below_set ?_ GE287.out | refine below_set ?_ GE297.out | refine below_set ?_ GE298.out) | exact HB.out)⟩
  · replace c3 := Bool.eq_false_iff.mpr c3
    subst c3
    have H1 : (some (false, 0, 0, 0)) = some (r1, r2, r3, r4) := by rw [if_neg (show ¬ (false = true) by decide)] at H; exact H
    clear H
    have H := H1
    clear H1
    simp only [Option.some.injEq, Prod.mk.injEq] at H
    obtain ⟨rfl, rfl, rfl, rfl⟩ := H
    go_enter Try.func22, Try.ntmps22
    go_wp2_with (first | ((with_reducible refine gate_dst (N := 1) rfl ?_); refine box_event ?hg (N := 1) ?hd (cs := #[.slice A0_0 l0_0.length c0_0, .slice A0_1 l0_1.length c0_1, .int .i64 a0_2, .bool a0_3]) (t := 25) ?hr ?_; (case hd => rfl); (case hg => rfl); (case hr => first | (go_simp; done) | (go_simp; rfl)); intro gb286 hg w117 hbox hb; have n0_ := Aside0.mk (below_step (by repeat (first | (with_reducible first | exact HB.out | apply below_alloc | apply pw_below_drewN | apply below_drew1) | exact HB.out)) hb); have n1_ := Aside0.mk (hbox); have n2_ := Aside0.mk ((by rw [hg]; exact (below_size (by repeat (first | (with_reducible first | exact HB.out | apply below_alloc | apply pw_below_drewN | apply below_drew1) | exact HB.out))) : w.heap.size ≤ gb286)); have n3_ := Aside0.mk ((by rw [hg]; exact (below_size (by repeat (first | (with_reducible first | exact HB.out | apply below_alloc | apply pw_below_drewN | apply below_drew1) | exact HB.out))) : w.heap.size ≤ gb286)); clear HB; have HB := n0_; have BK286 := n1_; have GW286 := n2_; have GE286 := n3_; clear n0_ n1_ n2_ n3_; clear hb hbox hg) | ((with_reducible refine gate_dst (N := 2) rfl ?_); refine box_event ?hg (N := 2) ?hd (cs := #[.bool false, .int .i64 0, .int .i64 0, .int .i64 0]) (t := 42) ?hr ?_; (case hd => rfl); (case hg => rfl); (case hr => first | (go_simp; done) | (go_simp; rfl)); intro gb287 hg w118 hbox hb; have n0_ := Aside0.mk (blk_below (g := gb286) (o := .cells #[.slice A0_0 l0_0.length c0_0, .slice A0_1 l0_1.length c0_1, .int .i64 a0_2, .bool a0_3] 25 (0, 0)) BK286.out hb); have n1_ := Aside0.mk (below_step (by repeat (first | (with_reducible first | exact HB.out | apply below_alloc | apply pw_below_drewN | apply below_drew1 | refine below_set ?_ GE286.out) | exact HB.out)) hb); have n2_ := Aside0.mk (hbox); have n3_ := Aside0.mk ((by rw [hg]; exact (below_size (by repeat (first | (with_reducible first | exact HB.out | apply below_alloc | apply pw_below_drewN | apply below_drew1 | refine below_set ?_ GE286.out) | exact HB.out))) : w.heap.size ≤ gb287)); have n4_ := Aside0.mk ((by rw [hg]; exact (below_size (by repeat (first | (with_reducible first | exact HB.out | apply below_alloc | apply pw_below_drewN | apply below_drew1 | refine below_set ?_ GE286.out) | exact HB.out))) : w.heap.size ≤ gb287)); have n5_ := Aside0.mk ((by rw [hg]; exact Nat.ne_of_lt (blk_lt (g := gb286) (o := .cells #[.slice A0_0 l0_0.length c0_0, .slice A0_1 l0_1.length c0_1, .int .i64 a0_2, .bool a0_3] 25 (0, 0)) BK286.out) : gb286 ≠ gb287)); have n6_ := Aside0.mk ((by rw [hg]; exact Nat.ne_of_gt (blk_lt (g := gb286) (o := .cells #[.slice A0_0 l0_0.length c0_0, .slice A0_1 l0_1.length c0_1, .int .i64 a0_2, .bool a0_3] 25 (0, 0)) BK286.out) : gb287 ≠ gb286)); clear BK286; clear HB; have BK286 := n0_; have HB := n1_; have BK287 := n2_; have GW287 := n3_; have GE287 := n4_; have NB286_287 := n5_; have NB287_286 := n6_; clear n0_ n1_ n2_ n3_ n4_ n5_ n6_; clear hb hbox hg; have hnb119 := NB286_287.out; have hnc119 := NB287_286.out; have hcz120_0 : w118.cell? ⟨gb286, 0, none⟩ = some (.slice A0_0 l0_0.length c0_0) := (blk_cell BK286.out 0).trans rfl; have hcz120_1 : w118.cell? ⟨gb286, 1, none⟩ = some (.slice A0_1 l0_1.length c0_1) := (blk_cell BK286.out 1).trans rfl; have hcz120_2 : w118.cell? ⟨gb286, 2, none⟩ = some (.int .i64 a0_2) := (blk_cell BK286.out 2).trans rfl; have hcz120_3 : w118.cell? ⟨gb286, 3, none⟩ = some (.bool a0_3) := (blk_cell BK286.out 3).trans rfl; have hfz120_0 := blk_frozen BK286.out 0; have hfz120_1 := blk_frozen BK286.out 1; have hfz120_2 := blk_frozen BK286.out 2; have hfz120_3 := blk_frozen BK286.out 3) | ((with_reducible refine gate_callee (f := 13) rfl ?_); refine goesL_ (some 6) rfl rfl Try.func13 (by kernel_rfl) rfl #[.agg #[.slice A0_0 l0_0.length c0_0, .slice A0_1 l0_1.length c0_1, .int .i64 a0_2, .bool a0_3]] rfl (by (try simp only [List.map_toArray, List.map_cons, List.map_nil]); first | done | rfl | (simp only [List.length_drop, List.length_take]; rfl)) ?_; (with_reducible refine (impl_ValidDisk.calls k _ _ l0_0 _ _ l0_1 a0_2 a0_3 false _ ?side1 ?side2 ?side3 ?side4 A2.out).mono ?_); (case side1 => repeat (first | exact (Kd.C_below HR0_0.out HB.out) | (with_reducible refine Kd.C_alloc ?_ _) | (with_reducible refine Kd.C_drewN ?_ _) | (with_reducible refine Kd.C_drew ?_))); (case side2 => exact HC0_0.out); (case side3 => repeat (first | exact (Kd.C_below HR0_1.out HB.out) | (with_reducible refine Kd.C_alloc ?_ _) | (with_reducible refine Kd.C_drewN ?_ _) | (with_reducible refine Kd.C_drew ?_))); (case side4 => exact HC0_1.out); rintro e w121 ⟨rfl, hb⟩; refine ⟨_, rfl, ?_⟩; have n0_ := Aside0.mk (blk_below (g := gb286) (o := .cells #[.slice A0_0 l0_0.length c0_0, .slice A0_1 l0_1.length c0_1, .int .i64 a0_2, .bool a0_3] 25 (0, 0)) BK286.out hb); have n1_ := Aside0.mk (blk_below (g := gb287) (o := .cells #[.bool false, .int .i64 0, .int .i64 0, .int .i64 0] 42 (0, 0)) BK287.out hb); have n2_ := Aside0.mk (below_step (by repeat (first | (with_reducible first | exact HB.out | apply below_alloc | apply pw_below_drewN | apply below_drew1 | refine below_set ?_ GE286.out | refine below_set ?_ GE287.out) | exact HB.out)) hb); clear BK286; clear BK287; clear HB; have BK286 := n0_; have BK287 := n1_; have HB := n2_; clear n0_ n1_ n2_; (try clear hb); (try clear hb2); (try clear hk); (try clear hi); have hcz122_0 : w121.cell? ⟨gb287, 0, none⟩ = some (.bool false) := (blk_cell BK287.out 0).trans rfl; have hcz122_1 : w121.cell? ⟨gb287, 1, none⟩ = some (.int .i64 0) := (blk_cell BK287.out 1).trans rfl; have hcz122_2 : w121.cell? ⟨gb287, 2, none⟩ = some (.int .i64 0) := (blk_cell BK287.out 2).trans rfl; have hcz122_3 : w121.cell? ⟨gb287, 3, none⟩ = some (.int .i64 0) := (blk_cell BK287.out 3).trans rfl; have hfz122_0 := blk_frozen BK287.out 0; have hfz122_1 := blk_frozen BK287.out 1; have hfz122_2 := blk_frozen BK287.out 2; have hfz122_3 := blk_frozen BK287.out 3))
    refine bodyPost_ret (results_cell_row rfl _ _ gb287 42 #[.bool false, .int .i64 0, .int .i64 0, .int .i64 0] (0, 0) _ rfl (by (with_reducible repeat (first | refine blk_drewN ?_ _ | refine blk_drew ?_ | refine blk_alloc ?_ _)); refine blk_put (cs := #[.bool false, .int .i64 0, .int .i64 0, .int .i64 0]) ?_ 3 _ rfl; (with_reducible repeat (first | refine blk_drewN ?_ _ | refine blk_drew ?_ | refine blk_alloc ?_ _)); refine blk_put (cs := #[.bool false, .int .i64 0, .int .i64 0, .int .i64 0]) ?_ 2 _ rfl; (with_reducible repeat (first | refine blk_drewN ?_ _ | refine blk_drew ?_ | refine blk_alloc ?_ _)); refine blk_put (cs := #[.bool false, .int .i64 0, .int .i64 0, .int .i64 0]) ?_ 1 _ rfl; (with_reducible repeat (first | refine blk_drewN ?_ _ | refine blk_drew ?_ | refine blk_alloc ?_ _)); refine blk_put (cs := #[.bool false, .int .i64 0, .int .i64 0, .int .i64 0]) ?_ 0 _ rfl; (with_reducible repeat (first | refine blk_drewN ?_ _ | refine blk_drew ?_ | refine blk_alloc ?_ _)); exact BK287.out) Try.underlying42 rfl (by kernel_rfl)) rfl ?_
    exact ⟨by first | rfl | (simp [errW_none, errW_some] <;> rfl) | (simp [*, errW_none, errW_some] <;> rfl), by repeat (first | (with_reducible first | exact HB.out | apply below_alloc | apply pw_below_drewN | apply below_drew1 | refine below_set ?_ GE286.out | refine below_set ?_ GE287.out) | exact HB.out)⟩
end Go.Proofs.Yteddpdonmhiplaa.PR
