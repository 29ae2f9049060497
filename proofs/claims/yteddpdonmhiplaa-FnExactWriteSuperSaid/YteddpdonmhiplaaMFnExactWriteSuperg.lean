-- Made by this session's programs out of the translation and of its own texts.
import Derived.Test.YteddpdonmhiplaaMFnExactWriteSuperf
namespace Go.Proofs.Yteddpdonmhiplaa.PR
open Go.RowKit Go.Proofs.YteddpdonmhiplaaW.PrintWords Go.Proofs.YteddpdonmhiplaaW.PrintLast Go.Proofs.YteddpdonmhiplaaW.PrintMore
attribute [local go_sem] max2_int min2_int max_two min_two max_three min_three max_four min_four   -- for this text's walks alone
set_option linter.unusedVariables false
set_option linter.unusedSimpArgs false

/-! ### zwalk_WriteSuper: a text by hand -/
def walk_FnExactWriteSuper.T5 : Bool × List (List Nat × List Nat) := (true, [([], []), ([0], [0]), ([], []), ([2, 1], [2]), ([1, 3, 3], [1, 3]), ([], []), ([5, 4, 4, 0, 1, 2, 3, 4, 5], [4, 5])])
def walk_FnExactWriteSuper.B5 : List Nat := [0, 1, 0, 7, 15, 0, 63]
theorem walk_FnExactWriteSuper.tab5 : rtab .any (opsOf Try.f6 5) = walk_FnExactWriteSuper.T5 := by kernel_rfl
theorem walk_FnExactWriteSuper.bits5 : waitsOk walk_FnExactWriteSuper.T5.2 walk_FnExactWriteSuper.B5 = true := by kernel_rfl
def walk_FnExactWriteSuper.T7 : Bool × List (List Nat × List Nat) := (true, [([], []), ([], []), ([1], [1]), ([0, 2, 2], [0, 2]), ([], []), ([4, 3, 3, 0, 1, 2, 3, 4], [3, 4])])
def walk_FnExactWriteSuper.B7 : List Nat := [0, 0, 2, 7, 0, 31]
theorem walk_FnExactWriteSuper.tab7 : rtab .any (opsOf Try.f6 7) = walk_FnExactWriteSuper.T7 := by kernel_rfl
theorem walk_FnExactWriteSuper.bits7 : waitsOk walk_FnExactWriteSuper.T7.2 walk_FnExactWriteSuper.B7 = true := by kernel_rfl
def walk_FnExactWriteSuper.T24 : Bool × List (List Nat × List Nat) := (true, [([], []), ([0], [0]), ([], []), ([2, 1], [2]), ([1, 3, 3], [1, 3]), ([], []), ([5, 4, 4, 0, 1, 2, 3, 4, 5], [4, 5])])
def walk_FnExactWriteSuper.B24 : List Nat := [0, 1, 0, 7, 15, 0, 63]
theorem walk_FnExactWriteSuper.tab24 : rtab .any (opsOf Try.f6 24) = walk_FnExactWriteSuper.T24 := by kernel_rfl
theorem walk_FnExactWriteSuper.bits24 : waitsOk walk_FnExactWriteSuper.T24.2 walk_FnExactWriteSuper.B24 = true := by kernel_rfl
set_option maxHeartbeats 4000000 in
set_option maxRecDepth 100000 in
theorem walk_FnExactWriteSuper (A0_0 : Option Addr) (c0_0 : Nat) (l0_0 : List Int) (A0_1 : Option Addr) (c0_1 : Nat) (l0_1 : List S127) (a0_2 : Int) (a0_3 : Bool) (a1_0 : Int) (a1_1 : Int) (a1_2 : Int) (r1 : Int) (r3 : List Int) (r4 : List S79) (r5 : Int) (r6 : Bool) (r8 : Int) (r9 : Int) (r10 : Int) (r12 : List Int) (r13 : List S79) (r14 : Int) (r15 : Bool) (m24 : Int) (l25 : List Int) (m27 : Int) (l28 : List S79) (m30 : Int) (l31 : List Int) (m33 : Int) (l34 : List S79) (w : World)
    (hr0_0 : Kd.C (Kd.int .u8) w A0_0 l0_0.length l0_0) (hc0_0 : l0_0.length ≤ c0_0) (hr0_1 : Kd.C k127 w A0_1 l0_1.length l0_1) (hc0_1 : l0_1.length ≤ c0_1)
    (E2 : Ev (fun k => laws_szDisk.f k l0_0 l0_1 a0_2 a0_3 1048576) r1) (E2p : 0 ≤ r1) (E7 : Ev (fun k => laws_toDisk.f k l0_0 l0_1 a0_2 a0_3) (r3, r4, r5, r6)) (E11 : laws_toSuper.f a1_0 a1_1 a1_2 = some (r8, r9, r10)) (E16 : Ev (fun k => spec_WriteSuper.f k r3 r4 r5 r6 r8 r9 r10) (r12, r13, r14, r15)) (E19 : Ev (fun k => m_WriteSuper.f k r3 r4 r5 r6 r8 r9 r10) (r12, r13, r14, r15)) (E21 : Ev (fun k => laws_eqDisk.f k r12 r13 r14 r15 r12 r13 r14 r15) true) (E23 : Ev (fun k => laws_eqDisk.f k r3 r4 r5 r6 r3 r4 r5 r6) true) (E26 : Ev (fun k => laws_markByteS.f k r3 1) (m24, l25)) (E29 : Ev (fun k => laws_markPendS.f k r4 m24) (m27, l28)) (Pm27 : 0 ≤ m27) (E32 : Ev (fun k => laws_markByteS.f k r12 1) (m30, l31)) (E35 : Ev (fun k => laws_markPendS.f k r13 m30) (m33, l34)) (Pm33 : 0 ≤ m33) (E36 : Ev (fun k => laws_heldDisk.f k l31 l34 r14 r15 1) m33) :
    Calls Try.prog 6 #[.agg #[.slice A0_0 l0_0.length c0_0, .slice A0_1 l0_1.length c0_1, .int .i64 a0_2, .bool a0_3], .agg #[.int .i64 a1_0, .int .i64 a1_1, .int .i64 a1_2]] w fun e w' => e = .returned (.bool true) ∧ Below w.heap.size w w' := by
  obtain ⟨k_E2, h_E2⟩ := E2.rounds
  have H_E2 := Aside0.mk h_E2
  clear E2 h_E2
  obtain ⟨k_E7, h_E7⟩ := E7.rounds
  have H_E7 := Aside0.mk h_E7
  clear E7 h_E7
  have h_E11 := E11
  have H_E11 := Aside0.mk h_E11
  clear E11 h_E11
  obtain ⟨k_E16, h_E16⟩ := E16.rounds
  have H_E16 := Aside0.mk h_E16
  clear E16 h_E16
  obtain ⟨k_E19, h_E19⟩ := E19.rounds
  have H_E19 := Aside0.mk h_E19
  clear E19 h_E19
  obtain ⟨k_E21, h_E21⟩ := E21.rounds
  have H_E21 := Aside0.mk h_E21
  clear E21 h_E21
  obtain ⟨k_E23, h_E23⟩ := E23.rounds
  have H_E23 := Aside0.mk h_E23
  clear E23 h_E23
  obtain ⟨k_E26, h_E26⟩ := E26.rounds
  have H_E26 := Aside0.mk h_E26
  clear E26 h_E26
  obtain ⟨k_E29, h_E29⟩ := E29.rounds
  have H_E29 := Aside0.mk h_E29
  clear E29 h_E29
  obtain ⟨k_E32, h_E32⟩ := E32.rounds
  have H_E32 := Aside0.mk h_E32
  clear E32 h_E32
  obtain ⟨k_E35, h_E35⟩ := E35.rounds
  have H_E35 := Aside0.mk h_E35
  clear E35 h_E35
  obtain ⟨k_E36, h_E36⟩ := E36.rounds
  have H_E36 := Aside0.mk h_E36
  clear E36 h_E36
  have E2pb : decide (r1 < 0) = false := decide_eq_false (by omega)
  have Pm27b : decide (m27 < 0) = false := decide_eq_false (by omega)
  have Pm33b : decide (m33 < 0) = false := decide_eq_false (by omega)
  have HR0_0 := Aside0.mk hr0_0
  have HC0_0 := Aside0.mk hc0_0
  clear hr0_0 hc0_0
  have HR0_1 := Aside0.mk hr0_1
  have HC0_1 := Aside0.mk hc0_1
  clear hr0_1 hc0_1
  have hu25 := Try.underlying25
  have hu37 := Try.underlying37
  have hu55 := Try.underlying55
  have HB := Aside0.mk (Below.refl w.heap.size w)
  go_enter Try.func6, Try.ntmps6
  go_wp2_with fail
  refine (laws_szDisk.calls k_E2 _ _ l0_0 _ _ l0_1 a0_2 a0_3 1048576 r1 _ (Kd.C_below HR0_0.out (below_alloc (below_alloc HB.out _) _)) HC0_0.out (Kd.C_below HR0_1.out (below_alloc (below_alloc HB.out _) _)) HC0_1.out H_E2.out).mono ?_
  rintro e w1 ⟨rfl, gb⟩
  have hz1 : w.heap.size + 2 ≤ w1.heap.size := by have := gb.size; first | omega | (simp at this; omega)
  have N_HB := Aside0.mk (below_step (below_alloc (below_alloc HB.out _) _) gb)
  have K2 := Aside0.mk (show w1.heap[w.heap.size]? = some (.cells #[.slice A0_0 l0_0.length c0_0, .slice A0_1 l0_1.length c0_1, .int .i64 a0_2, .bool a0_3] 37 (0, 0)) from by have := blk_below (blk_alloc (blk_new _ _) _) gb; simpa using this)
  have K3 := Aside0.mk (show w1.heap[w.heap.size + 1]? = some (.cells #[.int .i64 a1_0, .int .i64 a1_1, .int .i64 a1_2] 55 (0, 0)) from by have := blk_below (blk_new _ _) gb; simpa using this)
  clear HB
  have HB := N_HB
  clear N_HB
  clear gb
  go_wp2_with fail
  refine start_ (n := 7) (S := fun w' => True) (ds := []) #[false, false, false, false, false, false, false] (by kernel_rfl) rfl rfl trivial (fun hHeld => ?_); refine with_tabW walk_FnExactWriteSuper.tab5 walk_FnExactWriteSuper.bits5 (fun HT_ HW_ => ?_)
  clear hHeld
  obtain ⟨w2, hw_⟩ : ∃ W_, W_ = w1.drew := ⟨_, rfl⟩
  have gb : Below w1.drew.heap.size w1.drew w2 := by rw [hw_]; exact Below.refl _ _
  rw [← hw_]
  clear hw_
  have hz2 : w1.heap.size + 0 ≤ w2.heap.size := by have := gb.size; first | omega | (simp at this; omega)
  have N_HB := Aside0.mk (below_step (below_drew HB.out) gb)
  have N_K2 := Aside0.mk (blk_below (blk_drew K2.out) gb)
  have N_K3 := Aside0.mk (blk_below (blk_drew K3.out) gb)
  clear HB K2 K3
  have HB := N_HB
  have K2 := N_K2
  have K3 := N_K3
  clear N_HB N_K2 N_K3
  clear gb
  refine inv_at [0, 1, 2, 3, 4, 5, 6] (fun a0_ b a w' => ∃ (A1_0 : Option Addr) (c1_0 : Nat) (A1_1 : Option Addr) (c1_1 : Nat) (lo1 : Nat) (hi1 : Nat) (A4_0 : Option Addr) (c4_0 : Nat) (A4_1 : Option Addr) (c4_1 : Nat) (lo4 : Nat) (hi4 : Nat) (g_ : Nat) (ws : World), a = putSel a0_ b [(0, 18, .agg #[.slice A0_0 l0_0.length c0_0, .slice A0_1 l0_1.length c0_1, .int .i64 a0_2, .bool a0_3]), (1, 19, .agg #[.slice A1_0 r3.length c1_0, .slice A1_1 r4.length c1_1, .int .i64 r5, .bool r6]), (2, 20, .agg #[.int .i64 a1_0, .int .i64 a1_1, .int .i64 a1_2]), (3, 21, .agg #[.int .i64 r8, .int .i64 r9, .int .i64 r10]), (4, 22, .agg #[.slice A4_0 r12.length c4_0, .slice A4_1 r13.length c4_1, .int .i64 r14, .bool r15]), (5, 6, .pointer (some ⟨g_, 0, none⟩))] ∧ (b 6 = false → w' = ws) ∧ (b 6 = true → w' = ((((ws.setCell ⟨g_, 0, none⟩ (.slice A4_0 r12.length c4_0)).setCell ⟨g_, 1, none⟩ (.slice A4_1 r13.length c4_1)).setCell ⟨g_, 2, none⟩ (.int .i64 r14)).setCell ⟨g_, 3, none⟩ (.bool r15))) ∧ (Below w2.heap.size w2 ws) ∧ (b 1 = true → w2.heap.size ≤ lo1 ∧ lo1 ≤ hi1 ∧ hi1 ≤ ws.heap.size ∧ Kd.R (Kd.int .u8) 5 ws w.heap.size (fun k_ => (lo1 ≤ k_ ∧ k_ < hi1) ∧ True) (.slice A1_0 r3.length c1_0) r3 ∧ Kd.S k79 79 ws w.heap.size (fun k_ => (lo1 ≤ k_ ∧ k_ < hi1) ∧ some k_ ≠ (.slice A1_0 r3.length c1_0 : Value).ownBlock) (.slice A1_1 r4.length c1_1) r4) ∧ (b 4 = true → w2.heap.size ≤ lo4 ∧ lo4 ≤ hi4 ∧ hi4 ≤ ws.heap.size ∧ Kd.R (Kd.int .u8) 5 ws w.heap.size (fun k_ => (lo4 ≤ k_ ∧ k_ < hi4) ∧ True) (.slice A4_0 r12.length c4_0) r12 ∧ Kd.S k79 79 ws w.heap.size (fun k_ => (lo4 ≤ k_ ∧ k_ < hi4) ∧ some k_ ≠ (.slice A4_0 r12.length c4_0 : Value).ownBlock) (.slice A4_1 r13.length c4_1) r13) ∧ (b 5 = true → w2.heap.size ≤ g_ ∧ g_ < ws.heap.size ∧ ws.heap[g_]? = some (.cells #[.slice none 0 0, .slice none 0 0, .int .i64 0, .bool false] 25 (0, 0))) ∧ (b 1 = true → b 5 = true → g_ < lo1 ∨ hi1 ≤ g_) ∧ (b 4 = true → b 5 = true → g_ < lo4 ∨ hi4 ≤ g_)) HT_.out HW_.out (by kernel_rfl) (by kernel_rfl) ?_ ?_ ?_
  · exact ⟨none, 0, none, 0, 0, 0, none, 0, none, 0, 0, 0, 0, w2, by simp only [putSel, Bool.false_eq_true, if_false], fun _ => rfl, fun h_ => absurd h_ (by decide), Below.refl _ _, fun h_ => absurd h_ (by decide), fun h_ => absurd h_ (by decide), fun h_ => absurd h_ (by decide), fun h_ => absurd h_ (by decide), fun h_ => absurd h_ (by decide)⟩
  · skip
    refine steps_cons ?_ ?_
    · rintro b a w' ⟨A1_0, c1_0, A1_1, c1_1, lo1, hi1, A4_0, c4_0, A4_1, c4_1, lo4, hi4, g_, ws, ha, hst0, hst1, hB_, Q1, Q4, QA, P1, P4⟩ hb_ hon hoff
      obtain rfl := hst0 (hoff 6 (by kernel_rfl))
      refine ⟨_, rfl, fun K hK => ?_⟩
      have hsz_ : w.heap.size ≤ w'.heap.size := Nat.le_trans HB.out.size hB_.size
      have es_ : a.tmps[2]? = some (.pointer (some ⟨w.heap.size, 0, none⟩)) := by rw [ha]; exact (putSel_off rfl).trans rfl
      have hc0 : w'.cell? ⟨w.heap.size, 0, none⟩ = some (.slice A0_0 l0_0.length c0_0) := (blk_cell (blk_below K2.out hB_) 0).trans rfl
      have hc1 : w'.cell? ⟨w.heap.size, 1, none⟩ = some (.slice A0_1 l0_1.length c0_1) := (blk_cell (blk_below K2.out hB_) 1).trans rfl
      have hc2 : w'.cell? ⟨w.heap.size, 2, none⟩ = some (.int .i64 a0_2) := (blk_cell (blk_below K2.out hB_) 2).trans rfl
      have hc3 : w'.cell? ⟨w.heap.size, 3, none⟩ = some (.bool a0_3) := (blk_cell (blk_below K2.out hB_) 3).trans rfl
      replace ha := Aside0.mk ha
      refine value_ (w1 := w') (v := .agg #[.slice A0_0 l0_0.length c0_0, .slice A0_1 l0_1.length c0_1, .int .i64 a0_2, .bool a0_3]) (by rfl) rfl ?_ ?_
      · go_simp
        try rfl
      refine hK.out _ _ ⟨A1_0, c1_0, A1_1, c1_1, lo1, hi1, A4_0, c4_0, A4_1, c4_1, lo4, hi4, g_, w', (by rw [ha.out]; exact putSel_upk 0 hb_ rfl rfl rfl), fun _ => rfl, fun h_ => absurd ((hoff 6 (by kernel_rfl)).symm.trans ((up_ne (by decide)).symm.trans h_)) (by decide), hB_, fun h0_ => absurd ((hoff 1 (by kernel_rfl)).symm.trans h0_) (by decide), fun h0_ => absurd ((hoff 4 (by kernel_rfl)).symm.trans h0_) (by decide), QA, P1, P4⟩
    refine steps_cons ?_ ?_
    · rintro b a w' ⟨A1_0, c1_0, A1_1, c1_1, lo1, hi1, A4_0, c4_0, A4_1, c4_1, lo4, hi4, g_, ws, ha, hst0, hst1, hB_, Q1, Q4, QA, P1, P4⟩ hb_ hon hoff
      obtain rfl := hst0 (hoff 6 (by kernel_rfl))
      refine ⟨_, rfl, fun K hK => ?_⟩
      have hsz_ : w.heap.size ≤ w'.heap.size := Nat.le_trans HB.out.size hB_.size
      have e18 : a.tmps[18]? = some (.agg #[.slice A0_0 l0_0.length c0_0, .slice A0_1 l0_1.length c0_1, .int .i64 a0_2, .bool a0_3]) := by rw [ha]; exact putSel_on (e := (0, 18, .agg #[.slice A0_0 l0_0.length c0_0, .slice A0_1 l0_1.length c0_1, .int .i64 a0_2, .bool a0_3])) 0 rfl rfl (hon 0 (by kernel_rfl)) rfl
      replace ha := Aside0.mk ha
      refine goes_ Try.func21 (by kernel_rfl) rfl #[.agg #[.slice A0_0 l0_0.length c0_0, .slice A0_1 l0_1.length c0_1, .int .i64 a0_2, .bool a0_3]] (by rfl) rfl rfl (by first | (simp only [List.map_toArray, List.map_cons, List.map_nil, Act.eval, Array.getD_eq_getD_getElem?, Option.getD_some, e18]; done) | (simp only [List.map_toArray, List.map_cons, List.map_nil, Act.eval, Array.getD_eq_getD_getElem?, Option.getD_some, e18]; rfl)) ?_
      refine (laws_toDisk.calls k_E7 _ _ l0_0 _ _ l0_1 a0_2 a0_3 r3 r4 r5 r6 _ (Kd.C_below HR0_0.out (below_step HB.out hB_)) HC0_0.out (Kd.C_below HR0_1.out (below_step HB.out hB_)) HC0_1.out H_E7.out).mono ?_
      rintro e w9 ⟨u0, u1, rfl, g0, g1, gb⟩
      obtain ⟨A_0, c_0, rfl⟩ := Kd.R_slice g0
      obtain ⟨A_1, c_1, rfl⟩ := Kd.S_slice g1
      refine ⟨_, rfl, ?_⟩
      refine hK.out _ _ ⟨A_0, c_0, A_1, c_1, w'.heap.size, w9.heap.size, A4_0, c4_0, A4_1, c4_1, lo4, hi4, g_, w9, (by rw [ha.out]; exact putSel_upk 1 hb_ rfl rfl rfl), fun _ => rfl, fun h_ => absurd ((hoff 6 (by kernel_rfl)).symm.trans ((up_ne (by decide)).symm.trans h_)) (by decide), (below_step hB_ gb), fun _ => ⟨hB_.size, gb.size, Nat.le_refl _, R_iv g0 w.heap.size w'.heap.size hsz_ (Nat.le_refl _), S_iv g1 w.heap.size w'.heap.size hsz_ (Nat.le_refl _)⟩, fun h0_ => absurd ((hoff 4 (by kernel_rfl)).symm.trans h0_) (by decide), fun h0_ => ⟨(QA h0_).1, Nat.lt_of_lt_of_le (QA h0_).2.1 gb.size, blk_below (QA h0_).2.2 gb⟩, fun _ h1_ => .inl (QA h1_).2.1, P4⟩
    refine steps_cons ?_ ?_
    · rintro b a w' ⟨A1_0, c1_0, A1_1, c1_1, lo1, hi1, A4_0, c4_0, A4_1, c4_1, lo4, hi4, g_, ws, ha, hst0, hst1, hB_, Q1, Q4, QA, P1, P4⟩ hb_ hon hoff
      obtain rfl := hst0 (hoff 6 (by kernel_rfl))
      refine ⟨_, rfl, fun K hK => ?_⟩
      have hsz_ : w.heap.size ≤ w'.heap.size := Nat.le_trans HB.out.size hB_.size
      have es_ : a.tmps[3]? = some (.pointer (some ⟨w.heap.size + 1, 0, none⟩)) := by rw [ha]; exact (putSel_off rfl).trans rfl
      have hc0 : w'.cell? ⟨w.heap.size + 1, 0, none⟩ = some (.int .i64 a1_0) := (blk_cell (blk_below K3.out hB_) 0).trans rfl
      have hc1 : w'.cell? ⟨w.heap.size + 1, 1, none⟩ = some (.int .i64 a1_1) := (blk_cell (blk_below K3.out hB_) 1).trans rfl
      have hc2 : w'.cell? ⟨w.heap.size + 1, 2, none⟩ = some (.int .i64 a1_2) := (blk_cell (blk_below K3.out hB_) 2).trans rfl
      replace ha := Aside0.mk ha
      refine value_ (w1 := w') (v := .agg #[.int .i64 a1_0, .int .i64 a1_1, .int .i64 a1_2]) (by rfl) rfl ?_ ?_
      · go_simp
        try rfl
      refine hK.out _ _ ⟨A1_0, c1_0, A1_1, c1_1, lo1, hi1, A4_0, c4_0, A4_1, c4_1, lo4, hi4, g_, w', (by rw [ha.out]; exact putSel_upk 2 hb_ rfl rfl rfl), fun _ => rfl, fun h_ => absurd ((hoff 6 (by kernel_rfl)).symm.trans ((up_ne (by decide)).symm.trans h_)) (by decide), hB_, Q1, fun h0_ => absurd ((hoff 4 (by kernel_rfl)).symm.trans h0_) (by decide), QA, P1, P4⟩
    refine steps_cons ?_ ?_
    · rintro b a w' ⟨A1_0, c1_0, A1_1, c1_1, lo1, hi1, A4_0, c4_0, A4_1, c4_1, lo4, hi4, g_, ws, ha, hst0, hst1, hB_, Q1, Q4, QA, P1, P4⟩ hb_ hon hoff
      obtain rfl := hst0 (hoff 6 (by kernel_rfl))
      refine ⟨_, rfl, fun K hK => ?_⟩
      have hsz_ : w.heap.size ≤ w'.heap.size := Nat.le_trans HB.out.size hB_.size
      have e20 : a.tmps[20]? = some (.agg #[.int .i64 a1_0, .int .i64 a1_1, .int .i64 a1_2]) := by rw [ha]; exact putSel_on (e := (2, 20, .agg #[.int .i64 a1_0, .int .i64 a1_1, .int .i64 a1_2])) 2 rfl rfl (hon 2 (by kernel_rfl)) rfl
      replace ha := Aside0.mk ha
      refine goes_ Try.func32 (by kernel_rfl) rfl #[.agg #[.int .i64 a1_0, .int .i64 a1_1, .int .i64 a1_2]] (by rfl) rfl rfl (by first | (simp only [List.map_toArray, List.map_cons, List.map_nil, Act.eval, Array.getD_eq_getD_getElem?, Option.getD_some, e20]; done) | (simp only [List.map_toArray, List.map_cons, List.map_nil, Act.eval, Array.getD_eq_getD_getElem?, Option.getD_some, e20]; rfl)) ?_
      refine (laws_toSuper.calls a1_0 a1_1 a1_2 r8 r9 r10 _  H_E11.out).mono ?_
      rintro e w9 ⟨rfl, gb⟩
      refine ⟨_, rfl, ?_⟩
      refine hK.out _ _ ⟨A1_0, c1_0, A1_1, c1_1, lo1, hi1, A4_0, c4_0, A4_1, c4_1, lo4, hi4, g_, w9, (by rw [ha.out]; exact putSel_upk 3 hb_ rfl rfl rfl), fun _ => rfl, fun h_ => absurd ((hoff 6 (by kernel_rfl)).symm.trans ((up_ne (by decide)).symm.trans h_)) (by decide), (below_step hB_ gb), fun h0_ => ⟨(Q1 h0_).1, (Q1 h0_).2.1, Nat.le_trans (Q1 h0_).2.2.1 gb.size, Kd.R_below (Q1 h0_).2.2.2.1 gb, Kd.S_below (Q1 h0_).2.2.2.2 gb⟩, fun h0_ => absurd ((hoff 4 (by kernel_rfl)).symm.trans h0_) (by decide), fun h0_ => ⟨(QA h0_).1, Nat.lt_of_lt_of_le (QA h0_).2.1 gb.size, blk_below (QA h0_).2.2 gb⟩, P1, P4⟩
    refine steps_cons ?_ ?_
    · rintro b a w' ⟨A1_0, c1_0, A1_1, c1_1, lo1, hi1, A4_0, c4_0, A4_1, c4_1, lo4, hi4, g_, ws, ha, hst0, hst1, hB_, Q1, Q4, QA, P1, P4⟩ hb_ hon hoff
      obtain rfl := hst0 (hoff 6 (by kernel_rfl))
      refine ⟨_, rfl, fun K hK => ?_⟩
      have hsz_ : w.heap.size ≤ w'.heap.size := Nat.le_trans HB.out.size hB_.size
      have e19 : a.tmps[19]? = some (.agg #[.slice A1_0 r3.length c1_0, .slice A1_1 r4.length c1_1, .int .i64 r5, .bool r6]) := by rw [ha]; exact putSel_on (e := (1, 19, .agg #[.slice A1_0 r3.length c1_0, .slice A1_1 r4.length c1_1, .int .i64 r5, .bool r6])) 1 rfl rfl (hon 1 (by kernel_rfl)) rfl
      have e21 : a.tmps[21]? = some (.agg #[.int .i64 r8, .int .i64 r9, .int .i64 r10]) := by rw [ha]; exact putSel_on (e := (3, 21, .agg #[.int .i64 r8, .int .i64 r9, .int .i64 r10])) 3 rfl rfl (hon 3 (by kernel_rfl)) rfl
      replace ha := Aside0.mk ha
      refine goes_ Try.func31 (by kernel_rfl) rfl #[.agg #[.slice A1_0 r3.length c1_0, .slice A1_1 r4.length c1_1, .int .i64 r5, .bool r6], .agg #[.int .i64 r8, .int .i64 r9, .int .i64 r10]] (by rfl) rfl rfl (by first | (simp only [List.map_toArray, List.map_cons, List.map_nil, Act.eval, Array.getD_eq_getD_getElem?, Option.getD_some, e19, e21]; done) | (simp only [List.map_toArray, List.map_cons, List.map_nil, Act.eval, Array.getD_eq_getD_getElem?, Option.getD_some, e19, e21]; rfl)) ?_
      refine (spec_WriteSuper.calls k_E16 _ _ r3 _ _ r4 r5 r6 r8 r9 r10 r12 r13 r14 r15 _ (Kd.R_reads' (Q1 (hon 1 (by kernel_rfl))).2.2.2.1).2.2 (Kd.R_reads' (Q1 (hon 1 (by kernel_rfl))).2.2.2.1).2.1 (Kd.S_reads' (Q1 (hon 1 (by kernel_rfl))).2.2.2.2).2.2 (Kd.S_reads' (Q1 (hon 1 (by kernel_rfl))).2.2.2.2).2.1 H_E16.out).mono ?_
      rintro e w9 ⟨u0, u1, rfl, g0, g1, gb⟩
      obtain ⟨A_0, c_0, rfl⟩ := Kd.R_slice g0
      obtain ⟨A_1, c_1, rfl⟩ := Kd.S_slice g1
      refine ⟨_, rfl, ?_⟩
      refine hK.out _ _ ⟨A1_0, c1_0, A1_1, c1_1, lo1, hi1, A_0, c_0, A_1, c_1, w'.heap.size, w9.heap.size, g_, w9, (by rw [ha.out]; exact putSel_upk 4 hb_ rfl rfl rfl), fun _ => rfl, fun h_ => absurd ((hoff 6 (by kernel_rfl)).symm.trans ((up_ne (by decide)).symm.trans h_)) (by decide), (below_step hB_ gb), fun h0_ => ⟨(Q1 h0_).1, (Q1 h0_).2.1, Nat.le_trans (Q1 h0_).2.2.1 gb.size, Kd.R_below (Q1 h0_).2.2.2.1 gb, Kd.S_below (Q1 h0_).2.2.2.2 gb⟩, fun _ => ⟨hB_.size, gb.size, Nat.le_refl _, R_iv g0 w.heap.size w'.heap.size hsz_ (Nat.le_refl _), S_iv g1 w.heap.size w'.heap.size hsz_ (Nat.le_refl _)⟩, fun h0_ => ⟨(QA h0_).1, Nat.lt_of_lt_of_le (QA h0_).2.1 gb.size, blk_below (QA h0_).2.2 gb⟩, P1, fun _ h1_ => .inl (QA h1_).2.1⟩
    refine steps_cons ?_ ?_
    · rintro b a w' ⟨A1_0, c1_0, A1_1, c1_1, lo1, hi1, A4_0, c4_0, A4_1, c4_1, lo4, hi4, g_, ws, ha, hst0, hst1, hB_, Q1, Q4, QA, P1, P4⟩ hb_ hon hoff
      obtain rfl := hst0 (hoff 6 (by kernel_rfl))
      refine ⟨_, rfl, fun K hK => ?_⟩
      have hsz_ : w.heap.size ≤ w'.heap.size := Nat.le_trans HB.out.size hB_.size
      replace ha := Aside0.mk ha
      refine value_ (w1 := w'.alloc (.cells #[.slice none 0 0, .slice none 0 0, .int .i64 0, .bool false] 25)) (v := .pointer (some ⟨w'.heap.size, 0, none⟩)) (by rfl) rfl ?_ ?_
      · go_simp
        try rfl
      have gb := below_alloc (Below.refl w'.heap.size w') (.cells #[.slice none 0 0, .slice none 0 0, .int .i64 0, .bool false] 25)
      refine hK.out _ _ ⟨A1_0, c1_0, A1_1, c1_1, lo1, hi1, A4_0, c4_0, A4_1, c4_1, lo4, hi4, w'.heap.size, (w'.alloc (.cells #[.slice none 0 0, .slice none 0 0, .int .i64 0, .bool false] 25)), (by rw [ha.out]; exact putSel_upk 5 hb_ rfl rfl rfl), fun _ => rfl, fun h_ => absurd ((hoff 6 (by kernel_rfl)).symm.trans ((up_ne (by decide)).symm.trans h_)) (by decide), (below_step hB_ gb), fun h0_ => ⟨(Q1 h0_).1, (Q1 h0_).2.1, Nat.le_trans (Q1 h0_).2.2.1 gb.size, Kd.R_below (Q1 h0_).2.2.2.1 gb, Kd.S_below (Q1 h0_).2.2.2.2 gb⟩, fun h0_ => ⟨(Q4 h0_).1, (Q4 h0_).2.1, Nat.le_trans (Q4 h0_).2.2.1 gb.size, Kd.R_below (Q4 h0_).2.2.2.1 gb, Kd.S_below (Q4 h0_).2.2.2.2 gb⟩, fun _ => ⟨hB_.size, by simp, blk_new _ _⟩, fun h1_ _ => .inr (Q1 h1_).2.2.1, fun h1_ _ => .inr (Q4 h1_).2.2.1⟩
    refine steps_cons ?_ ?_
    · rintro b a w' ⟨A1_0, c1_0, A1_1, c1_1, lo1, hi1, A4_0, c4_0, A4_1, c4_1, lo4, hi4, g_, ws, ha, hst0, hst1, hB_, Q1, Q4, QA, P1, P4⟩ hb_ hon hoff
      obtain rfl := hst0 hb_
      refine ⟨_, rfl, fun K hK => ?_⟩
      have hsz_ : w.heap.size ≤ w'.heap.size := Nat.le_trans HB.out.size hB_.size
      have e6 : a.tmps[6]? = some (.pointer (some ⟨g_, 0, none⟩)) := by rw [ha]; exact putSel_on (e := (5, 6, .pointer (some ⟨g_, 0, none⟩))) 5 rfl rfl (hon 5 (by kernel_rfl)) rfl
      have e22 : a.tmps[22]? = some (.agg #[.slice A4_0 r12.length c4_0, .slice A4_1 r13.length c4_1, .int .i64 r14, .bool r15]) := by rw [ha]; exact putSel_on (e := (4, 22, .agg #[.slice A4_0 r12.length c4_0, .slice A4_1 r13.length c4_1, .int .i64 r14, .bool r15])) 4 rfl rfl (hon 4 (by kernel_rfl)) rfl
      replace ha := Aside0.mk ha
      obtain ⟨hg1, hg2, hgk⟩ := QA (hon 5 (by kernel_rfl))
      obtain ⟨z0, z1, z2, z3, y0, y1, y2, y3⟩ := blk_cells4 hgk
      refine skip_ (w1 := ((((w'.setCell ⟨g_, 0, none⟩ (.slice A4_0 r12.length c4_0)).setCell ⟨g_, 1, none⟩ (.slice A4_1 r13.length c4_1)).setCell ⟨g_, 2, none⟩ (.int .i64 r14)).setCell ⟨g_, 3, none⟩ (.bool r15))) (by rfl) rfl ?_ ?_
      · go_simp
        try rfl
      refine hK.out _ _ ⟨A1_0, c1_0, A1_1, c1_1, lo1, hi1, A4_0, c4_0, A4_1, c4_1, lo4, hi4, g_, w', (by rw [ha.out]; exact (putSel_same rfl).symm), fun h_ => absurd ((up_self b 6).symm.trans h_) (by decide), fun _ => rfl, hB_, Q1, Q4, QA, P1, P4⟩
    exact steps_nil
  rintro b a w3 hall ⟨A1_0, c1_0, A1_1, c1_1, lo1, hi1, A4_0, c4_0, A4_1, c4_1, lo4, hi4, g_, ws, ha, hst0, hst1, hB_, Q1, Q4, QA, P1, P4⟩
  have hb0_ := hall 0 (by kernel_rfl)
  have hb1_ := hall 1 (by kernel_rfl)
  have hb2_ := hall 2 (by kernel_rfl)
  have hb3_ := hall 3 (by kernel_rfl)
  have hb4_ := hall 4 (by kernel_rfl)
  have hb5_ := hall 5 (by kernel_rfl)
  have hb6_ := hall 6 (by kernel_rfl)
  subst ha
  simp only [putSel, hb0_, hb1_, hb2_, hb3_, hb4_, hb5_, if_true, Act.put, List.setIfInBounds_toArray, List.set_cons_zero, List.set_cons_succ]
  have hw_ := hst1 hb6_
  obtain ⟨hg1_6, hg2_, hgk_⟩ := QA hb5_
  have hga_6 := P4 hb4_ hb5_
  obtain ⟨hlo_6, hlh_6, hhi_, hf0_, hf1_⟩ := Q4 hb4_
  have hgs_ : w3.heap.size = ws.heap.size := by rw [hw_]; simp
  have gb : Below w2.heap.size w2 w3 := by rw [hw_]; exact below_set4 hB_ hg1_6
  have q17X0 := Aside0.mk (show Kd.R (Kd.int .u8) 5 w3 w.heap.size (fun k_ => (lo4 ≤ k_ ∧ k_ < hi4) ∧ True) (.slice A4_0 r12.length c4_0) r12 from by rw [hw_]; exact R_set4 hf0_ hgk_ (by decide))
  have q17X1 := Aside0.mk (show Kd.S k79 79 w3 w.heap.size (fun k_ => (lo4 ≤ k_ ∧ k_ < hi4) ∧ some k_ ≠ (.slice A4_0 r12.length c4_0 : Value).ownBlock) (.slice A4_1 r13.length c4_1) r13 from by rw [hw_]; exact S_set4 hf1_ hgk_ (by decide))
  have K6 := Aside0.mk (show w3.heap[g_]? = some (.cells #[.slice A4_0 r12.length c4_0, .slice A4_1 r13.length c4_1, .int .i64 r14, .bool r15] 25 (0, 0)) from by rw [hw_]; exact blk_set4 hgk_)
  have hgl_6 : g_ < w3.heap.size := by omega
  have hhl_6 : hi4 ≤ w3.heap.size := by omega
  clear hall hst0 hst1 hB_ hw_ hgk_ hgs_ hg2_ hhi_ QA Q1 P1 Q4 P4 hb0_ hb1_ hb2_ hb3_ hb4_ hb5_ hb6_ hf0_ hf1_
  have hz3 : w2.heap.size + 0 ≤ w3.heap.size := by have := gb.size; first | omega | (simp at this; omega)
  have N_HB := Aside0.mk (below_step HB.out gb)
  have N_K2 := Aside0.mk (blk_below K2.out gb)
  have N_K3 := Aside0.mk (blk_below K3.out gb)
  clear HB K2 K3
  have HB := N_HB
  have K2 := N_K2
  have K3 := N_K3
  clear N_HB N_K2 N_K3
  clear gb
  obtain ⟨gq6, rfl⟩ : ∃ x_, x_ = g_ := ⟨_, rfl⟩
  obtain ⟨lq6, rfl⟩ : ∃ x_, x_ = lo4 := ⟨_, rfl⟩
  obtain ⟨hq6, rfl⟩ : ∃ x_, x_ = hi4 := ⟨_, rfl⟩
  obtain ⟨q17A0, rfl⟩ : ∃ x_, x_ = A4_0 := ⟨_, rfl⟩
  obtain ⟨q17c0, rfl⟩ : ∃ x_, x_ = c4_0 := ⟨_, rfl⟩
  obtain ⟨q17A1, rfl⟩ : ∃ x_, x_ = A4_1 := ⟨_, rfl⟩
  obtain ⟨q17c1, rfl⟩ : ∃ x_, x_ = c4_1 := ⟨_, rfl⟩
  have y2 : w.heap.size < w3.heap.size := by omega
  have z2_0 : w3.cell? ⟨w.heap.size, 0, none⟩ = some (.slice A0_0 l0_0.length c0_0) := (blk_cell K2.out 0).trans rfl
  have z2_1 : w3.cell? ⟨w.heap.size, 1, none⟩ = some (.slice A0_1 l0_1.length c0_1) := (blk_cell K2.out 1).trans rfl
  have z2_2 : w3.cell? ⟨w.heap.size, 2, none⟩ = some (.int .i64 a0_2) := (blk_cell K2.out 2).trans rfl
  have z2_3 : w3.cell? ⟨w.heap.size, 3, none⟩ = some (.bool a0_3) := (blk_cell K2.out 3).trans rfl
  go_wp2_with fail
  clear y2 z2_0 z2_1 z2_2 z2_3
  refine (laws_toDisk.calls k_E7 _ _ l0_0 _ _ l0_1 a0_2 a0_3 r3 r4 r5 r6 _ (Kd.C_below HR0_0.out HB.out) HC0_0.out (Kd.C_below HR0_1.out HB.out) HC0_1.out H_E7.out).mono ?_
  rintro e w4 ⟨q18u0, q18u1, rfl, q18g0, q18g1, gb⟩
  have q18X0 := Aside0.mk (R_iv q18g0 w.heap.size (w3.heap.size) (by have := HB.out.size; first | (simp; done) | (simp; omega) | omega) (by simp))
  clear q18g0
  obtain ⟨q18A0, q18c0, rfl⟩ := Kd.R_slice q18X0.out
  have q18X1 := Aside0.mk (S_iv q18g1 w.heap.size (w3.heap.size) (by have := HB.out.size; first | (simp; done) | (simp; omega) | omega) (by simp))
  clear q18g1
  obtain ⟨q18A1, q18c1, rfl⟩ := Kd.S_slice q18X1.out
  have hz4 : w3.heap.size + 0 ≤ w4.heap.size := by have := gb.size; first | omega | (simp at this; omega)
  have N_HB := Aside0.mk (below_step HB.out gb)
  have N_q17X0 := Aside0.mk (Kd.R_below q17X0.out gb)
  have N_q17X1 := Aside0.mk (Kd.S_below q17X1.out gb)
  have N_K2 := Aside0.mk (blk_below K2.out gb)
  have N_K3 := Aside0.mk (blk_below K3.out gb)
  have N_K6 := Aside0.mk (blk_below K6.out gb)
  clear HB q17X0 q17X1 K2 K3 K6
  have HB := N_HB
  have q17X0 := N_q17X0
  have q17X1 := N_q17X1
  have K2 := N_K2
  have K3 := N_K3
  have K6 := N_K6
  clear N_HB N_q17X0 N_q17X1 N_K2 N_K3 N_K6
  clear gb
  go_wp2_with fail
  obtain ⟨w5, hw_, gb⟩ : ∃ W_, W_ = (w4.alloc (.cells #[.slice q18A0 r3.length q18c0, .slice q18A1 r4.length q18c1, .int .i64 r5, .bool r6] 25)) ∧ Below (w4.alloc (.cells #[.slice q18A0 r3.length q18c0, .slice q18A1 r4.length q18c1, .int .i64 r5, .bool r6] 25)).heap.size (w4.alloc (.cells #[.slice q18A0 r3.length q18c0, .slice q18A1 r4.length q18c1, .int .i64 r5, .bool r6] 25)) W_ := ⟨_, rfl, Below.refl _ _⟩
  rw [← hw_]
  clear hw_
  have hz5 : w4.heap.size + 1 ≤ w5.heap.size := by have := gb.size; first | omega | (simp at this; omega)
  have N_HB := Aside0.mk (below_step (below_alloc HB.out _) gb)
  have N_q17X0 := Aside0.mk (Kd.R_below (Kd.R_alloc q17X0.out _) gb)
  have N_q17X1 := Aside0.mk (Kd.S_below (Kd.S_alloc q17X1.out _) gb)
  have N_q18X0 := Aside0.mk (Kd.R_below (Kd.R_alloc q18X0.out _) gb)
  have N_q18X1 := Aside0.mk (Kd.S_below (Kd.S_alloc q18X1.out _) gb)
  have N_K2 := Aside0.mk (blk_below (blk_alloc K2.out _) gb)
  have N_K3 := Aside0.mk (blk_below (blk_alloc K3.out _) gb)
  have N_K6 := Aside0.mk (blk_below (blk_alloc K6.out _) gb)
  have K7 := Aside0.mk (show w5.heap[w4.heap.size]? = some (.cells #[.slice q18A0 r3.length q18c0, .slice q18A1 r4.length q18c1, .int .i64 r5, .bool r6] 25 (0, 0)) from by have := blk_below (blk_new _ _) gb; simpa using this)
  clear HB q17X0 q17X1 q18X0 q18X1 K2 K3 K6
  have HB := N_HB
  have q17X0 := N_q17X0
  have q17X1 := N_q17X1
  have q18X0 := N_q18X0
  have q18X1 := N_q18X1
  have K2 := N_K2
  have K3 := N_K3
  have K6 := N_K6
  clear N_HB N_q17X0 N_q17X1 N_q18X0 N_q18X1 N_K2 N_K3 N_K6
  clear gb
  have y2 : w.heap.size < w5.heap.size := by omega
  have z2_0 : w5.cell? ⟨w.heap.size, 0, none⟩ = some (.slice A0_0 l0_0.length c0_0) := (blk_cell K2.out 0).trans rfl
  have z2_1 : w5.cell? ⟨w.heap.size, 1, none⟩ = some (.slice A0_1 l0_1.length c0_1) := (blk_cell K2.out 1).trans rfl
  have z2_2 : w5.cell? ⟨w.heap.size, 2, none⟩ = some (.int .i64 a0_2) := (blk_cell K2.out 2).trans rfl
  have z2_3 : w5.cell? ⟨w.heap.size, 3, none⟩ = some (.bool a0_3) := (blk_cell K2.out 3).trans rfl
  have y3 : w.heap.size + 1 < w5.heap.size := by omega
  have z3_0 : w5.cell? ⟨w.heap.size + 1, 0, none⟩ = some (.int .i64 a1_0) := (blk_cell K3.out 0).trans rfl
  have z3_1 : w5.cell? ⟨w.heap.size + 1, 1, none⟩ = some (.int .i64 a1_1) := (blk_cell K3.out 1).trans rfl
  have z3_2 : w5.cell? ⟨w.heap.size + 1, 2, none⟩ = some (.int .i64 a1_2) := (blk_cell K3.out 2).trans rfl
  have y6 : gq6 < w5.heap.size := by omega
  have z6_0 : w5.cell? ⟨gq6, 0, none⟩ = some (.slice q17A0 r12.length q17c0) := (blk_cell K6.out 0).trans rfl
  have z6_1 : w5.cell? ⟨gq6, 1, none⟩ = some (.slice q17A1 r13.length q17c1) := (blk_cell K6.out 1).trans rfl
  have z6_2 : w5.cell? ⟨gq6, 2, none⟩ = some (.int .i64 r14) := (blk_cell K6.out 2).trans rfl
  have z6_3 : w5.cell? ⟨gq6, 3, none⟩ = some (.bool r15) := (blk_cell K6.out 3).trans rfl
  have y7 : w4.heap.size < w5.heap.size := by omega
  have z7_0 : w5.cell? ⟨w4.heap.size, 0, none⟩ = some (.slice q18A0 r3.length q18c0) := (blk_cell K7.out 0).trans rfl
  have z7_1 : w5.cell? ⟨w4.heap.size, 1, none⟩ = some (.slice q18A1 r4.length q18c1) := (blk_cell K7.out 1).trans rfl
  have z7_2 : w5.cell? ⟨w4.heap.size, 2, none⟩ = some (.int .i64 r5) := (blk_cell K7.out 2).trans rfl
  have z7_3 : w5.cell? ⟨w4.heap.size, 3, none⟩ = some (.bool r6) := (blk_cell K7.out 3).trans rfl
  clear y2 z2_0 z2_1 z2_2 z2_3 y3 z3_0 z3_1 z3_2 y6 z6_0 z6_1 z6_2 z6_3 y7 z7_0 z7_1 z7_2 z7_3
  refine start_ (n := 6) (S := fun w' => True) (ds := []) #[false, false, false, false, false, false] (by kernel_rfl) rfl rfl trivial (fun hHeld => ?_); refine with_tabW walk_FnExactWriteSuper.tab7 walk_FnExactWriteSuper.bits7 (fun HT_ HW_ => ?_)
  clear hHeld
  obtain ⟨w6, hw_⟩ : ∃ W_, W_ = w5.drew := ⟨_, rfl⟩
  have gb : Below w5.drew.heap.size w5.drew w6 := by rw [hw_]; exact Below.refl _ _
  rw [← hw_]
  clear hw_
  have hz6 : w5.heap.size + 0 ≤ w6.heap.size := by have := gb.size; first | omega | (simp at this; omega)
  have N_HB := Aside0.mk (below_step (below_drew HB.out) gb)
  have N_q17X0 := Aside0.mk (Kd.R_below (Kd.R_drew q17X0.out) gb)
  have N_q17X1 := Aside0.mk (Kd.S_below (Kd.S_drew q17X1.out) gb)
  have N_q18X0 := Aside0.mk (Kd.R_below (Kd.R_drew q18X0.out) gb)
  have N_q18X1 := Aside0.mk (Kd.S_below (Kd.S_drew q18X1.out) gb)
  have N_K2 := Aside0.mk (blk_below (blk_drew K2.out) gb)
  have N_K3 := Aside0.mk (blk_below (blk_drew K3.out) gb)
  have N_K6 := Aside0.mk (blk_below (blk_drew K6.out) gb)
  have N_K7 := Aside0.mk (blk_below (blk_drew K7.out) gb)
  clear HB q17X0 q17X1 q18X0 q18X1 K2 K3 K6 K7
  have HB := N_HB
  have q17X0 := N_q17X0
  have q17X1 := N_q17X1
  have q18X0 := N_q18X0
  have q18X1 := N_q18X1
  have K2 := N_K2
  have K3 := N_K3
  have K6 := N_K6
  have K7 := N_K7
  clear N_HB N_q17X0 N_q17X1 N_q18X0 N_q18X1 N_K2 N_K3 N_K6 N_K7
  clear gb
  refine inv_at [0, 1, 2, 3, 4, 5] (fun a0_ b a w' => ∃ (A3_0 : Option Addr) (c3_0 : Nat) (A3_1 : Option Addr) (c3_1 : Nat) (lo3 : Nat) (hi3 : Nat) (g_ : Nat) (ws : World), a = putSel a0_ b [(0, 25, .agg #[.slice q18A0 r3.length q18c0, .slice q18A1 r4.length q18c1, .int .i64 r5, .bool r6]), (1, 26, .agg #[.int .i64 a1_0, .int .i64 a1_1, .int .i64 a1_2]), (2, 27, .agg #[.int .i64 r8, .int .i64 r9, .int .i64 r10]), (3, 28, .agg #[.slice A3_0 r12.length c3_0, .slice A3_1 r13.length c3_1, .int .i64 r14, .bool r15]), (4, 8, .pointer (some ⟨g_, 0, none⟩))] ∧ (b 5 = false → w' = ws) ∧ (b 5 = true → w' = ((((ws.setCell ⟨g_, 0, none⟩ (.slice A3_0 r12.length c3_0)).setCell ⟨g_, 1, none⟩ (.slice A3_1 r13.length c3_1)).setCell ⟨g_, 2, none⟩ (.int .i64 r14)).setCell ⟨g_, 3, none⟩ (.bool r15))) ∧ (Below w6.heap.size w6 ws) ∧ (b 3 = true → w6.heap.size ≤ lo3 ∧ lo3 ≤ hi3 ∧ hi3 ≤ ws.heap.size ∧ Kd.R (Kd.int .u8) 5 ws w.heap.size (fun k_ => (lo3 ≤ k_ ∧ k_ < hi3) ∧ True) (.slice A3_0 r12.length c3_0) r12 ∧ Kd.S k79 79 ws w.heap.size (fun k_ => (lo3 ≤ k_ ∧ k_ < hi3) ∧ some k_ ≠ (.slice A3_0 r12.length c3_0 : Value).ownBlock) (.slice A3_1 r13.length c3_1) r13) ∧ (b 4 = true → w6.heap.size ≤ g_ ∧ g_ < ws.heap.size ∧ ws.heap[g_]? = some (.cells #[.slice none 0 0, .slice none 0 0, .int .i64 0, .bool false] 25 (0, 0))) ∧ (b 3 = true → b 4 = true → g_ < lo3 ∨ hi3 ≤ g_)) HT_.out HW_.out (by kernel_rfl) (by kernel_rfl) ?_ ?_ ?_
  · exact ⟨none, 0, none, 0, 0, 0, 0, w6, by simp only [putSel, Bool.false_eq_true, if_false], fun _ => rfl, fun h_ => absurd h_ (by decide), Below.refl _ _, fun h_ => absurd h_ (by decide), fun h_ => absurd h_ (by decide), fun h_ => absurd h_ (by decide)⟩
  · skip
    refine steps_cons ?_ ?_
    · rintro b a w' ⟨A3_0, c3_0, A3_1, c3_1, lo3, hi3, g_, ws, ha, hst0, hst1, hB_, Q3, QA, P3⟩ hb_ hon hoff
      obtain rfl := hst0 (hoff 5 (by kernel_rfl))
      refine ⟨_, rfl, fun K hK => ?_⟩
      have hsz_ : w.heap.size ≤ w'.heap.size := Nat.le_trans HB.out.size hB_.size
      have es_ : a.tmps[7]? = some (.pointer (some ⟨w4.heap.size, 0, none⟩)) := by rw [ha]; exact (putSel_off rfl).trans rfl
      have hc0 : w'.cell? ⟨w4.heap.size, 0, none⟩ = some (.slice q18A0 r3.length q18c0) := (blk_cell (blk_below K7.out hB_) 0).trans rfl
      have hc1 : w'.cell? ⟨w4.heap.size, 1, none⟩ = some (.slice q18A1 r4.length q18c1) := (blk_cell (blk_below K7.out hB_) 1).trans rfl
      have hc2 : w'.cell? ⟨w4.heap.size, 2, none⟩ = some (.int .i64 r5) := (blk_cell (blk_below K7.out hB_) 2).trans rfl
      have hc3 : w'.cell? ⟨w4.heap.size, 3, none⟩ = some (.bool r6) := (blk_cell (blk_below K7.out hB_) 3).trans rfl
      replace ha := Aside0.mk ha
      refine value_ (w1 := w') (v := .agg #[.slice q18A0 r3.length q18c0, .slice q18A1 r4.length q18c1, .int .i64 r5, .bool r6]) (by rfl) rfl ?_ ?_
      · go_simp
        try rfl
      refine hK.out _ _ ⟨A3_0, c3_0, A3_1, c3_1, lo3, hi3, g_, w', (by rw [ha.out]; exact putSel_upk 0 hb_ rfl rfl rfl), fun _ => rfl, fun h_ => absurd ((hoff 5 (by kernel_rfl)).symm.trans ((up_ne (by decide)).symm.trans h_)) (by decide), hB_, fun h0_ => absurd ((hoff 3 (by kernel_rfl)).symm.trans h0_) (by decide), QA, P3⟩
    refine steps_cons ?_ ?_
    · rintro b a w' ⟨A3_0, c3_0, A3_1, c3_1, lo3, hi3, g_, ws, ha, hst0, hst1, hB_, Q3, QA, P3⟩ hb_ hon hoff
      obtain rfl := hst0 (hoff 5 (by kernel_rfl))
      refine ⟨_, rfl, fun K hK => ?_⟩
      have hsz_ : w.heap.size ≤ w'.heap.size := Nat.le_trans HB.out.size hB_.size
      have es_ : a.tmps[3]? = some (.pointer (some ⟨w.heap.size + 1, 0, none⟩)) := by rw [ha]; exact (putSel_off rfl).trans rfl
      have hc0 : w'.cell? ⟨w.heap.size + 1, 0, none⟩ = some (.int .i64 a1_0) := (blk_cell (blk_below K3.out hB_) 0).trans rfl
      have hc1 : w'.cell? ⟨w.heap.size + 1, 1, none⟩ = some (.int .i64 a1_1) := (blk_cell (blk_below K3.out hB_) 1).trans rfl
      have hc2 : w'.cell? ⟨w.heap.size + 1, 2, none⟩ = some (.int .i64 a1_2) := (blk_cell (blk_below K3.out hB_) 2).trans rfl
      replace ha := Aside0.mk ha
      refine value_ (w1 := w') (v := .agg #[.int .i64 a1_0, .int .i64 a1_1, .int .i64 a1_2]) (by rfl) rfl ?_ ?_
      · go_simp
        try rfl
      refine hK.out _ _ ⟨A3_0, c3_0, A3_1, c3_1, lo3, hi3, g_, w', (by rw [ha.out]; exact putSel_upk 1 hb_ rfl rfl rfl), fun _ => rfl, fun h_ => absurd ((hoff 5 (by kernel_rfl)).symm.trans ((up_ne (by decide)).symm.trans h_)) (by decide), hB_, fun h0_ => absurd ((hoff 3 (by kernel_rfl)).symm.trans h0_) (by decide), QA, P3⟩
    refine steps_cons ?_ ?_
    · rintro b a w' ⟨A3_0, c3_0, A3_1, c3_1, lo3, hi3, g_, ws, ha, hst0, hst1, hB_, Q3, QA, P3⟩ hb_ hon hoff
      obtain rfl := hst0 (hoff 5 (by kernel_rfl))
      refine ⟨_, rfl, fun K hK => ?_⟩
      have hsz_ : w.heap.size ≤ w'.heap.size := Nat.le_trans HB.out.size hB_.size
      have e26 : a.tmps[26]? = some (.agg #[.int .i64 a1_0, .int .i64 a1_1, .int .i64 a1_2]) := by rw [ha]; exact putSel_on (e := (1, 26, .agg #[.int .i64 a1_0, .int .i64 a1_1, .int .i64 a1_2])) 1 rfl rfl (hon 1 (by kernel_rfl)) rfl
      replace ha := Aside0.mk ha
      refine goes_ Try.func32 (by kernel_rfl) rfl #[.agg #[.int .i64 a1_0, .int .i64 a1_1, .int .i64 a1_2]] (by rfl) rfl rfl (by first | (simp only [List.map_toArray, List.map_cons, List.map_nil, Act.eval, Array.getD_eq_getD_getElem?, Option.getD_some, e26]; done) | (simp only [List.map_toArray, List.map_cons, List.map_nil, Act.eval, Array.getD_eq_getD_getElem?, Option.getD_some, e26]; rfl)) ?_
      refine (laws_toSuper.calls a1_0 a1_1 a1_2 r8 r9 r10 _  H_E11.out).mono ?_
      rintro e w9 ⟨rfl, gb⟩
      refine ⟨_, rfl, ?_⟩
      refine hK.out _ _ ⟨A3_0, c3_0, A3_1, c3_1, lo3, hi3, g_, w9, (by rw [ha.out]; exact putSel_upk 2 hb_ rfl rfl rfl), fun _ => rfl, fun h_ => absurd ((hoff 5 (by kernel_rfl)).symm.trans ((up_ne (by decide)).symm.trans h_)) (by decide), (below_step hB_ gb), fun h0_ => absurd ((hoff 3 (by kernel_rfl)).symm.trans h0_) (by decide), fun h0_ => ⟨(QA h0_).1, Nat.lt_of_lt_of_le (QA h0_).2.1 gb.size, blk_below (QA h0_).2.2 gb⟩, P3⟩
    refine steps_cons ?_ ?_
    · rintro b a w' ⟨A3_0, c3_0, A3_1, c3_1, lo3, hi3, g_, ws, ha, hst0, hst1, hB_, Q3, QA, P3⟩ hb_ hon hoff
      obtain rfl := hst0 (hoff 5 (by kernel_rfl))
      refine ⟨_, rfl, fun K hK => ?_⟩
      have hsz_ : w.heap.size ≤ w'.heap.size := Nat.le_trans HB.out.size hB_.size
      have e25 : a.tmps[25]? = some (.agg #[.slice q18A0 r3.length q18c0, .slice q18A1 r4.length q18c1, .int .i64 r5, .bool r6]) := by rw [ha]; exact putSel_on (e := (0, 25, .agg #[.slice q18A0 r3.length q18c0, .slice q18A1 r4.length q18c1, .int .i64 r5, .bool r6])) 0 rfl rfl (hon 0 (by kernel_rfl)) rfl
      have e27 : a.tmps[27]? = some (.agg #[.int .i64 r8, .int .i64 r9, .int .i64 r10]) := by rw [ha]; exact putSel_on (e := (2, 27, .agg #[.int .i64 r8, .int .i64 r9, .int .i64 r10])) 2 rfl rfl (hon 2 (by kernel_rfl)) rfl
      replace ha := Aside0.mk ha
      refine goes_ Try.func33 (by kernel_rfl) rfl #[.agg #[.slice q18A0 r3.length q18c0, .slice q18A1 r4.length q18c1, .int .i64 r5, .bool r6], .agg #[.int .i64 r8, .int .i64 r9, .int .i64 r10]] (by rfl) rfl rfl (by first | (simp only [List.map_toArray, List.map_cons, List.map_nil, Act.eval, Array.getD_eq_getD_getElem?, Option.getD_some, e25, e27]; done) | (simp only [List.map_toArray, List.map_cons, List.map_nil, Act.eval, Array.getD_eq_getD_getElem?, Option.getD_some, e25, e27]; rfl)) ?_
      refine (impl_WriteSuper.calls k_E19 _ _ r3 _ _ r4 r5 r6 r8 r9 r10 r12 r13 r14 r15 _ (Kd.C_below (Kd.R_reads' q18X0.out).2.2 hB_) (Kd.R_reads' q18X0.out).2.1 (Kd.C_below (Kd.S_reads' q18X1.out).2.2 hB_) (Kd.S_reads' q18X1.out).2.1 H_E19.out).mono ?_
      rintro e w9 ⟨u0, u1, rfl, g0, g1, gb⟩
      obtain ⟨A_0, c_0, rfl⟩ := Kd.R_slice g0
      obtain ⟨A_1, c_1, rfl⟩ := Kd.S_slice g1
      refine ⟨_, rfl, ?_⟩
      refine hK.out _ _ ⟨A_0, c_0, A_1, c_1, w'.heap.size, w9.heap.size, g_, w9, (by rw [ha.out]; exact putSel_upk 3 hb_ rfl rfl rfl), fun _ => rfl, fun h_ => absurd ((hoff 5 (by kernel_rfl)).symm.trans ((up_ne (by decide)).symm.trans h_)) (by decide), (below_step hB_ gb), fun _ => ⟨hB_.size, gb.size, Nat.le_refl _, R_iv g0 w.heap.size w'.heap.size hsz_ (Nat.le_refl _), S_iv g1 w.heap.size w'.heap.size hsz_ (Nat.le_refl _)⟩, fun h0_ => ⟨(QA h0_).1, Nat.lt_of_lt_of_le (QA h0_).2.1 gb.size, blk_below (QA h0_).2.2 gb⟩, fun _ h1_ => .inl (QA h1_).2.1⟩
    refine steps_cons ?_ ?_
    · rintro b a w' ⟨A3_0, c3_0, A3_1, c3_1, lo3, hi3, g_, ws, ha, hst0, hst1, hB_, Q3, QA, P3⟩ hb_ hon hoff
      obtain rfl := hst0 (hoff 5 (by kernel_rfl))
      refine ⟨_, rfl, fun K hK => ?_⟩
      have hsz_ : w.heap.size ≤ w'.heap.size := Nat.le_trans HB.out.size hB_.size
      replace ha := Aside0.mk ha
      refine value_ (w1 := w'.alloc (.cells #[.slice none 0 0, .slice none 0 0, .int .i64 0, .bool false] 25)) (v := .pointer (some ⟨w'.heap.size, 0, none⟩)) (by rfl) rfl ?_ ?_
      · go_simp
        try rfl
      have gb := below_alloc (Below.refl w'.heap.size w') (.cells #[.slice none 0 0, .slice none 0 0, .int .i64 0, .bool false] 25)
      refine hK.out _ _ ⟨A3_0, c3_0, A3_1, c3_1, lo3, hi3, w'.heap.size, (w'.alloc (.cells #[.slice none 0 0, .slice none 0 0, .int .i64 0, .bool false] 25)), (by rw [ha.out]; exact putSel_upk 4 hb_ rfl rfl rfl), fun _ => rfl, fun h_ => absurd ((hoff 5 (by kernel_rfl)).symm.trans ((up_ne (by decide)).symm.trans h_)) (by decide), (below_step hB_ gb), fun h0_ => ⟨(Q3 h0_).1, (Q3 h0_).2.1, Nat.le_trans (Q3 h0_).2.2.1 gb.size, Kd.R_below (Q3 h0_).2.2.2.1 gb, Kd.S_below (Q3 h0_).2.2.2.2 gb⟩, fun _ => ⟨hB_.size, by simp, blk_new _ _⟩, fun h1_ _ => .inr (Q3 h1_).2.2.1⟩
    refine steps_cons ?_ ?_
    · rintro b a w' ⟨A3_0, c3_0, A3_1, c3_1, lo3, hi3, g_, ws, ha, hst0, hst1, hB_, Q3, QA, P3⟩ hb_ hon hoff
      obtain rfl := hst0 hb_
      refine ⟨_, rfl, fun K hK => ?_⟩
      have hsz_ : w.heap.size ≤ w'.heap.size := Nat.le_trans HB.out.size hB_.size
      have e8 : a.tmps[8]? = some (.pointer (some ⟨g_, 0, none⟩)) := by rw [ha]; exact putSel_on (e := (4, 8, .pointer (some ⟨g_, 0, none⟩))) 4 rfl rfl (hon 4 (by kernel_rfl)) rfl
      have e28 : a.tmps[28]? = some (.agg #[.slice A3_0 r12.length c3_0, .slice A3_1 r13.length c3_1, .int .i64 r14, .bool r15]) := by rw [ha]; exact putSel_on (e := (3, 28, .agg #[.slice A3_0 r12.length c3_0, .slice A3_1 r13.length c3_1, .int .i64 r14, .bool r15])) 3 rfl rfl (hon 3 (by kernel_rfl)) rfl
      replace ha := Aside0.mk ha
      obtain ⟨hg1, hg2, hgk⟩ := QA (hon 4 (by kernel_rfl))
      obtain ⟨z0, z1, z2, z3, y0, y1, y2, y3⟩ := blk_cells4 hgk
      refine skip_ (w1 := ((((w'.setCell ⟨g_, 0, none⟩ (.slice A3_0 r12.length c3_0)).setCell ⟨g_, 1, none⟩ (.slice A3_1 r13.length c3_1)).setCell ⟨g_, 2, none⟩ (.int .i64 r14)).setCell ⟨g_, 3, none⟩ (.bool r15))) (by rfl) rfl ?_ ?_
      · go_simp
        try rfl
      refine hK.out _ _ ⟨A3_0, c3_0, A3_1, c3_1, lo3, hi3, g_, w', (by rw [ha.out]; exact (putSel_same rfl).symm), fun h_ => absurd ((up_self b 5).symm.trans h_) (by decide), fun _ => rfl, hB_, Q3, QA, P3⟩
    exact steps_nil
  rintro b a w7 hall ⟨A3_0, c3_0, A3_1, c3_1, lo3, hi3, g_, ws, ha, hst0, hst1, hB_, Q3, QA, P3⟩
  have hb0_ := hall 0 (by kernel_rfl)
  have hb1_ := hall 1 (by kernel_rfl)
  have hb2_ := hall 2 (by kernel_rfl)
  have hb3_ := hall 3 (by kernel_rfl)
  have hb4_ := hall 4 (by kernel_rfl)
  have hb5_ := hall 5 (by kernel_rfl)
  subst ha
  simp only [putSel, hb0_, hb1_, hb2_, hb3_, hb4_, if_true, Act.put, List.setIfInBounds_toArray, List.set_cons_zero, List.set_cons_succ]
  have hw_ := hst1 hb5_
  obtain ⟨hg1_8, hg2_, hgk_⟩ := QA hb4_
  have hga_8 := P3 hb3_ hb4_
  obtain ⟨hlo_8, hlh_8, hhi_, hf0_, hf1_⟩ := Q3 hb3_
  have hgs_ : w7.heap.size = ws.heap.size := by rw [hw_]; simp
  have gb : Below w6.heap.size w6 w7 := by rw [hw_]; exact below_set4 hB_ hg1_8
  have q20X0 := Aside0.mk (show Kd.R (Kd.int .u8) 5 w7 w.heap.size (fun k_ => (lo3 ≤ k_ ∧ k_ < hi3) ∧ True) (.slice A3_0 r12.length c3_0) r12 from by rw [hw_]; exact R_set4 hf0_ hgk_ (by decide))
  have q20X1 := Aside0.mk (show Kd.S k79 79 w7 w.heap.size (fun k_ => (lo3 ≤ k_ ∧ k_ < hi3) ∧ some k_ ≠ (.slice A3_0 r12.length c3_0 : Value).ownBlock) (.slice A3_1 r13.length c3_1) r13 from by rw [hw_]; exact S_set4 hf1_ hgk_ (by decide))
  have K8 := Aside0.mk (show w7.heap[g_]? = some (.cells #[.slice A3_0 r12.length c3_0, .slice A3_1 r13.length c3_1, .int .i64 r14, .bool r15] 25 (0, 0)) from by rw [hw_]; exact blk_set4 hgk_)
  have hgl_8 : g_ < w7.heap.size := by omega
  have hhl_8 : hi3 ≤ w7.heap.size := by omega
  clear hall hst0 hst1 hB_ hw_ hgk_ hgs_ hg2_ hhi_ QA Q3 P3 hb0_ hb1_ hb2_ hb3_ hb4_ hb5_ hf0_ hf1_
  have hz7 : w6.heap.size + 0 ≤ w7.heap.size := by have := gb.size; first | omega | (simp at this; omega)
  have N_HB := Aside0.mk (below_step HB.out gb)
  have N_q17X0 := Aside0.mk (Kd.R_below q17X0.out gb)
  have N_q17X1 := Aside0.mk (Kd.S_below q17X1.out gb)
  have N_q18X0 := Aside0.mk (Kd.R_below q18X0.out gb)
  have N_q18X1 := Aside0.mk (Kd.S_below q18X1.out gb)
  have N_K2 := Aside0.mk (blk_below K2.out gb)
  have N_K3 := Aside0.mk (blk_below K3.out gb)
  have N_K6 := Aside0.mk (blk_below K6.out gb)
  have N_K7 := Aside0.mk (blk_below K7.out gb)
  clear HB q17X0 q17X1 q18X0 q18X1 K2 K3 K6 K7
  have HB := N_HB
  have q17X0 := N_q17X0
  have q17X1 := N_q17X1
  have q18X0 := N_q18X0
  have q18X1 := N_q18X1
  have K2 := N_K2
  have K3 := N_K3
  have K6 := N_K6
  have K7 := N_K7
  clear N_HB N_q17X0 N_q17X1 N_q18X0 N_q18X1 N_K2 N_K3 N_K6 N_K7
  clear gb
  obtain ⟨gq8, rfl⟩ : ∃ x_, x_ = g_ := ⟨_, rfl⟩
  obtain ⟨lq8, rfl⟩ : ∃ x_, x_ = lo3 := ⟨_, rfl⟩
  obtain ⟨hq8, rfl⟩ : ∃ x_, x_ = hi3 := ⟨_, rfl⟩
  obtain ⟨q20A0, rfl⟩ : ∃ x_, x_ = A3_0 := ⟨_, rfl⟩
  obtain ⟨q20c0, rfl⟩ : ∃ x_, x_ = c3_0 := ⟨_, rfl⟩
  obtain ⟨q20A1, rfl⟩ : ∃ x_, x_ = A3_1 := ⟨_, rfl⟩
  obtain ⟨q20c1, rfl⟩ : ∃ x_, x_ = c3_1 := ⟨_, rfl⟩
  have y8 : gq8 < w7.heap.size := by omega
  have z8_0 : w7.cell? ⟨gq8, 0, none⟩ = some (.slice q20A0 r12.length q20c0) := (blk_cell K8.out 0).trans rfl
  have z8_1 : w7.cell? ⟨gq8, 1, none⟩ = some (.slice q20A1 r13.length q20c1) := (blk_cell K8.out 1).trans rfl
  have z8_2 : w7.cell? ⟨gq8, 2, none⟩ = some (.int .i64 r14) := (blk_cell K8.out 2).trans rfl
  have z8_3 : w7.cell? ⟨gq8, 3, none⟩ = some (.bool r15) := (blk_cell K8.out 3).trans rfl
  have y6 : gq6 < w7.heap.size := by omega
  have z6_0 : w7.cell? ⟨gq6, 0, none⟩ = some (.slice q17A0 r12.length q17c0) := (blk_cell K6.out 0).trans rfl
  have z6_1 : w7.cell? ⟨gq6, 1, none⟩ = some (.slice q17A1 r13.length q17c1) := (blk_cell K6.out 1).trans rfl
  have z6_2 : w7.cell? ⟨gq6, 2, none⟩ = some (.int .i64 r14) := (blk_cell K6.out 2).trans rfl
  have z6_3 : w7.cell? ⟨gq6, 3, none⟩ = some (.bool r15) := (blk_cell K6.out 3).trans rfl
  go_wp2_with fail
  clear y8 z8_0 z8_1 z8_2 z8_3 y6 z6_0 z6_1 z6_2 z6_3
  refine (laws_eqDisk.calls k_E21 _ _ r12 _ _ r13 r14 r15 _ _ r12 _ _ r13 r14 r15 true _ (Kd.R_reads' q20X0.out).2.2 (Kd.R_reads' q20X0.out).2.1 (Kd.S_reads' q20X1.out).2.2 (Kd.S_reads' q20X1.out).2.1 (Kd.R_reads' q17X0.out).2.2 (Kd.R_reads' q17X0.out).2.1 (Kd.S_reads' q17X1.out).2.2 (Kd.S_reads' q17X1.out).2.1 H_E21.out).mono ?_
  rintro e w8 ⟨rfl, gb⟩
  have hz8 : w7.heap.size + 0 ≤ w8.heap.size := by have := gb.size; first | omega | (simp at this; omega)
  have N_HB := Aside0.mk (below_step HB.out gb)
  have N_q17X0 := Aside0.mk (Kd.R_below q17X0.out gb)
  have N_q17X1 := Aside0.mk (Kd.S_below q17X1.out gb)
  have N_q18X0 := Aside0.mk (Kd.R_below q18X0.out gb)
  have N_q18X1 := Aside0.mk (Kd.S_below q18X1.out gb)
  have N_q20X0 := Aside0.mk (Kd.R_below q20X0.out gb)
  have N_q20X1 := Aside0.mk (Kd.S_below q20X1.out gb)
  have N_K2 := Aside0.mk (blk_below K2.out gb)
  have N_K3 := Aside0.mk (blk_below K3.out gb)
  have N_K6 := Aside0.mk (blk_below K6.out gb)
  have N_K7 := Aside0.mk (blk_below K7.out gb)
  have N_K8 := Aside0.mk (blk_below K8.out gb)
  clear HB q17X0 q17X1 q18X0 q18X1 q20X0 q20X1 K2 K3 K6 K7 K8
  have HB := N_HB
  have q17X0 := N_q17X0
  have q17X1 := N_q17X1
  have q18X0 := N_q18X0
  have q18X1 := N_q18X1
  have q20X0 := N_q20X0
  have q20X1 := N_q20X1
  have K2 := N_K2
  have K3 := N_K3
  have K6 := N_K6
  have K7 := N_K7
  have K8 := N_K8
  clear N_HB N_q17X0 N_q17X1 N_q18X0 N_q18X1 N_q20X0 N_q20X1 N_K2 N_K3 N_K6 N_K7 N_K8
  clear gb
  have y7 : w4.heap.size < w8.heap.size := by omega
  have z7_0 : w8.cell? ⟨w4.heap.size, 0, none⟩ = some (.slice q18A0 r3.length q18c0) := (blk_cell K7.out 0).trans rfl
  have z7_1 : w8.cell? ⟨w4.heap.size, 1, none⟩ = some (.slice q18A1 r4.length q18c1) := (blk_cell K7.out 1).trans rfl
  have z7_2 : w8.cell? ⟨w4.heap.size, 2, none⟩ = some (.int .i64 r5) := (blk_cell K7.out 2).trans rfl
  have z7_3 : w8.cell? ⟨w4.heap.size, 3, none⟩ = some (.bool r6) := (blk_cell K7.out 3).trans rfl
  have y2 : w.heap.size < w8.heap.size := by omega
  have z2_0 : w8.cell? ⟨w.heap.size, 0, none⟩ = some (.slice A0_0 l0_0.length c0_0) := (blk_cell K2.out 0).trans rfl
  have z2_1 : w8.cell? ⟨w.heap.size, 1, none⟩ = some (.slice A0_1 l0_1.length c0_1) := (blk_cell K2.out 1).trans rfl
  have z2_2 : w8.cell? ⟨w.heap.size, 2, none⟩ = some (.int .i64 a0_2) := (blk_cell K2.out 2).trans rfl
  have z2_3 : w8.cell? ⟨w.heap.size, 3, none⟩ = some (.bool a0_3) := (blk_cell K2.out 3).trans rfl
  go_wp2_with fail
  go_region_held3 (fun w' => w'.cell? ⟨w4.heap.size, 0, none⟩ = some (.slice q18A0 r3.length q18c0) ∧ w'.cell? ⟨w4.heap.size, 1, none⟩ = some (.slice q18A1 r4.length q18c1) ∧ w'.cell? ⟨w4.heap.size, 2, none⟩ = some (.int .i64 r5) ∧ w'.cell? ⟨w4.heap.size, 3, none⟩ = some (.bool r6) ∧ w'.cell? ⟨w.heap.size, 0, none⟩ = some (.slice A0_0 l0_0.length c0_0) ∧ w'.cell? ⟨w.heap.size, 1, none⟩ = some (.slice A0_1 l0_1.length c0_1) ∧ w'.cell? ⟨w.heap.size, 2, none⟩ = some (.int .i64 a0_2) ∧ w'.cell? ⟨w.heap.size, 3, none⟩ = some (.bool a0_3)) (go_keep) (first | (go_at_call 21; (refine (laws_toDisk.calls k_E7 _ _ l0_0 _ _ l0_1 a0_2 a0_3 r3 r4 r5 r6 _ (Kd.C_below HR0_0.out (below_drew HB.out)) HC0_0.out (Kd.C_below HR0_1.out (below_drew HB.out)) HC0_1.out H_E7.out).mono ?_); (rintro e w9 ⟨q22u0, q22u1, rfl, q22g0, q22g1, gb⟩); (have q22X0 := Aside0.mk (R_iv q22g0 w.heap.size (w8.heap.size) (by have := HB.out.size; first | (simp; done) | (simp; omega) | omega) (by simp))); (clear q22g0); (obtain ⟨q22A0, q22c0, rfl⟩ := Kd.R_slice q22X0.out); (have q22X1 := Aside0.mk (S_iv q22g1 w.heap.size (w8.heap.size) (by have := HB.out.size; first | (simp; done) | (simp; omega) | omega) (by simp))); (clear q22g1); (obtain ⟨q22A1, q22c1, rfl⟩ := Kd.S_slice q22X1.out); (have hz9 : w8.heap.size + 0 ≤ w9.heap.size := by have := gb.size; first | omega | (simp at this; omega)); (have N_HB := Aside0.mk (below_step (below_drew HB.out) gb)); (have N_q17X0 := Aside0.mk (Kd.R_below (Kd.R_drew q17X0.out) gb)); (have N_q17X1 := Aside0.mk (Kd.S_below (Kd.S_drew q17X1.out) gb)); (have N_q18X0 := Aside0.mk (Kd.R_below (Kd.R_drew q18X0.out) gb)); (have N_q18X1 := Aside0.mk (Kd.S_below (Kd.S_drew q18X1.out) gb)); (have N_q20X0 := Aside0.mk (Kd.R_below (Kd.R_drew q20X0.out) gb)); (have N_q20X1 := Aside0.mk (Kd.S_below (Kd.S_drew q20X1.out) gb)); (have N_K2 := Aside0.mk (blk_below (blk_drew K2.out) gb)); (have N_K3 := Aside0.mk (blk_below (blk_drew K3.out) gb)); (have N_K6 := Aside0.mk (blk_below (blk_drew K6.out) gb)); (have N_K7 := Aside0.mk (blk_below (blk_drew K7.out) gb)); (have N_K8 := Aside0.mk (blk_below (blk_drew K8.out) gb)); (clear HB q17X0 q17X1 q18X0 q18X1 q20X0 q20X1 K2 K3 K6 K7 K8); (have HB := N_HB); (have q17X0 := N_q17X0); (have q17X1 := N_q17X1); (have q18X0 := N_q18X0); (have q18X1 := N_q18X1); (have q20X0 := N_q20X0); (have q20X1 := N_q20X1); (have K2 := N_K2); (have K3 := N_K3); (have K6 := N_K6); (have K7 := N_K7); (have K8 := N_K8); (clear N_HB N_q17X0 N_q17X1 N_q18X0 N_q18X1 N_q20X0 N_q20X1 N_K2 N_K3 N_K6 N_K7 N_K8); (clear gb); (clear y7 z7_0 z7_1 z7_2 z7_3 y2 z2_0 z2_1 z2_2 z2_3); (have y7 : w4.heap.size < w9.heap.size := by omega); (have z7_0 : w9.cell? ⟨w4.heap.size, 0, none⟩ = some (.slice q18A0 r3.length q18c0) := (blk_cell K7.out 0).trans rfl); (have z7_1 : w9.cell? ⟨w4.heap.size, 1, none⟩ = some (.slice q18A1 r4.length q18c1) := (blk_cell K7.out 1).trans rfl); (have z7_2 : w9.cell? ⟨w4.heap.size, 2, none⟩ = some (.int .i64 r5) := (blk_cell K7.out 2).trans rfl); (have z7_3 : w9.cell? ⟨w4.heap.size, 3, none⟩ = some (.bool r6) := (blk_cell K7.out 3).trans rfl); (have y2 : w.heap.size < w9.heap.size := by omega); (have z2_0 : w9.cell? ⟨w.heap.size, 0, none⟩ = some (.slice A0_0 l0_0.length c0_0) := (blk_cell K2.out 0).trans rfl); (have z2_1 : w9.cell? ⟨w.heap.size, 1, none⟩ = some (.slice A0_1 l0_1.length c0_1) := (blk_cell K2.out 1).trans rfl); (have z2_2 : w9.cell? ⟨w.heap.size, 2, none⟩ = some (.int .i64 a0_2) := (blk_cell K2.out 2).trans rfl); (have z2_3 : w9.cell? ⟨w.heap.size, 3, none⟩ = some (.bool a0_3) := (blk_cell K2.out 3).trans rfl)) | (go_at_call 24; (refine (laws_eqDisk.calls k_E23 _ _ r3 _ _ r4 r5 r6 _ _ r3 _ _ r4 r5 r6 true _ (Kd.R_reads' q18X0.out).2.2 (Kd.R_reads' q18X0.out).2.1 (Kd.S_reads' q18X1.out).2.2 (Kd.S_reads' q18X1.out).2.1 (Kd.R_reads' q22X0.out).2.2 (Kd.R_reads' q22X0.out).2.1 (Kd.S_reads' q22X1.out).2.2 (Kd.S_reads' q22X1.out).2.1 H_E23.out).mono ?_); (rintro e w10 ⟨rfl, gb⟩); (have hz10 : w9.heap.size + 0 ≤ w10.heap.size := by have := gb.size; first | omega | (simp at this; omega)); (have N_HB := Aside0.mk (below_step HB.out gb)); (have N_q17X0 := Aside0.mk (Kd.R_below q17X0.out gb)); (have N_q17X1 := Aside0.mk (Kd.S_below q17X1.out gb)); (have N_q18X0 := Aside0.mk (Kd.R_below q18X0.out gb)); (have N_q18X1 := Aside0.mk (Kd.S_below q18X1.out gb)); (have N_q20X0 := Aside0.mk (Kd.R_below q20X0.out gb)); (have N_q20X1 := Aside0.mk (Kd.S_below q20X1.out gb)); (have N_q22X0 := Aside0.mk (Kd.R_below q22X0.out gb)); (have N_q22X1 := Aside0.mk (Kd.S_below q22X1.out gb)); (have N_K2 := Aside0.mk (blk_below K2.out gb)); (have N_K3 := Aside0.mk (blk_below K3.out gb)); (have N_K6 := Aside0.mk (blk_below K6.out gb)); (have N_K7 := Aside0.mk (blk_below K7.out gb)); (have N_K8 := Aside0.mk (blk_below K8.out gb)); (clear HB q17X0 q17X1 q18X0 q18X1 q20X0 q20X1 q22X0 q22X1 K2 K3 K6 K7 K8); (have HB := N_HB); (have q17X0 := N_q17X0); (have q17X1 := N_q17X1); (have q18X0 := N_q18X0); (have q18X1 := N_q18X1); (have q20X0 := N_q20X0); (have q20X1 := N_q20X1); (have q22X0 := N_q22X0); (have q22X1 := N_q22X1); (have K2 := N_K2); (have K3 := N_K3); (have K6 := N_K6); (have K7 := N_K7); (have K8 := N_K8); (clear N_HB N_q17X0 N_q17X1 N_q18X0 N_q18X1 N_q20X0 N_q20X1 N_q22X0 N_q22X1 N_K2 N_K3 N_K6 N_K7 N_K8); (clear gb); (clear y7 z7_0 z7_1 z7_2 z7_3 y2 z2_0 z2_1 z2_2 z2_3); (have y7 : w4.heap.size < w10.heap.size := by omega); (have z7_0 : w10.cell? ⟨w4.heap.size, 0, none⟩ = some (.slice q18A0 r3.length q18c0) := (blk_cell K7.out 0).trans rfl); (have z7_1 : w10.cell? ⟨w4.heap.size, 1, none⟩ = some (.slice q18A1 r4.length q18c1) := (blk_cell K7.out 1).trans rfl); (have z7_2 : w10.cell? ⟨w4.heap.size, 2, none⟩ = some (.int .i64 r5) := (blk_cell K7.out 2).trans rfl); (have z7_3 : w10.cell? ⟨w4.heap.size, 3, none⟩ = some (.bool r6) := (blk_cell K7.out 3).trans rfl); (have y2 : w.heap.size < w10.heap.size := by omega); (have z2_0 : w10.cell? ⟨w.heap.size, 0, none⟩ = some (.slice A0_0 l0_0.length c0_0) := (blk_cell K2.out 0).trans rfl); (have z2_1 : w10.cell? ⟨w.heap.size, 1, none⟩ = some (.slice A0_1 l0_1.length c0_1) := (blk_cell K2.out 1).trans rfl); (have z2_2 : w10.cell? ⟨w.heap.size, 2, none⟩ = some (.int .i64 a0_2) := (blk_cell K2.out 2).trans rfl); (have z2_3 : w10.cell? ⟨w.heap.size, 3, none⟩ = some (.bool a0_3) := (blk_cell K2.out 3).trans rfl)))
  clear y7 z7_0 z7_1 z7_2 z7_3 y2 z2_0 z2_1 z2_2 z2_3
  have y7 : w4.heap.size < w10.heap.size := by omega
  have z7_0 : w10.cell? ⟨w4.heap.size, 0, none⟩ = some (.slice q18A0 r3.length q18c0) := (blk_cell K7.out 0).trans rfl
  have z7_1 : w10.cell? ⟨w4.heap.size, 1, none⟩ = some (.slice q18A1 r4.length q18c1) := (blk_cell K7.out 1).trans rfl
  have z7_2 : w10.cell? ⟨w4.heap.size, 2, none⟩ = some (.int .i64 r5) := (blk_cell K7.out 2).trans rfl
  have z7_3 : w10.cell? ⟨w4.heap.size, 3, none⟩ = some (.bool r6) := (blk_cell K7.out 3).trans rfl
  go_wp2_with fail
  clear y7 z7_0 z7_1 z7_2 z7_3
  refine (laws_markDisk.own k_E26 k_E29 (w3.heap.size) (w4.heap.size) _ _ r5 r6 r3 r4 1 m24 m27 l25 l28 w _ (by have := HB.out.size; omega) HB.out q18X0.out q18X1.out H_E26.out H_E29.out).mono ?_
  rintro e w11 ⟨rfl, g_0, g_1, gB, hk⟩
  have hz11 : w10.heap.size + 0 ≤ w11.heap.size := by have := hk.1; first | omega | (simp at this; omega)
  have N_q17X0 := Aside0.mk (Kd.R_kept q17X0.out hk (fun k hk1 hk2 => by have := hk1.1; omega))
  have N_q17X1 := Aside0.mk (Kd.S_kept q17X1.out hk (fun k hk1 hk2 => by have := hk1.1; omega))
  have N_q20X0 := Aside0.mk (Kd.R_kept q20X0.out hk (fun k hk1 hk2 => by have := hk1.1; omega))
  have N_q20X1 := Aside0.mk (Kd.S_kept q20X1.out hk (fun k hk1 hk2 => by have := hk1.1; omega))
  have N_q22X0 := Aside0.mk (Kd.R_kept q22X0.out hk (fun k hk1 hk2 => by have := hk1.1; omega))
  have N_q22X1 := Aside0.mk (Kd.S_kept q22X1.out hk (fun k hk1 hk2 => by have := hk1.1; omega))
  have N_K2 := Aside0.mk (blk_kept K2.out hk (fun hk2 => by omega))
  have N_K3 := Aside0.mk (blk_kept K3.out hk (fun hk2 => by omega))
  have N_K6 := Aside0.mk (blk_kept K6.out hk (fun hk2 => by omega))
  have N_K7 := Aside0.mk (blk_kept K7.out hk (fun hk2 => by omega))
  have N_K8 := Aside0.mk (blk_kept K8.out hk (fun hk2 => by omega))
  clear q17X0 q17X1 q20X0 q20X1 q22X0 q22X1 K2 K3 K6 K7 K8
  have q17X0 := N_q17X0
  have q17X1 := N_q17X1
  have q20X0 := N_q20X0
  have q20X1 := N_q20X1
  have q22X0 := N_q22X0
  have q22X1 := N_q22X1
  have K2 := N_K2
  have K3 := N_K3
  have K6 := N_K6
  have K7 := N_K7
  have K8 := N_K8
  clear N_q17X0 N_q17X1 N_q20X0 N_q20X1 N_q22X0 N_q22X1 N_K2 N_K3 N_K6 N_K7 N_K8
  clear HB hk
  have HB := Aside0.mk gB
  clear gB
  clear q18X0
  have q18X0 := Aside0.mk g_0
  clear g_0
  clear q18X1
  have q18X1 := Aside0.mk g_1
  clear g_1
  have ev_ : (.slice q18A0 r3.length q18c0 : Value) = .slice q18A0 l25.length q18c0 := by rw [(Kd.R_reads' q18X0.out).1]
  try rw [ev_] at q18X0
  try rw [ev_] at q18X1
  try rw [ev_] at K7
  try rw [ev_]
  clear ev_
  have ev_ : (.slice q18A1 r4.length q18c1 : Value) = .slice q18A1 l28.length q18c1 := by rw [(Kd.S_reads' q18X1.out).1]
  try rw [ev_] at q18X0
  try rw [ev_] at q18X1
  try rw [ev_] at K7
  try rw [ev_]
  clear ev_
  clear q18X0 q18X1 K7
  have y8 : gq8 < w11.heap.size := by omega
  have z8_0 : w11.cell? ⟨gq8, 0, none⟩ = some (.slice q20A0 r12.length q20c0) := (blk_cell K8.out 0).trans rfl
  have z8_1 : w11.cell? ⟨gq8, 1, none⟩ = some (.slice q20A1 r13.length q20c1) := (blk_cell K8.out 1).trans rfl
  have z8_2 : w11.cell? ⟨gq8, 2, none⟩ = some (.int .i64 r14) := (blk_cell K8.out 2).trans rfl
  have z8_3 : w11.cell? ⟨gq8, 3, none⟩ = some (.bool r15) := (blk_cell K8.out 3).trans rfl
  have y6 : gq6 < w11.heap.size := by omega
  have z6_0 : w11.cell? ⟨gq6, 0, none⟩ = some (.slice q17A0 r12.length q17c0) := (blk_cell K6.out 0).trans rfl
  have z6_1 : w11.cell? ⟨gq6, 1, none⟩ = some (.slice q17A1 r13.length q17c1) := (blk_cell K6.out 1).trans rfl
  have z6_2 : w11.cell? ⟨gq6, 2, none⟩ = some (.int .i64 r14) := (blk_cell K6.out 2).trans rfl
  have z6_3 : w11.cell? ⟨gq6, 3, none⟩ = some (.bool r15) := (blk_cell K6.out 3).trans rfl
  go_wp2_with fail
  clear y8 z8_0 z8_1 z8_2 z8_3 y6 z6_0 z6_1 z6_2 z6_3
  refine (laws_eqDisk.calls k_E21 _ _ r12 _ _ r13 r14 r15 _ _ r12 _ _ r13 r14 r15 true _ (Kd.R_reads' q20X0.out).2.2 (Kd.R_reads' q20X0.out).2.1 (Kd.S_reads' q20X1.out).2.2 (Kd.S_reads' q20X1.out).2.1 (Kd.R_reads' q17X0.out).2.2 (Kd.R_reads' q17X0.out).2.1 (Kd.S_reads' q17X1.out).2.2 (Kd.S_reads' q17X1.out).2.1 H_E21.out).mono ?_
  rintro e w12 ⟨rfl, gb⟩
  have hz12 : w11.heap.size + 0 ≤ w12.heap.size := by have := gb.size; first | omega | (simp at this; omega)
  have N_HB := Aside0.mk (below_step HB.out gb)
  have N_q17X0 := Aside0.mk (Kd.R_below q17X0.out gb)
  have N_q17X1 := Aside0.mk (Kd.S_below q17X1.out gb)
  have N_q20X0 := Aside0.mk (Kd.R_below q20X0.out gb)
  have N_q20X1 := Aside0.mk (Kd.S_below q20X1.out gb)
  have N_q22X0 := Aside0.mk (Kd.R_below q22X0.out gb)
  have N_q22X1 := Aside0.mk (Kd.S_below q22X1.out gb)
  have N_K2 := Aside0.mk (blk_below K2.out gb)
  have N_K3 := Aside0.mk (blk_below K3.out gb)
  have N_K6 := Aside0.mk (blk_below K6.out gb)
  have N_K8 := Aside0.mk (blk_below K8.out gb)
  clear HB q17X0 q17X1 q20X0 q20X1 q22X0 q22X1 K2 K3 K6 K8
  have HB := N_HB
  have q17X0 := N_q17X0
  have q17X1 := N_q17X1
  have q20X0 := N_q20X0
  have q20X1 := N_q20X1
  have q22X0 := N_q22X0
  have q22X1 := N_q22X1
  have K2 := N_K2
  have K3 := N_K3
  have K6 := N_K6
  have K8 := N_K8
  clear N_HB N_q17X0 N_q17X1 N_q20X0 N_q20X1 N_q22X0 N_q22X1 N_K2 N_K3 N_K6 N_K8
  clear gb
  have y8 : gq8 < w12.heap.size := by omega
  have z8_0 : w12.cell? ⟨gq8, 0, none⟩ = some (.slice q20A0 r12.length q20c0) := (blk_cell K8.out 0).trans rfl
  have z8_1 : w12.cell? ⟨gq8, 1, none⟩ = some (.slice q20A1 r13.length q20c1) := (blk_cell K8.out 1).trans rfl
  have z8_2 : w12.cell? ⟨gq8, 2, none⟩ = some (.int .i64 r14) := (blk_cell K8.out 2).trans rfl
  have z8_3 : w12.cell? ⟨gq8, 3, none⟩ = some (.bool r15) := (blk_cell K8.out 3).trans rfl
  go_wp2_with fail
  clear y8 z8_0 z8_1 z8_2 z8_3
  refine (laws_markDisk.own k_E32 k_E35 (lq8) (hq8) _ _ r14 r15 r12 r13 1 m30 m33 l31 l34 w _ (by have := HB.out.size; omega) HB.out q20X0.out q20X1.out H_E32.out H_E35.out).mono ?_
  rintro e w13 ⟨rfl, g_0, g_1, gB, hk⟩
  have hz13 : w12.heap.size + 0 ≤ w13.heap.size := by have := hk.1; first | omega | (simp at this; omega)
  have N_q17X0 := Aside0.mk (Kd.R_kept q17X0.out hk (fun k hk1 hk2 => by have := hk1.1; omega))
  have N_q17X1 := Aside0.mk (Kd.S_kept q17X1.out hk (fun k hk1 hk2 => by have := hk1.1; omega))
  have N_q22X0 := Aside0.mk (Kd.R_kept q22X0.out hk (fun k hk1 hk2 => by have := hk1.1; omega))
  have N_q22X1 := Aside0.mk (Kd.S_kept q22X1.out hk (fun k hk1 hk2 => by have := hk1.1; omega))
  have N_K2 := Aside0.mk (blk_kept K2.out hk (fun hk2 => by omega))
  have N_K3 := Aside0.mk (blk_kept K3.out hk (fun hk2 => by omega))
  have N_K6 := Aside0.mk (blk_kept K6.out hk (fun hk2 => by omega))
  have N_K8 := Aside0.mk (blk_kept K8.out hk (fun hk2 => by omega))
  clear q17X0 q17X1 q22X0 q22X1 K2 K3 K6 K8
  have q17X0 := N_q17X0
  have q17X1 := N_q17X1
  have q22X0 := N_q22X0
  have q22X1 := N_q22X1
  have K2 := N_K2
  have K3 := N_K3
  have K6 := N_K6
  have K8 := N_K8
  clear N_q17X0 N_q17X1 N_q22X0 N_q22X1 N_K2 N_K3 N_K6 N_K8
  clear HB hk
  have HB := Aside0.mk gB
  clear gB
  clear q20X0
  have q20X0 := Aside0.mk g_0
  clear g_0
  clear q20X1
  have q20X1 := Aside0.mk g_1
  clear g_1
  have ev_ : (.slice q20A0 r12.length q20c0 : Value) = .slice q20A0 l31.length q20c0 := by rw [(Kd.R_reads' q20X0.out).1]
  try rw [ev_] at q20X0
  try rw [ev_] at q20X1
  try rw [ev_] at K8
  try rw [ev_]
  clear ev_
  have ev_ : (.slice q20A1 r13.length q20c1 : Value) = .slice q20A1 l34.length q20c1 := by rw [(Kd.S_reads' q20X1.out).1]
  try rw [ev_] at q20X0
  try rw [ev_] at q20X1
  try rw [ev_] at K8
  try rw [ev_]
  clear ev_
  have y8 : gq8 < w13.heap.size := by omega
  have z8_0 : w13.cell? ⟨gq8, 0, none⟩ = some (.slice q20A0 l31.length q20c0) := (blk_cell K8.out 0).trans rfl
  have z8_1 : w13.cell? ⟨gq8, 1, none⟩ = some (.slice q20A1 l34.length q20c1) := (blk_cell K8.out 1).trans rfl
  have z8_2 : w13.cell? ⟨gq8, 2, none⟩ = some (.int .i64 r14) := (blk_cell K8.out 2).trans rfl
  have z8_3 : w13.cell? ⟨gq8, 3, none⟩ = some (.bool r15) := (blk_cell K8.out 3).trans rfl
  go_wp2_with fail
  clear y8 z8_0 z8_1 z8_2 z8_3
  refine (laws_heldDisk.calls k_E36 _ _ l31 _ _ l34 r14 r15 1 m33 _ (Kd.R_reads' q20X0.out).2.2 (Kd.R_reads' q20X0.out).2.1 (Kd.S_reads' q20X1.out).2.2 (Kd.S_reads' q20X1.out).2.1 H_E36.out).mono ?_
  rintro e w14 ⟨rfl, gb⟩
  have hz14 : w13.heap.size + 0 ≤ w14.heap.size := by have := gb.size; first | omega | (simp at this; omega)
  have N_HB := Aside0.mk (below_step HB.out gb)
  have N_q17X0 := Aside0.mk (Kd.R_below q17X0.out gb)
  have N_q17X1 := Aside0.mk (Kd.S_below q17X1.out gb)
  have N_q20X0 := Aside0.mk (Kd.R_below q20X0.out gb)
  have N_q20X1 := Aside0.mk (Kd.S_below q20X1.out gb)
  have N_q22X0 := Aside0.mk (Kd.R_below q22X0.out gb)
  have N_q22X1 := Aside0.mk (Kd.S_below q22X1.out gb)
  have N_K2 := Aside0.mk (blk_below K2.out gb)
  have N_K3 := Aside0.mk (blk_below K3.out gb)
  have N_K6 := Aside0.mk (blk_below K6.out gb)
  have N_K8 := Aside0.mk (blk_below K8.out gb)
  clear HB q17X0 q17X1 q20X0 q20X1 q22X0 q22X1 K2 K3 K6 K8
  have HB := N_HB
  have q17X0 := N_q17X0
  have q17X1 := N_q17X1
  have q20X0 := N_q20X0
  have q20X1 := N_q20X1
  have q22X0 := N_q22X0
  have q22X1 := N_q22X1
  have K2 := N_K2
  have K3 := N_K3
  have K6 := N_K6
  have K8 := N_K8
  clear N_HB N_q17X0 N_q17X1 N_q20X0 N_q20X1 N_q22X0 N_q22X1 N_K2 N_K3 N_K6 N_K8
  clear gb
  go_wp2_with fail
  refine start_ (n := 7) (S := fun w' => True) (ds := []) #[false, false, false, false, false, false, false] (by kernel_rfl) rfl rfl trivial (fun hHeld => ?_); refine with_tabW walk_FnExactWriteSuper.tab24 walk_FnExactWriteSuper.bits24 (fun HT_ HW_ => ?_)
  clear hHeld
  obtain ⟨w15, hw_⟩ : ∃ W_, W_ = w14.drew := ⟨_, rfl⟩
  have gb : Below w14.drew.heap.size w14.drew w15 := by rw [hw_]; exact Below.refl _ _
  rw [← hw_]
  clear hw_
  have hz15 : w14.heap.size + 0 ≤ w15.heap.size := by have := gb.size; first | omega | (simp at this; omega)
  have N_HB := Aside0.mk (below_step (below_drew HB.out) gb)
  have N_q17X0 := Aside0.mk (Kd.R_below (Kd.R_drew q17X0.out) gb)
  have N_q17X1 := Aside0.mk (Kd.S_below (Kd.S_drew q17X1.out) gb)
  have N_q20X0 := Aside0.mk (Kd.R_below (Kd.R_drew q20X0.out) gb)
  have N_q20X1 := Aside0.mk (Kd.S_below (Kd.S_drew q20X1.out) gb)
  have N_q22X0 := Aside0.mk (Kd.R_below (Kd.R_drew q22X0.out) gb)
  have N_q22X1 := Aside0.mk (Kd.S_below (Kd.S_drew q22X1.out) gb)
  have N_K2 := Aside0.mk (blk_below (blk_drew K2.out) gb)
  have N_K3 := Aside0.mk (blk_below (blk_drew K3.out) gb)
  have N_K6 := Aside0.mk (blk_below (blk_drew K6.out) gb)
  have N_K8 := Aside0.mk (blk_below (blk_drew K8.out) gb)
  clear HB q17X0 q17X1 q20X0 q20X1 q22X0 q22X1 K2 K3 K6 K8
  have HB := N_HB
  have q17X0 := N_q17X0
  have q17X1 := N_q17X1
  have q20X0 := N_q20X0
  have q20X1 := N_q20X1
  have q22X0 := N_q22X0
  have q22X1 := N_q22X1
  have K2 := N_K2
  have K3 := N_K3
  have K6 := N_K6
  have K8 := N_K8
  clear N_HB N_q17X0 N_q17X1 N_q20X0 N_q20X1 N_q22X0 N_q22X1 N_K2 N_K3 N_K6 N_K8
  clear gb
  refine inv_at [0, 1, 2, 3, 4, 5, 6] (fun a0_ b a w' => ∃ (A1_0 : Option Addr) (c1_0 : Nat) (A1_1 : Option Addr) (c1_1 : Nat) (lo1 : Nat) (hi1 : Nat) (A4_0 : Option Addr) (c4_0 : Nat) (A4_1 : Option Addr) (c4_1 : Nat) (lo4 : Nat) (hi4 : Nat) (g_ : Nat) (ws : World), a = putSel a0_ b [(0, 60, .agg #[.slice A0_0 l0_0.length c0_0, .slice A0_1 l0_1.length c0_1, .int .i64 a0_2, .bool a0_3]), (1, 61, .agg #[.slice A1_0 r3.length c1_0, .slice A1_1 r4.length c1_1, .int .i64 r5, .bool r6]), (2, 62, .agg #[.int .i64 a1_0, .int .i64 a1_1, .int .i64 a1_2]), (3, 63, .agg #[.int .i64 r8, .int .i64 r9, .int .i64 r10]), (4, 64, .agg #[.slice A4_0 r12.length c4_0, .slice A4_1 r13.length c4_1, .int .i64 r14, .bool r15]), (5, 12, .pointer (some ⟨g_, 0, none⟩))] ∧ (b 6 = false → w' = ws) ∧ (b 6 = true → w' = ((((ws.setCell ⟨g_, 0, none⟩ (.slice A4_0 r12.length c4_0)).setCell ⟨g_, 1, none⟩ (.slice A4_1 r13.length c4_1)).setCell ⟨g_, 2, none⟩ (.int .i64 r14)).setCell ⟨g_, 3, none⟩ (.bool r15))) ∧ (Below w15.heap.size w15 ws) ∧ (b 1 = true → w15.heap.size ≤ lo1 ∧ lo1 ≤ hi1 ∧ hi1 ≤ ws.heap.size ∧ Kd.R (Kd.int .u8) 5 ws w.heap.size (fun k_ => (lo1 ≤ k_ ∧ k_ < hi1) ∧ True) (.slice A1_0 r3.length c1_0) r3 ∧ Kd.S k79 79 ws w.heap.size (fun k_ => (lo1 ≤ k_ ∧ k_ < hi1) ∧ some k_ ≠ (.slice A1_0 r3.length c1_0 : Value).ownBlock) (.slice A1_1 r4.length c1_1) r4) ∧ (b 4 = true → w15.heap.size ≤ lo4 ∧ lo4 ≤ hi4 ∧ hi4 ≤ ws.heap.size ∧ Kd.R (Kd.int .u8) 5 ws w.heap.size (fun k_ => (lo4 ≤ k_ ∧ k_ < hi4) ∧ True) (.slice A4_0 r12.length c4_0) r12 ∧ Kd.S k79 79 ws w.heap.size (fun k_ => (lo4 ≤ k_ ∧ k_ < hi4) ∧ some k_ ≠ (.slice A4_0 r12.length c4_0 : Value).ownBlock) (.slice A4_1 r13.length c4_1) r13) ∧ (b 5 = true → w15.heap.size ≤ g_ ∧ g_ < ws.heap.size ∧ ws.heap[g_]? = some (.cells #[.slice none 0 0, .slice none 0 0, .int .i64 0, .bool false] 25 (0, 0))) ∧ (b 1 = true → b 5 = true → g_ < lo1 ∨ hi1 ≤ g_) ∧ (b 4 = true → b 5 = true → g_ < lo4 ∨ hi4 ≤ g_)) HT_.out HW_.out (by kernel_rfl) (by kernel_rfl) ?_ ?_ ?_
  · exact ⟨none, 0, none, 0, 0, 0, none, 0, none, 0, 0, 0, 0, w15, by simp only [putSel, Bool.false_eq_true, if_false], fun _ => rfl, fun h_ => absurd h_ (by decide), Below.refl _ _, fun h_ => absurd h_ (by decide), fun h_ => absurd h_ (by decide), fun h_ => absurd h_ (by decide), fun h_ => absurd h_ (by decide), fun h_ => absurd h_ (by decide)⟩
  · skip
    refine steps_cons ?_ ?_
    · rintro b a w' ⟨A1_0, c1_0, A1_1, c1_1, lo1, hi1, A4_0, c4_0, A4_1, c4_1, lo4, hi4, g_, ws, ha, hst0, hst1, hB_, Q1, Q4, QA, P1, P4⟩ hb_ hon hoff
      obtain rfl := hst0 (hoff 6 (by kernel_rfl))
      refine ⟨_, rfl, fun K hK => ?_⟩
      have hsz_ : w.heap.size ≤ w'.heap.size := Nat.le_trans HB.out.size hB_.size
      have es_ : a.tmps[2]? = some (.pointer (some ⟨w.heap.size, 0, none⟩)) := by rw [ha]; exact (putSel_off rfl).trans rfl
      have hc0 : w'.cell? ⟨w.heap.size, 0, none⟩ = some (.slice A0_0 l0_0.length c0_0) := (blk_cell (blk_below K2.out hB_) 0).trans rfl
      have hc1 : w'.cell? ⟨w.heap.size, 1, none⟩ = some (.slice A0_1 l0_1.length c0_1) := (blk_cell (blk_below K2.out hB_) 1).trans rfl
      have hc2 : w'.cell? ⟨w.heap.size, 2, none⟩ = some (.int .i64 a0_2) := (blk_cell (blk_below K2.out hB_) 2).trans rfl
      have hc3 : w'.cell? ⟨w.heap.size, 3, none⟩ = some (.bool a0_3) := (blk_cell (blk_below K2.out hB_) 3).trans rfl
      replace ha := Aside0.mk ha
      refine value_ (w1 := w') (v := .agg #[.slice A0_0 l0_0.length c0_0, .slice A0_1 l0_1.length c0_1, .int .i64 a0_2, .bool a0_3]) (by rfl) rfl ?_ ?_
      · go_simp
        try rfl
      refine hK.out _ _ ⟨A1_0, c1_0, A1_1, c1_1, lo1, hi1, A4_0, c4_0, A4_1, c4_1, lo4, hi4, g_, w', (by rw [ha.out]; exact putSel_upk 0 hb_ rfl rfl rfl), fun _ => rfl, fun h_ => absurd ((hoff 6 (by kernel_rfl)).symm.trans ((up_ne (by decide)).symm.trans h_)) (by decide), hB_, fun h0_ => absurd ((hoff 1 (by kernel_rfl)).symm.trans h0_) (by decide), fun h0_ => absurd ((hoff 4 (by kernel_rfl)).symm.trans h0_) (by decide), QA, P1, P4⟩
    refine steps_cons ?_ ?_
    · rintro b a w' ⟨A1_0, c1_0, A1_1, c1_1, lo1, hi1, A4_0, c4_0, A4_1, c4_1, lo4, hi4, g_, ws, ha, hst0, hst1, hB_, Q1, Q4, QA, P1, P4⟩ hb_ hon hoff
      obtain rfl := hst0 (hoff 6 (by kernel_rfl))
      refine ⟨_, rfl, fun K hK => ?_⟩
      have hsz_ : w.heap.size ≤ w'.heap.size := Nat.le_trans HB.out.size hB_.size
      have e60 : a.tmps[60]? = some (.agg #[.slice A0_0 l0_0.length c0_0, .slice A0_1 l0_1.length c0_1, .int .i64 a0_2, .bool a0_3]) := by rw [ha]; exact putSel_on (e := (0, 60, .agg #[.slice A0_0 l0_0.length c0_0, .slice A0_1 l0_1.length c0_1, .int .i64 a0_2, .bool a0_3])) 0 rfl rfl (hon 0 (by kernel_rfl)) rfl
      replace ha := Aside0.mk ha
      refine goes_ Try.func21 (by kernel_rfl) rfl #[.agg #[.slice A0_0 l0_0.length c0_0, .slice A0_1 l0_1.length c0_1, .int .i64 a0_2, .bool a0_3]] (by rfl) rfl rfl (by first | (simp only [List.map_toArray, List.map_cons, List.map_nil, Act.eval, Array.getD_eq_getD_getElem?, Option.getD_some, e60]; done) | (simp only [List.map_toArray, List.map_cons, List.map_nil, Act.eval, Array.getD_eq_getD_getElem?, Option.getD_some, e60]; rfl)) ?_
      refine (laws_toDisk.calls k_E7 _ _ l0_0 _ _ l0_1 a0_2 a0_3 r3 r4 r5 r6 _ (Kd.C_below HR0_0.out (below_step HB.out hB_)) HC0_0.out (Kd.C_below HR0_1.out (below_step HB.out hB_)) HC0_1.out H_E7.out).mono ?_
      rintro e w9 ⟨u0, u1, rfl, g0, g1, gb⟩
      obtain ⟨A_0, c_0, rfl⟩ := Kd.R_slice g0
      obtain ⟨A_1, c_1, rfl⟩ := Kd.S_slice g1
      refine ⟨_, rfl, ?_⟩
      refine hK.out _ _ ⟨A_0, c_0, A_1, c_1, w'.heap.size, w9.heap.size, A4_0, c4_0, A4_1, c4_1, lo4, hi4, g_, w9, (by rw [ha.out]; exact putSel_upk 1 hb_ rfl rfl rfl), fun _ => rfl, fun h_ => absurd ((hoff 6 (by kernel_rfl)).symm.trans ((up_ne (by decide)).symm.trans h_)) (by decide), (below_step hB_ gb), fun _ => ⟨hB_.size, gb.size, Nat.le_refl _, R_iv g0 w.heap.size w'.heap.size hsz_ (Nat.le_refl _), S_iv g1 w.heap.size w'.heap.size hsz_ (Nat.le_refl _)⟩, fun h0_ => absurd ((hoff 4 (by kernel_rfl)).symm.trans h0_) (by decide), fun h0_ => ⟨(QA h0_).1, Nat.lt_of_lt_of_le (QA h0_).2.1 gb.size, blk_below (QA h0_).2.2 gb⟩, fun _ h1_ => .inl (QA h1_).2.1, P4⟩
    refine steps_cons ?_ ?_
    · rintro b a w' ⟨A1_0, c1_0, A1_1, c1_1, lo1, hi1, A4_0, c4_0, A4_1, c4_1, lo4, hi4, g_, ws, ha, hst0, hst1, hB_, Q1, Q4, QA, P1, P4⟩ hb_ hon hoff
      obtain rfl := hst0 (hoff 6 (by kernel_rfl))
      refine ⟨_, rfl, fun K hK => ?_⟩
      have hsz_ : w.heap.size ≤ w'.heap.size := Nat.le_trans HB.out.size hB_.size
      have es_ : a.tmps[3]? = some (.pointer (some ⟨w.heap.size + 1, 0, none⟩)) := by rw [ha]; exact (putSel_off rfl).trans rfl
      have hc0 : w'.cell? ⟨w.heap.size + 1, 0, none⟩ = some (.int .i64 a1_0) := (blk_cell (blk_below K3.out hB_) 0).trans rfl
      have hc1 : w'.cell? ⟨w.heap.size + 1, 1, none⟩ = some (.int .i64 a1_1) := (blk_cell (blk_below K3.out hB_) 1).trans rfl
      have hc2 : w'.cell? ⟨w.heap.size + 1, 2, none⟩ = some (.int .i64 a1_2) := (blk_cell (blk_below K3.out hB_) 2).trans rfl
      replace ha := Aside0.mk ha
      refine value_ (w1 := w') (v := .agg #[.int .i64 a1_0, .int .i64 a1_1, .int .i64 a1_2]) (by rfl) rfl ?_ ?_
      · go_simp
        try rfl
      refine hK.out _ _ ⟨A1_0, c1_0, A1_1, c1_1, lo1, hi1, A4_0, c4_0, A4_1, c4_1, lo4, hi4, g_, w', (by rw [ha.out]; exact putSel_upk 2 hb_ rfl rfl rfl), fun _ => rfl, fun h_ => absurd ((hoff 6 (by kernel_rfl)).symm.trans ((up_ne (by decide)).symm.trans h_)) (by decide), hB_, Q1, fun h0_ => absurd ((hoff 4 (by kernel_rfl)).symm.trans h0_) (by decide), QA, P1, P4⟩
    refine steps_cons ?_ ?_
    · rintro b a w' ⟨A1_0, c1_0, A1_1, c1_1, lo1, hi1, A4_0, c4_0, A4_1, c4_1, lo4, hi4, g_, ws, ha, hst0, hst1, hB_, Q1, Q4, QA, P1, P4⟩ hb_ hon hoff
      obtain rfl := hst0 (hoff 6 (by kernel_rfl))
      refine ⟨_, rfl, fun K hK => ?_⟩
      have hsz_ : w.heap.size ≤ w'.heap.size := Nat.le_trans HB.out.size hB_.size
      have e62 : a.tmps[62]? = some (.agg #[.int .i64 a1_0, .int .i64 a1_1, .int .i64 a1_2]) := by rw [ha]; exact putSel_on (e := (2, 62, .agg #[.int .i64 a1_0, .int .i64 a1_1, .int .i64 a1_2])) 2 rfl rfl (hon 2 (by kernel_rfl)) rfl
      replace ha := Aside0.mk ha
      refine goes_ Try.func32 (by kernel_rfl) rfl #[.agg #[.int .i64 a1_0, .int .i64 a1_1, .int .i64 a1_2]] (by rfl) rfl rfl (by first | (simp only [List.map_toArray, List.map_cons, List.map_nil, Act.eval, Array.getD_eq_getD_getElem?, Option.getD_some, e62]; done) | (simp only [List.map_toArray, List.map_cons, List.map_nil, Act.eval, Array.getD_eq_getD_getElem?, Option.getD_some, e62]; rfl)) ?_
      refine (laws_toSuper.calls a1_0 a1_1 a1_2 r8 r9 r10 _  H_E11.out).mono ?_
      rintro e w9 ⟨rfl, gb⟩
      refine ⟨_, rfl, ?_⟩
      refine hK.out _ _ ⟨A1_0, c1_0, A1_1, c1_1, lo1, hi1, A4_0, c4_0, A4_1, c4_1, lo4, hi4, g_, w9, (by rw [ha.out]; exact putSel_upk 3 hb_ rfl rfl rfl), fun _ => rfl, fun h_ => absurd ((hoff 6 (by kernel_rfl)).symm.trans ((up_ne (by decide)).symm.trans h_)) (by decide), (below_step hB_ gb), fun h0_ => ⟨(Q1 h0_).1, (Q1 h0_).2.1, Nat.le_trans (Q1 h0_).2.2.1 gb.size, Kd.R_below (Q1 h0_).2.2.2.1 gb, Kd.S_below (Q1 h0_).2.2.2.2 gb⟩, fun h0_ => absurd ((hoff 4 (by kernel_rfl)).symm.trans h0_) (by decide), fun h0_ => ⟨(QA h0_).1, Nat.lt_of_lt_of_le (QA h0_).2.1 gb.size, blk_below (QA h0_).2.2 gb⟩, P1, P4⟩
    refine steps_cons ?_ ?_
    · rintro b a w' ⟨A1_0, c1_0, A1_1, c1_1, lo1, hi1, A4_0, c4_0, A4_1, c4_1, lo4, hi4, g_, ws, ha, hst0, hst1, hB_, Q1, Q4, QA, P1, P4⟩ hb_ hon hoff
      obtain rfl := hst0 (hoff 6 (by kernel_rfl))
      refine ⟨_, rfl, fun K hK => ?_⟩
      have hsz_ : w.heap.size ≤ w'.heap.size := Nat.le_trans HB.out.size hB_.size
      have e61 : a.tmps[61]? = some (.agg #[.slice A1_0 r3.length c1_0, .slice A1_1 r4.length c1_1, .int .i64 r5, .bool r6]) := by rw [ha]; exact putSel_on (e := (1, 61, .agg #[.slice A1_0 r3.length c1_0, .slice A1_1 r4.length c1_1, .int .i64 r5, .bool r6])) 1 rfl rfl (hon 1 (by kernel_rfl)) rfl
      have e63 : a.tmps[63]? = some (.agg #[.int .i64 r8, .int .i64 r9, .int .i64 r10]) := by rw [ha]; exact putSel_on (e := (3, 63, .agg #[.int .i64 r8, .int .i64 r9, .int .i64 r10])) 3 rfl rfl (hon 3 (by kernel_rfl)) rfl
      replace ha := Aside0.mk ha
      refine goes_ Try.func33 (by kernel_rfl) rfl #[.agg #[.slice A1_0 r3.length c1_0, .slice A1_1 r4.length c1_1, .int .i64 r5, .bool r6], .agg #[.int .i64 r8, .int .i64 r9, .int .i64 r10]] (by rfl) rfl rfl (by first | (simp only [List.map_toArray, List.map_cons, List.map_nil, Act.eval, Array.getD_eq_getD_getElem?, Option.getD_some, e61, e63]; done) | (simp only [List.map_toArray, List.map_cons, List.map_nil, Act.eval, Array.getD_eq_getD_getElem?, Option.getD_some, e61, e63]; rfl)) ?_
      refine (impl_WriteSuper.calls k_E19 _ _ r3 _ _ r4 r5 r6 r8 r9 r10 r12 r13 r14 r15 _ (Kd.R_reads' (Q1 (hon 1 (by kernel_rfl))).2.2.2.1).2.2 (Kd.R_reads' (Q1 (hon 1 (by kernel_rfl))).2.2.2.1).2.1 (Kd.S_reads' (Q1 (hon 1 (by kernel_rfl))).2.2.2.2).2.2 (Kd.S_reads' (Q1 (hon 1 (by kernel_rfl))).2.2.2.2).2.1 H_E19.out).mono ?_
      rintro e w9 ⟨u0, u1, rfl, g0, g1, gb⟩
      obtain ⟨A_0, c_0, rfl⟩ := Kd.R_slice g0
      obtain ⟨A_1, c_1, rfl⟩ := Kd.S_slice g1
      refine ⟨_, rfl, ?_⟩
      refine hK.out _ _ ⟨A1_0, c1_0, A1_1, c1_1, lo1, hi1, A_0, c_0, A_1, c_1, w'.heap.size, w9.heap.size, g_, w9, (by rw [ha.out]; exact putSel_upk 4 hb_ rfl rfl rfl), fun _ => rfl, fun h_ => absurd ((hoff 6 (by kernel_rfl)).symm.trans ((up_ne (by decide)).symm.trans h_)) (by decide), (below_step hB_ gb), fun h0_ => ⟨(Q1 h0_).1, (Q1 h0_).2.1, Nat.le_trans (Q1 h0_).2.2.1 gb.size, Kd.R_below (Q1 h0_).2.2.2.1 gb, Kd.S_below (Q1 h0_).2.2.2.2 gb⟩, fun _ => ⟨hB_.size, gb.size, Nat.le_refl _, R_iv g0 w.heap.size w'.heap.size hsz_ (Nat.le_refl _), S_iv g1 w.heap.size w'.heap.size hsz_ (Nat.le_refl _)⟩, fun h0_ => ⟨(QA h0_).1, Nat.lt_of_lt_of_le (QA h0_).2.1 gb.size, blk_below (QA h0_).2.2 gb⟩, P1, fun _ h1_ => .inl (QA h1_).2.1⟩
    refine steps_cons ?_ ?_
    · rintro b a w' ⟨A1_0, c1_0, A1_1, c1_1, lo1, hi1, A4_0, c4_0, A4_1, c4_1, lo4, hi4, g_, ws, ha, hst0, hst1, hB_, Q1, Q4, QA, P1, P4⟩ hb_ hon hoff
      obtain rfl := hst0 (hoff 6 (by kernel_rfl))
      refine ⟨_, rfl, fun K hK => ?_⟩
      have hsz_ : w.heap.size ≤ w'.heap.size := Nat.le_trans HB.out.size hB_.size
      replace ha := Aside0.mk ha
      refine value_ (w1 := w'.alloc (.cells #[.slice none 0 0, .slice none 0 0, .int .i64 0, .bool false] 25)) (v := .pointer (some ⟨w'.heap.size, 0, none⟩)) (by rfl) rfl ?_ ?_
      · go_simp
        try rfl
      have gb := below_alloc (Below.refl w'.heap.size w') (.cells #[.slice none 0 0, .slice none 0 0, .int .i64 0, .bool false] 25)
      refine hK.out _ _ ⟨A1_0, c1_0, A1_1, c1_1, lo1, hi1, A4_0, c4_0, A4_1, c4_1, lo4, hi4, w'.heap.size, (w'.alloc (.cells #[.slice none 0 0, .slice none 0 0, .int .i64 0, .bool false] 25)), (by rw [ha.out]; exact putSel_upk 5 hb_ rfl rfl rfl), fun _ => rfl, fun h_ => absurd ((hoff 6 (by kernel_rfl)).symm.trans ((up_ne (by decide)).symm.trans h_)) (by decide), (below_step hB_ gb), fun h0_ => ⟨(Q1 h0_).1, (Q1 h0_).2.1, Nat.le_trans (Q1 h0_).2.2.1 gb.size, Kd.R_below (Q1 h0_).2.2.2.1 gb, Kd.S_below (Q1 h0_).2.2.2.2 gb⟩, fun h0_ => ⟨(Q4 h0_).1, (Q4 h0_).2.1, Nat.le_trans (Q4 h0_).2.2.1 gb.size, Kd.R_below (Q4 h0_).2.2.2.1 gb, Kd.S_below (Q4 h0_).2.2.2.2 gb⟩, fun _ => ⟨hB_.size, by simp, blk_new _ _⟩, fun h1_ _ => .inr (Q1 h1_).2.2.1, fun h1_ _ => .inr (Q4 h1_).2.2.1⟩
    refine steps_cons ?_ ?_
    · rintro b a w' ⟨A1_0, c1_0, A1_1, c1_1, lo1, hi1, A4_0, c4_0, A4_1, c4_1, lo4, hi4, g_, ws, ha, hst0, hst1, hB_, Q1, Q4, QA, P1, P4⟩ hb_ hon hoff
      obtain rfl := hst0 hb_
      refine ⟨_, rfl, fun K hK => ?_⟩
      have hsz_ : w.heap.size ≤ w'.heap.size := Nat.le_trans HB.out.size hB_.size
      have e12 : a.tmps[12]? = some (.pointer (some ⟨g_, 0, none⟩)) := by rw [ha]; exact putSel_on (e := (5, 12, .pointer (some ⟨g_, 0, none⟩))) 5 rfl rfl (hon 5 (by kernel_rfl)) rfl
      have e64 : a.tmps[64]? = some (.agg #[.slice A4_0 r12.length c4_0, .slice A4_1 r13.length c4_1, .int .i64 r14, .bool r15]) := by rw [ha]; exact putSel_on (e := (4, 64, .agg #[.slice A4_0 r12.length c4_0, .slice A4_1 r13.length c4_1, .int .i64 r14, .bool r15])) 4 rfl rfl (hon 4 (by kernel_rfl)) rfl
      replace ha := Aside0.mk ha
      obtain ⟨hg1, hg2, hgk⟩ := QA (hon 5 (by kernel_rfl))
      obtain ⟨z0, z1, z2, z3, y0, y1, y2, y3⟩ := blk_cells4 hgk
      refine skip_ (w1 := ((((w'.setCell ⟨g_, 0, none⟩ (.slice A4_0 r12.length c4_0)).setCell ⟨g_, 1, none⟩ (.slice A4_1 r13.length c4_1)).setCell ⟨g_, 2, none⟩ (.int .i64 r14)).setCell ⟨g_, 3, none⟩ (.bool r15))) (by rfl) rfl ?_ ?_
      · go_simp
        try rfl
      refine hK.out _ _ ⟨A1_0, c1_0, A1_1, c1_1, lo1, hi1, A4_0, c4_0, A4_1, c4_1, lo4, hi4, g_, w', (by rw [ha.out]; exact (putSel_same rfl).symm), fun h_ => absurd ((up_self b 6).symm.trans h_) (by decide), fun _ => rfl, hB_, Q1, Q4, QA, P1, P4⟩
    exact steps_nil
  rintro b a w16 hall ⟨A1_0, c1_0, A1_1, c1_1, lo1, hi1, A4_0, c4_0, A4_1, c4_1, lo4, hi4, g_, ws, ha, hst0, hst1, hB_, Q1, Q4, QA, P1, P4⟩
  have hb0_ := hall 0 (by kernel_rfl)
  have hb1_ := hall 1 (by kernel_rfl)
  have hb2_ := hall 2 (by kernel_rfl)
  have hb3_ := hall 3 (by kernel_rfl)
  have hb4_ := hall 4 (by kernel_rfl)
  have hb5_ := hall 5 (by kernel_rfl)
  have hb6_ := hall 6 (by kernel_rfl)
  subst ha
  simp only [putSel, hb0_, hb1_, hb2_, hb3_, hb4_, hb5_, if_true, Act.put, List.setIfInBounds_toArray, List.set_cons_zero, List.set_cons_succ]
  have hw_ := hst1 hb6_
  obtain ⟨hg1_12, hg2_, hgk_⟩ := QA hb5_
  have hga_12 := P4 hb4_ hb5_
  obtain ⟨hlo_12, hlh_12, hhi_, hf0_, hf1_⟩ := Q4 hb4_
  have hgs_ : w16.heap.size = ws.heap.size := by rw [hw_]; simp
  have gb : Below w15.heap.size w15 w16 := by rw [hw_]; exact below_set4 hB_ hg1_12
  have q37X0 := Aside0.mk (show Kd.R (Kd.int .u8) 5 w16 w.heap.size (fun k_ => (lo4 ≤ k_ ∧ k_ < hi4) ∧ True) (.slice A4_0 r12.length c4_0) r12 from by rw [hw_]; exact R_set4 hf0_ hgk_ (by decide))
  have q37X1 := Aside0.mk (show Kd.S k79 79 w16 w.heap.size (fun k_ => (lo4 ≤ k_ ∧ k_ < hi4) ∧ some k_ ≠ (.slice A4_0 r12.length c4_0 : Value).ownBlock) (.slice A4_1 r13.length c4_1) r13 from by rw [hw_]; exact S_set4 hf1_ hgk_ (by decide))
  have K12 := Aside0.mk (show w16.heap[g_]? = some (.cells #[.slice A4_0 r12.length c4_0, .slice A4_1 r13.length c4_1, .int .i64 r14, .bool r15] 25 (0, 0)) from by rw [hw_]; exact blk_set4 hgk_)
  have hgl_12 : g_ < w16.heap.size := by omega
  have hhl_12 : hi4 ≤ w16.heap.size := by omega
  clear hall hst0 hst1 hB_ hw_ hgk_ hgs_ hg2_ hhi_ QA Q1 P1 Q4 P4 hb0_ hb1_ hb2_ hb3_ hb4_ hb5_ hb6_ hf0_ hf1_
  have hz16 : w15.heap.size + 0 ≤ w16.heap.size := by have := gb.size; first | omega | (simp at this; omega)
  have N_HB := Aside0.mk (below_step HB.out gb)
  have N_q17X0 := Aside0.mk (Kd.R_below q17X0.out gb)
  have N_q17X1 := Aside0.mk (Kd.S_below q17X1.out gb)
  have N_q20X0 := Aside0.mk (Kd.R_below q20X0.out gb)
  have N_q20X1 := Aside0.mk (Kd.S_below q20X1.out gb)
  have N_q22X0 := Aside0.mk (Kd.R_below q22X0.out gb)
  have N_q22X1 := Aside0.mk (Kd.S_below q22X1.out gb)
  have N_K2 := Aside0.mk (blk_below K2.out gb)
  have N_K3 := Aside0.mk (blk_below K3.out gb)
  have N_K6 := Aside0.mk (blk_below K6.out gb)
  have N_K8 := Aside0.mk (blk_below K8.out gb)
  clear HB q17X0 q17X1 q20X0 q20X1 q22X0 q22X1 K2 K3 K6 K8
  have HB := N_HB
  have q17X0 := N_q17X0
  have q17X1 := N_q17X1
  have q20X0 := N_q20X0
  have q20X1 := N_q20X1
  have q22X0 := N_q22X0
  have q22X1 := N_q22X1
  have K2 := N_K2
  have K3 := N_K3
  have K6 := N_K6
  have K8 := N_K8
  clear N_HB N_q17X0 N_q17X1 N_q20X0 N_q20X1 N_q22X0 N_q22X1 N_K2 N_K3 N_K6 N_K8
  clear gb
  obtain ⟨gq12, rfl⟩ : ∃ x_, x_ = g_ := ⟨_, rfl⟩
  obtain ⟨lq12, rfl⟩ : ∃ x_, x_ = lo4 := ⟨_, rfl⟩
  obtain ⟨hq12, rfl⟩ : ∃ x_, x_ = hi4 := ⟨_, rfl⟩
  obtain ⟨q37A0, rfl⟩ : ∃ x_, x_ = A4_0 := ⟨_, rfl⟩
  obtain ⟨q37c0, rfl⟩ : ∃ x_, x_ = c4_0 := ⟨_, rfl⟩
  obtain ⟨q37A1, rfl⟩ : ∃ x_, x_ = A4_1 := ⟨_, rfl⟩
  obtain ⟨q37c1, rfl⟩ : ∃ x_, x_ = c4_1 := ⟨_, rfl⟩
  have y12 : gq12 < w16.heap.size := by omega
  have z12_0 : w16.cell? ⟨gq12, 0, none⟩ = some (.slice q37A0 r12.length q37c0) := (blk_cell K12.out 0).trans rfl
  have z12_1 : w16.cell? ⟨gq12, 1, none⟩ = some (.slice q37A1 r13.length q37c1) := (blk_cell K12.out 1).trans rfl
  have z12_2 : w16.cell? ⟨gq12, 2, none⟩ = some (.int .i64 r14) := (blk_cell K12.out 2).trans rfl
  have z12_3 : w16.cell? ⟨gq12, 3, none⟩ = some (.bool r15) := (blk_cell K12.out 3).trans rfl
  have y6 : gq6 < w16.heap.size := by omega
  have z6_0 : w16.cell? ⟨gq6, 0, none⟩ = some (.slice q17A0 r12.length q17c0) := (blk_cell K6.out 0).trans rfl
  have z6_1 : w16.cell? ⟨gq6, 1, none⟩ = some (.slice q17A1 r13.length q17c1) := (blk_cell K6.out 1).trans rfl
  have z6_2 : w16.cell? ⟨gq6, 2, none⟩ = some (.int .i64 r14) := (blk_cell K6.out 2).trans rfl
  have z6_3 : w16.cell? ⟨gq6, 3, none⟩ = some (.bool r15) := (blk_cell K6.out 3).trans rfl
  go_wp2_with fail
  clear y12 z12_0 z12_1 z12_2 z12_3 y6 z6_0 z6_1 z6_2 z6_3
  refine (laws_eqDisk.calls k_E21 _ _ r12 _ _ r13 r14 r15 _ _ r12 _ _ r13 r14 r15 true _ (Kd.R_reads' q37X0.out).2.2 (Kd.R_reads' q37X0.out).2.1 (Kd.S_reads' q37X1.out).2.2 (Kd.S_reads' q37X1.out).2.1 (Kd.R_reads' q17X0.out).2.2 (Kd.R_reads' q17X0.out).2.1 (Kd.S_reads' q17X1.out).2.2 (Kd.S_reads' q17X1.out).2.1 H_E21.out).mono ?_
  rintro e w17 ⟨rfl, gb⟩
  have hz17 : w16.heap.size + 0 ≤ w17.heap.size := by have := gb.size; first | omega | (simp at this; omega)
  have N_HB := Aside0.mk (below_step HB.out gb)
  have N_q17X0 := Aside0.mk (Kd.R_below q17X0.out gb)
  have N_q17X1 := Aside0.mk (Kd.S_below q17X1.out gb)
  have N_q20X0 := Aside0.mk (Kd.R_below q20X0.out gb)
  have N_q20X1 := Aside0.mk (Kd.S_below q20X1.out gb)
  have N_q22X0 := Aside0.mk (Kd.R_below q22X0.out gb)
  have N_q22X1 := Aside0.mk (Kd.S_below q22X1.out gb)
  have N_q37X0 := Aside0.mk (Kd.R_below q37X0.out gb)
  have N_q37X1 := Aside0.mk (Kd.S_below q37X1.out gb)
  have N_K2 := Aside0.mk (blk_below K2.out gb)
  have N_K3 := Aside0.mk (blk_below K3.out gb)
  have N_K6 := Aside0.mk (blk_below K6.out gb)
  have N_K8 := Aside0.mk (blk_below K8.out gb)
  have N_K12 := Aside0.mk (blk_below K12.out gb)
  clear HB q17X0 q17X1 q20X0 q20X1 q22X0 q22X1 q37X0 q37X1 K2 K3 K6 K8 K12
  have HB := N_HB
  have q17X0 := N_q17X0
  have q17X1 := N_q17X1
  have q20X0 := N_q20X0
  have q20X1 := N_q20X1
  have q22X0 := N_q22X0
  have q22X1 := N_q22X1
  have q37X0 := N_q37X0
  have q37X1 := N_q37X1
  have K2 := N_K2
  have K3 := N_K3
  have K6 := N_K6
  have K8 := N_K8
  have K12 := N_K12
  clear N_HB N_q17X0 N_q17X1 N_q20X0 N_q20X1 N_q22X0 N_q22X1 N_q37X0 N_q37X1 N_K2 N_K3 N_K6 N_K8 N_K12
  clear gb
  go_wp2
  go_ret
  exact ⟨rfl, by first | exact HB.out | exact below_alloc HB.out _ | exact below_alloc (below_alloc HB.out _) _ | exact below_alloc (below_alloc (below_alloc HB.out _) _) _⟩

/-! ### zmain_WriteSuper: a text by hand -/
theorem main_WriteSuper (A0 : Option Addr) (c0 : Nat) (l0 : List Int) (A1 : Option Addr) (c1 : Nat) (l1 : List S127) (a2 : Int) (a3 : Bool) (b0 b1 b2 : Int)
    (F : (l0.length ≤ maxLen ∧ ∀ x ∈ l0, (Lit.int .u8 x).wf = true) ∧ (l1.length ≤ maxLen ∧ ∀ x ∈ l1, (Lit.int .i64 x.f0).wf = true ∧ (x.f1.length ≤ maxLen ∧ ∀ y ∈ x.f1, (Lit.int .u8 y).wf = true)) ∧ (Lit.int .i64 a2).wf = true ∧ True) (_F1 : (Lit.int .i64 b0).wf = true ∧ (Lit.int .i64 b1).wf = true ∧ (Lit.int .i64 b2).wf = true)
    (w : World) (hr0 : Kd.C (Kd.int .u8) w A0 l0.length l0) (hc0 : l0.length ≤ c0) (hr1 : Kd.C k127 w A1 l1.length l1) (hc1 : l1.length ≤ c1) :
    Calls Try.prog 6 #[.agg #[.slice A0 l0.length c0, .slice A1 l1.length c1, .int .i64 a2, .bool a3], .agg #[.int .i64 b0, .int .i64 b1, .int .i64 b2]] w fun e w' => e = .returned (.bool true) ∧ Below w.heap.size w w' := by
  obtain ⟨r, hr, hok⟩ := szDisk_ev l0 l1 a2 a3 F.1.1 F.2.1.1 (fun x hx => (F.2.1.2 x hx).2.1)
  by_cases c : r < 0
  · exact guard1_FnExactWriteSuper A0 c0 l0 A1 c1 l1 a2 a3 b0 b1 b2 r w hr0 hc0 hr1 hc1 hr c
  obtain ⟨h0, ok⟩ := hok (by omega)
  have hT := toDisk_ev l0 l1 a2 a3 h0 ok
  generalize cvPend l1 = l1' at hT ok
  obtain ⟨⟨r1, r2, r3, r4⟩, hl1, ok2, hs, hi⟩ := writeSuper_ev l0 l1' a2 a3 b0 b1 b2 h0 ok
  simp only at hl1 ok2
  have hb := mkP_bd l1' ok.2 (1 + l0.length)
  have o1 := ok.1
  have hb2 := mkP_bd r2 ok2.2 (1 + r1.length)
  have o2 := ok2.1
  exact walk_FnExactWriteSuper A0 c0 l0 A1 c1 l1 a2 a3 b0 b1 b2 r l0 l1' a2 a3 b0 b1 b2 r1 r2 r3 r4 (1 + l0.length) (mkB 1 l0) _ _ (1 + r1.length) (mkB 1 r1) _ _ w hr0 hc0 hr1 hc1 hr (by omega) hT rfl hs hi (eqDisk_ev r1 r2 r3 r4 hl1 ok2) (eqDisk_ev l0 l1' a2 a3 h0 ok)
    (markByteS_ev l0 1 (by omega) (by omega)) (markPendS_ev l1' ok.2 _ (by omega) (by omega)) (by omega) (markByteS_ev r1 1 (by omega) (by omega)) (markPendS_ev r2 ok2.2 _ (by omega) (by omega)) (by omega) (heldDisk_ev r1 r2 r3 r4 hl1 ok2)
end Go.Proofs.Yteddpdonmhiplaa.PR
