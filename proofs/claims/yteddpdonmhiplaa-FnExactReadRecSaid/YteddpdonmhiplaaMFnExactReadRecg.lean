-- Made by this session's programs out of the translation and of its own texts.
import Derived.Test.YteddpdonmhiplaaMFnExactReadRecf
namespace Go.Proofs.Yteddpdonmhiplaa.PR
open Go.RowKit Go.Proofs.YteddpdonmhiplaaW.PrintWords Go.Proofs.YteddpdonmhiplaaW.PrintLast Go.Proofs.YteddpdonmhiplaaW.PrintMore
attribute [local go_sem] max2_int min2_int max_two min_two max_three min_three max_four min_four   -- for this text's walks alone
set_option linter.unusedVariables false
set_option linter.unusedSimpArgs false

/-! ### zwalk_ReadRec: a text by hand -/
set_option maxHeartbeats 4000000 in
set_option maxRecDepth 100000 in
theorem walk_FnExactReadRec (A0_0 : Option Addr) (c0_0 : Nat) (l0_0 : List Int) (A0_1 : Option Addr) (c0_1 : Nat) (l0_1 : List S127) (a0_2 : Int) (a0_3 : Bool) (a1 : Int) (a2 : Int) (r1 : Int) (r3 : List Int) (r4 : List S79) (r5 : Int) (r6 : Bool) (r9 : Bool) (r10 : List Int) (r11 : Int) (m20 : Int) (l21 : List Int) (m23 : Int) (l24 : List S79) (m26 : Int) (l27 : List Int) (w : World)
    (hr0_0 : Kd.C (Kd.int .u8) w A0_0 l0_0.length l0_0) (hc0_0 : l0_0.length ≤ c0_0) (hr0_1 : Kd.C k127 w A0_1 l0_1.length l0_1) (hc0_1 : l0_1.length ≤ c0_1)
    (E2 : Ev (fun k => laws_szDisk.f k l0_0 l0_1 a0_2 a0_3 1048576) r1) (E2p : 0 ≤ r1) (E7 : Ev (fun k => laws_toDisk.f k l0_0 l0_1 a0_2 a0_3) (r3, r4, r5, r6)) (E12 : Ev (fun k => spec_ReadRec.f k r3 r4 r5 r6 a1 a2) (r9, r10, r11)) (E15 : Ev (fun k => m_ReadRec.f k r3 r4 r5 r6 a1 a2) (r9, r10, r11)) (E17 : Ev (fun k => laws_eqRecRes.f k r9 r10 r11 r9 r10 r11) true) (E19 : Ev (fun k => laws_eqDisk.f k r3 r4 r5 r6 r3 r4 r5 r6) true) (E22 : Ev (fun k => laws_markByteS.f k r3 1) (m20, l21)) (E25 : Ev (fun k => laws_markPendS.f k r4 m20) (m23, l24)) (Pm23 : 0 ≤ m23) (E28 : Ev (fun k => laws_markByteS.f k r10 1) (m26, l27)) (Pm26 : 0 ≤ m26) (E29 : Ev (fun k => laws_heldRecRes.f k r9 l27 r11 1) m26) :
    Calls Try.prog 5 #[.agg #[.slice A0_0 l0_0.length c0_0, .slice A0_1 l0_1.length c0_1, .int .i64 a0_2, .bool a0_3], .int .i64 a1, .int .i64 a2] w fun e w' => e = .returned (.bool true) ∧ Below w.heap.size w w' := by
  obtain ⟨k_E2, h_E2⟩ := E2.rounds
  have H_E2 := Aside0.mk h_E2
  clear E2 h_E2
  obtain ⟨k_E7, h_E7⟩ := E7.rounds
  have H_E7 := Aside0.mk h_E7
  clear E7 h_E7
  obtain ⟨k_E12, h_E12⟩ := E12.rounds
  have H_E12 := Aside0.mk h_E12
  clear E12 h_E12
  obtain ⟨k_E15, h_E15⟩ := E15.rounds
  have H_E15 := Aside0.mk h_E15
  clear E15 h_E15
  obtain ⟨k_E17, h_E17⟩ := E17.rounds
  have H_E17 := Aside0.mk h_E17
  clear E17 h_E17
  obtain ⟨k_E19, h_E19⟩ := E19.rounds
  have H_E19 := Aside0.mk h_E19
  clear E19 h_E19
  obtain ⟨k_E22, h_E22⟩ := E22.rounds
  have H_E22 := Aside0.mk h_E22
  clear E22 h_E22
  obtain ⟨k_E25, h_E25⟩ := E25.rounds
  have H_E25 := Aside0.mk h_E25
  clear E25 h_E25
  obtain ⟨k_E28, h_E28⟩ := E28.rounds
  have H_E28 := Aside0.mk h_E28
  clear E28 h_E28
  obtain ⟨k_E29, h_E29⟩ := E29.rounds
  have H_E29 := Aside0.mk h_E29
  clear E29 h_E29
  have E2pb : decide (r1 < 0) = false := decide_eq_false (by omega)
  have Pm23b : decide (m23 < 0) = false := decide_eq_false (by omega)
  have Pm26b : decide (m26 < 0) = false := decide_eq_false (by omega)
  have HR0_0 := Aside0.mk hr0_0
  have HC0_0 := Aside0.mk hc0_0
  clear hr0_0 hc0_0
  have HR0_1 := Aside0.mk hr0_1
  have HC0_1 := Aside0.mk hc0_1
  clear hr0_1 hc0_1
  have hu25 := Try.underlying25
  have hu37 := Try.underlying37
  have hu49 := Try.underlying49
  have HB := Aside0.mk (Below.refl w.heap.size w)
  go_enter Try.func5, Try.ntmps5
  go_wp2_with fail
  refine (laws_szDisk.calls k_E2 _ _ l0_0 _ _ l0_1 a0_2 a0_3 1048576 r1 _ (Kd.C_below HR0_0.out (below_alloc HB.out _)) HC0_0.out (Kd.C_below HR0_1.out (below_alloc HB.out _)) HC0_1.out H_E2.out).mono ?_
  rintro e w1 ⟨rfl, gb⟩
  have hz1 : w.heap.size + 1 ≤ w1.heap.size := by have := gb.size; first | omega | (simp at this; omega)
  have N_HB := Aside0.mk (below_step (below_alloc HB.out _) gb)
  have K3 := Aside0.mk (show w1.heap[w.heap.size]? = some (.cells #[.slice A0_0 l0_0.length c0_0, .slice A0_1 l0_1.length c0_1, .int .i64 a0_2, .bool a0_3] 37 (0, 0)) from by have := blk_below (blk_new _ _) gb; simpa using this)
  clear HB
  have HB := N_HB
  clear N_HB
  clear gb
  have y3 : w.heap.size < w1.heap.size := by omega
  have z3_0 : w1.cell? ⟨w.heap.size, 0, none⟩ = some (.slice A0_0 l0_0.length c0_0) := (blk_cell K3.out 0).trans rfl
  have z3_1 : w1.cell? ⟨w.heap.size, 1, none⟩ = some (.slice A0_1 l0_1.length c0_1) := (blk_cell K3.out 1).trans rfl
  have z3_2 : w1.cell? ⟨w.heap.size, 2, none⟩ = some (.int .i64 a0_2) := (blk_cell K3.out 2).trans rfl
  have z3_3 : w1.cell? ⟨w.heap.size, 3, none⟩ = some (.bool a0_3) := (blk_cell K3.out 3).trans rfl
  go_wp2_with fail
  clear y3 z3_0 z3_1 z3_2 z3_3
  refine (laws_toDisk.calls k_E7 _ _ l0_0 _ _ l0_1 a0_2 a0_3 r3 r4 r5 r6 _ (Kd.C_below HR0_0.out HB.out) HC0_0.out (Kd.C_below HR0_1.out HB.out) HC0_1.out H_E7.out).mono ?_
  rintro e w2 ⟨q8u0, q8u1, rfl, q8g0, q8g1, gb⟩
  have q8X0 := Aside0.mk (R_iv q8g0 w.heap.size (w1.heap.size) (by have := HB.out.size; first | (simp; done) | (simp; omega) | omega) (by simp))
  clear q8g0
  obtain ⟨q8A0, q8c0, rfl⟩ := Kd.R_slice q8X0.out
  have q8X1 := Aside0.mk (S_iv q8g1 w.heap.size (w1.heap.size) (by have := HB.out.size; first | (simp; done) | (simp; omega) | omega) (by simp))
  clear q8g1
  obtain ⟨q8A1, q8c1, rfl⟩ := Kd.S_slice q8X1.out
  have hz2 : w1.heap.size + 0 ≤ w2.heap.size := by have := gb.size; first | omega | (simp at this; omega)
  have N_HB := Aside0.mk (below_step HB.out gb)
  have N_K3 := Aside0.mk (blk_below K3.out gb)
  clear HB K3
  have HB := N_HB
  have K3 := N_K3
  clear N_HB N_K3
  clear gb
  have y3 : w.heap.size < w2.heap.size := by omega
  have z3_0 : w2.cell? ⟨w.heap.size, 0, none⟩ = some (.slice A0_0 l0_0.length c0_0) := (blk_cell K3.out 0).trans rfl
  have z3_1 : w2.cell? ⟨w.heap.size, 1, none⟩ = some (.slice A0_1 l0_1.length c0_1) := (blk_cell K3.out 1).trans rfl
  have z3_2 : w2.cell? ⟨w.heap.size, 2, none⟩ = some (.int .i64 a0_2) := (blk_cell K3.out 2).trans rfl
  have z3_3 : w2.cell? ⟨w.heap.size, 3, none⟩ = some (.bool a0_3) := (blk_cell K3.out 3).trans rfl
  go_wp2_with fail
  clear y3 z3_0 z3_1 z3_2 z3_3
  refine (spec_ReadRec.calls k_E12 _ _ r3 _ _ r4 r5 r6 a1 a2 r9 r10 r11 _ (Kd.R_reads' q8X0.out).2.2 (Kd.R_reads' q8X0.out).2.1 (Kd.S_reads' q8X1.out).2.2 (Kd.S_reads' q8X1.out).2.1 H_E12.out).mono ?_
  rintro e w3 ⟨q13u1, rfl, q13g1, gb⟩
  have q13X1 := Aside0.mk (R_iv q13g1 w.heap.size (w2.heap.size) (by have := HB.out.size; first | (simp; done) | (simp; omega) | omega) (by simp))
  clear q13g1
  obtain ⟨q13A1, q13c1, rfl⟩ := Kd.R_slice q13X1.out
  have hz3 : w2.heap.size + 0 ≤ w3.heap.size := by have := gb.size; first | omega | (simp at this; omega)
  have N_HB := Aside0.mk (below_step HB.out gb)
  have N_q8X0 := Aside0.mk (Kd.R_below q8X0.out gb)
  have N_q8X1 := Aside0.mk (Kd.S_below q8X1.out gb)
  have N_K3 := Aside0.mk (blk_below K3.out gb)
  clear HB q8X0 q8X1 K3
  have HB := N_HB
  have q8X0 := N_q8X0
  have q8X1 := N_q8X1
  have K3 := N_K3
  clear N_HB N_q8X0 N_q8X1 N_K3
  clear gb
  have y3 : w.heap.size < w3.heap.size := by omega
  have z3_0 : w3.cell? ⟨w.heap.size, 0, none⟩ = some (.slice A0_0 l0_0.length c0_0) := (blk_cell K3.out 0).trans rfl
  have z3_1 : w3.cell? ⟨w.heap.size, 1, none⟩ = some (.slice A0_1 l0_1.length c0_1) := (blk_cell K3.out 1).trans rfl
  have z3_2 : w3.cell? ⟨w.heap.size, 2, none⟩ = some (.int .i64 a0_2) := (blk_cell K3.out 2).trans rfl
  have z3_3 : w3.cell? ⟨w.heap.size, 3, none⟩ = some (.bool a0_3) := (blk_cell K3.out 3).trans rfl
  go_wp2_with fail
  clear y3 z3_0 z3_1 z3_2 z3_3
  refine (laws_toDisk.calls k_E7 _ _ l0_0 _ _ l0_1 a0_2 a0_3 r3 r4 r5 r6 _ (Kd.C_below HR0_0.out (below_alloc HB.out _)) HC0_0.out (Kd.C_below HR0_1.out (below_alloc HB.out _)) HC0_1.out H_E7.out).mono ?_
  rintro e w4 ⟨q14u0, q14u1, rfl, q14g0, q14g1, gb⟩
  have q14X0 := Aside0.mk (R_iv q14g0 w.heap.size (w3.heap.size + 1) (by have := HB.out.size; first | (simp; done) | (simp; omega) | omega) (by simp))
  clear q14g0
  obtain ⟨q14A0, q14c0, rfl⟩ := Kd.R_slice q14X0.out
  have q14X1 := Aside0.mk (S_iv q14g1 w.heap.size (w3.heap.size + 1) (by have := HB.out.size; first | (simp; done) | (simp; omega) | omega) (by simp))
  clear q14g1
  obtain ⟨q14A1, q14c1, rfl⟩ := Kd.S_slice q14X1.out
  have hz4 : w3.heap.size + 1 ≤ w4.heap.size := by have := gb.size; first | omega | (simp at this; omega)
  have N_HB := Aside0.mk (below_step (below_alloc HB.out _) gb)
  have N_q8X0 := Aside0.mk (Kd.R_below (Kd.R_alloc q8X0.out _) gb)
  have N_q8X1 := Aside0.mk (Kd.S_below (Kd.S_alloc q8X1.out _) gb)
  have N_q13X1 := Aside0.mk (Kd.R_below (Kd.R_alloc q13X1.out _) gb)
  have N_K3 := Aside0.mk (blk_below (blk_alloc K3.out _) gb)
  have K8 := Aside0.mk (show w4.heap[w3.heap.size]? = some (.cells #[.bool r9, .slice q13A1 r10.length q13c1, .int .i64 r11] 49 (0, 0)) from by have := blk_below (blk_new _ _) gb; simpa using this)
  clear HB q8X0 q8X1 q13X1 K3
  have HB := N_HB
  have q8X0 := N_q8X0
  have q8X1 := N_q8X1
  have q13X1 := N_q13X1
  have K3 := N_K3
  clear N_HB N_q8X0 N_q8X1 N_q13X1 N_K3
  clear gb
  go_wp2_with fail
  refine (impl_ReadRec.calls k_E15 _ _ r3 _ _ r4 r5 r6 a1 a2 r9 r10 r11 _ (Kd.C_alloc (Kd.R_reads' q14X0.out).2.2 _) (Kd.R_reads' q14X0.out).2.1 (Kd.C_alloc (Kd.S_reads' q14X1.out).2.2 _) (Kd.S_reads' q14X1.out).2.1 H_E15.out).mono ?_
  rintro e w5 ⟨q16u1, rfl, q16g1, gb⟩
  have q16X1 := Aside0.mk (R_iv q16g1 w.heap.size (w4.heap.size + 1) (by have := HB.out.size; first | (simp; done) | (simp; omega) | omega) (by simp))
  clear q16g1
  obtain ⟨q16A1, q16c1, rfl⟩ := Kd.R_slice q16X1.out
  have hz5 : w4.heap.size + 1 ≤ w5.heap.size := by have := gb.size; first | omega | (simp at this; omega)
  have N_HB := Aside0.mk (below_step (below_alloc HB.out _) gb)
  have N_q8X0 := Aside0.mk (Kd.R_below (Kd.R_alloc q8X0.out _) gb)
  have N_q8X1 := Aside0.mk (Kd.S_below (Kd.S_alloc q8X1.out _) gb)
  have N_q13X1 := Aside0.mk (Kd.R_below (Kd.R_alloc q13X1.out _) gb)
  have N_q14X0 := Aside0.mk (Kd.R_below (Kd.R_alloc q14X0.out _) gb)
  have N_q14X1 := Aside0.mk (Kd.S_below (Kd.S_alloc q14X1.out _) gb)
  have N_K3 := Aside0.mk (blk_below (blk_alloc K3.out _) gb)
  have N_K8 := Aside0.mk (blk_below (blk_alloc K8.out _) gb)
  have K9 := Aside0.mk (show w5.heap[w4.heap.size]? = some (.cells #[.slice q14A0 r3.length q14c0, .slice q14A1 r4.length q14c1, .int .i64 r5, .bool r6] 25 (0, 0)) from by have := blk_below (blk_new _ _) gb; simpa using this)
  clear HB q8X0 q8X1 q13X1 q14X0 q14X1 K3 K8
  have HB := N_HB
  have q8X0 := N_q8X0
  have q8X1 := N_q8X1
  have q13X1 := N_q13X1
  have q14X0 := N_q14X0
  have q14X1 := N_q14X1
  have K3 := N_K3
  have K8 := N_K8
  clear N_HB N_q8X0 N_q8X1 N_q13X1 N_q14X0 N_q14X1 N_K3 N_K8
  clear gb
  have y8 : w3.heap.size < w5.heap.size := by omega
  have z8_0 : w5.cell? ⟨w3.heap.size, 0, none⟩ = some (.bool r9) := (blk_cell K8.out 0).trans rfl
  have z8_1 : w5.cell? ⟨w3.heap.size, 1, none⟩ = some (.slice q13A1 r10.length q13c1) := (blk_cell K8.out 1).trans rfl
  have z8_2 : w5.cell? ⟨w3.heap.size, 2, none⟩ = some (.int .i64 r11) := (blk_cell K8.out 2).trans rfl
  go_wp2_with fail
  clear y8 z8_0 z8_1 z8_2
  refine (laws_eqRecRes.calls k_E17 r9 _ _ r10 r11 r9 _ _ r10 r11 true _ (Kd.C_alloc (Kd.R_reads' q16X1.out).2.2 _) (Kd.R_reads' q16X1.out).2.1 (Kd.C_alloc (Kd.R_reads' q13X1.out).2.2 _) (Kd.R_reads' q13X1.out).2.1 H_E17.out).mono ?_
  rintro e w6 ⟨rfl, gb⟩
  have hz6 : w5.heap.size + 1 ≤ w6.heap.size := by have := gb.size; first | omega | (simp at this; omega)
  have N_HB := Aside0.mk (below_step (below_alloc HB.out _) gb)
  have N_q8X0 := Aside0.mk (Kd.R_below (Kd.R_alloc q8X0.out _) gb)
  have N_q8X1 := Aside0.mk (Kd.S_below (Kd.S_alloc q8X1.out _) gb)
  have N_q13X1 := Aside0.mk (Kd.R_below (Kd.R_alloc q13X1.out _) gb)
  have N_q14X0 := Aside0.mk (Kd.R_below (Kd.R_alloc q14X0.out _) gb)
  have N_q14X1 := Aside0.mk (Kd.S_below (Kd.S_alloc q14X1.out _) gb)
  have N_q16X1 := Aside0.mk (Kd.R_below (Kd.R_alloc q16X1.out _) gb)
  have N_K3 := Aside0.mk (blk_below (blk_alloc K3.out _) gb)
  have N_K8 := Aside0.mk (blk_below (blk_alloc K8.out _) gb)
  have N_K9 := Aside0.mk (blk_below (blk_alloc K9.out _) gb)
  have K10 := Aside0.mk (show w6.heap[w5.heap.size]? = some (.cells #[.bool r9, .slice q16A1 r10.length q16c1, .int .i64 r11] 49 (0, 0)) from by have := blk_below (blk_new _ _) gb; simpa using this)
  clear HB q8X0 q8X1 q13X1 q14X0 q14X1 q16X1 K3 K8 K9
  have HB := N_HB
  have q8X0 := N_q8X0
  have q8X1 := N_q8X1
  have q13X1 := N_q13X1
  have q14X0 := N_q14X0
  have q14X1 := N_q14X1
  have q16X1 := N_q16X1
  have K3 := N_K3
  have K8 := N_K8
  have K9 := N_K9
  clear N_HB N_q8X0 N_q8X1 N_q13X1 N_q14X0 N_q14X1 N_q16X1 N_K3 N_K8 N_K9
  clear gb
  have y9 : w4.heap.size < w6.heap.size := by omega
  have z9_0 : w6.cell? ⟨w4.heap.size, 0, none⟩ = some (.slice q14A0 r3.length q14c0) := (blk_cell K9.out 0).trans rfl
  have z9_1 : w6.cell? ⟨w4.heap.size, 1, none⟩ = some (.slice q14A1 r4.length q14c1) := (blk_cell K9.out 1).trans rfl
  have z9_2 : w6.cell? ⟨w4.heap.size, 2, none⟩ = some (.int .i64 r5) := (blk_cell K9.out 2).trans rfl
  have z9_3 : w6.cell? ⟨w4.heap.size, 3, none⟩ = some (.bool r6) := (blk_cell K9.out 3).trans rfl
  have y3 : w.heap.size < w6.heap.size := by omega
  have z3_0 : w6.cell? ⟨w.heap.size, 0, none⟩ = some (.slice A0_0 l0_0.length c0_0) := (blk_cell K3.out 0).trans rfl
  have z3_1 : w6.cell? ⟨w.heap.size, 1, none⟩ = some (.slice A0_1 l0_1.length c0_1) := (blk_cell K3.out 1).trans rfl
  have z3_2 : w6.cell? ⟨w.heap.size, 2, none⟩ = some (.int .i64 a0_2) := (blk_cell K3.out 2).trans rfl
  have z3_3 : w6.cell? ⟨w.heap.size, 3, none⟩ = some (.bool a0_3) := (blk_cell K3.out 3).trans rfl
  go_wp2_with fail
  go_region_held3 (fun w' => w'.cell? ⟨w4.heap.size, 0, none⟩ = some (.slice q14A0 r3.length q14c0) ∧ w'.cell? ⟨w4.heap.size, 1, none⟩ = some (.slice q14A1 r4.length q14c1) ∧ w'.cell? ⟨w4.heap.size, 2, none⟩ = some (.int .i64 r5) ∧ w'.cell? ⟨w4.heap.size, 3, none⟩ = some (.bool r6) ∧ w'.cell? ⟨w.heap.size, 0, none⟩ = some (.slice A0_0 l0_0.length c0_0) ∧ w'.cell? ⟨w.heap.size, 1, none⟩ = some (.slice A0_1 l0_1.length c0_1) ∧ w'.cell? ⟨w.heap.size, 2, none⟩ = some (.int .i64 a0_2) ∧ w'.cell? ⟨w.heap.size, 3, none⟩ = some (.bool a0_3)) (go_keep) (first | (go_at_call 21; (refine (laws_toDisk.calls k_E7 _ _ l0_0 _ _ l0_1 a0_2 a0_3 r3 r4 r5 r6 _ (Kd.C_below HR0_0.out (below_drew HB.out)) HC0_0.out (Kd.C_below HR0_1.out (below_drew HB.out)) HC0_1.out H_E7.out).mono ?_); (rintro e w7 ⟨q18u0, q18u1, rfl, q18g0, q18g1, gb⟩); (have q18X0 := Aside0.mk (R_iv q18g0 w.heap.size (w6.heap.size) (by have := HB.out.size; first | (simp; done) | (simp; omega) | omega) (by simp))); (clear q18g0); (obtain ⟨q18A0, q18c0, rfl⟩ := Kd.R_slice q18X0.out); (have q18X1 := Aside0.mk (S_iv q18g1 w.heap.size (w6.heap.size) (by have := HB.out.size; first | (simp; done) | (simp; omega) | omega) (by simp))); (clear q18g1); (obtain ⟨q18A1, q18c1, rfl⟩ := Kd.S_slice q18X1.out); (have hz7 : w6.heap.size + 0 ≤ w7.heap.size := by have := gb.size; first | omega | (simp at this; omega)); (have N_HB := Aside0.mk (below_step (below_drew HB.out) gb)); (have N_q8X0 := Aside0.mk (Kd.R_below (Kd.R_drew q8X0.out) gb)); (have N_q8X1 := Aside0.mk (Kd.S_below (Kd.S_drew q8X1.out) gb)); (have N_q13X1 := Aside0.mk (Kd.R_below (Kd.R_drew q13X1.out) gb)); (have N_q14X0 := Aside0.mk (Kd.R_below (Kd.R_drew q14X0.out) gb)); (have N_q14X1 := Aside0.mk (Kd.S_below (Kd.S_drew q14X1.out) gb)); (have N_q16X1 := Aside0.mk (Kd.R_below (Kd.R_drew q16X1.out) gb)); (have N_K3 := Aside0.mk (blk_below (blk_drew K3.out) gb)); (have N_K8 := Aside0.mk (blk_below (blk_drew K8.out) gb)); (have N_K9 := Aside0.mk (blk_below (blk_drew K9.out) gb)); (have N_K10 := Aside0.mk (blk_below (blk_drew K10.out) gb)); (clear HB q8X0 q8X1 q13X1 q14X0 q14X1 q16X1 K3 K8 K9 K10); (have HB := N_HB); (have q8X0 := N_q8X0); (have q8X1 := N_q8X1); (have q13X1 := N_q13X1); (have q14X0 := N_q14X0); (have q14X1 := N_q14X1); (have q16X1 := N_q16X1); (have K3 := N_K3); (have K8 := N_K8); (have K9 := N_K9); (have K10 := N_K10); (clear N_HB N_q8X0 N_q8X1 N_q13X1 N_q14X0 N_q14X1 N_q16X1 N_K3 N_K8 N_K9 N_K10); (clear gb); (clear y9 z9_0 z9_1 z9_2 z9_3 y3 z3_0 z3_1 z3_2 z3_3); (have y9 : w4.heap.size < w7.heap.size := by omega); (have z9_0 : w7.cell? ⟨w4.heap.size, 0, none⟩ = some (.slice q14A0 r3.length q14c0) := (blk_cell K9.out 0).trans rfl); (have z9_1 : w7.cell? ⟨w4.heap.size, 1, none⟩ = some (.slice q14A1 r4.length q14c1) := (blk_cell K9.out 1).trans rfl); (have z9_2 : w7.cell? ⟨w4.heap.size, 2, none⟩ = some (.int .i64 r5) := (blk_cell K9.out 2).trans rfl); (have z9_3 : w7.cell? ⟨w4.heap.size, 3, none⟩ = some (.bool r6) := (blk_cell K9.out 3).trans rfl); (have y3 : w.heap.size < w7.heap.size := by omega); (have z3_0 : w7.cell? ⟨w.heap.size, 0, none⟩ = some (.slice A0_0 l0_0.length c0_0) := (blk_cell K3.out 0).trans rfl); (have z3_1 : w7.cell? ⟨w.heap.size, 1, none⟩ = some (.slice A0_1 l0_1.length c0_1) := (blk_cell K3.out 1).trans rfl); (have z3_2 : w7.cell? ⟨w.heap.size, 2, none⟩ = some (.int .i64 a0_2) := (blk_cell K3.out 2).trans rfl); (have z3_3 : w7.cell? ⟨w.heap.size, 3, none⟩ = some (.bool a0_3) := (blk_cell K3.out 3).trans rfl)) | (go_at_call 24; (refine (laws_eqDisk.calls k_E19 _ _ r3 _ _ r4 r5 r6 _ _ r3 _ _ r4 r5 r6 true _ (Kd.R_reads' q14X0.out).2.2 (Kd.R_reads' q14X0.out).2.1 (Kd.S_reads' q14X1.out).2.2 (Kd.S_reads' q14X1.out).2.1 (Kd.R_reads' q18X0.out).2.2 (Kd.R_reads' q18X0.out).2.1 (Kd.S_reads' q18X1.out).2.2 (Kd.S_reads' q18X1.out).2.1 H_E19.out).mono ?_); (rintro e w8 ⟨rfl, gb⟩); (have hz8 : w7.heap.size + 0 ≤ w8.heap.size := by have := gb.size; first | omega | (simp at this; omega)); (have N_HB := Aside0.mk (below_step HB.out gb)); (have N_q8X0 := Aside0.mk (Kd.R_below q8X0.out gb)); (have N_q8X1 := Aside0.mk (Kd.S_below q8X1.out gb)); (have N_q13X1 := Aside0.mk (Kd.R_below q13X1.out gb)); (have N_q14X0 := Aside0.mk (Kd.R_below q14X0.out gb)); (have N_q14X1 := Aside0.mk (Kd.S_below q14X1.out gb)); (have N_q16X1 := Aside0.mk (Kd.R_below q16X1.out gb)); (have N_q18X0 := Aside0.mk (Kd.R_below q18X0.out gb)); (have N_q18X1 := Aside0.mk (Kd.S_below q18X1.out gb)); (have N_K3 := Aside0.mk (blk_below K3.out gb)); (have N_K8 := Aside0.mk (blk_below K8.out gb)); (have N_K9 := Aside0.mk (blk_below K9.out gb)); (have N_K10 := Aside0.mk (blk_below K10.out gb)); (clear HB q8X0 q8X1 q13X1 q14X0 q14X1 q16X1 q18X0 q18X1 K3 K8 K9 K10); (have HB := N_HB); (have q8X0 := N_q8X0); (have q8X1 := N_q8X1); (have q13X1 := N_q13X1); (have q14X0 := N_q14X0); (have q14X1 := N_q14X1); (have q16X1 := N_q16X1); (have q18X0 := N_q18X0); (have q18X1 := N_q18X1); (have K3 := N_K3); (have K8 := N_K8); (have K9 := N_K9); (have K10 := N_K10); (clear N_HB N_q8X0 N_q8X1 N_q13X1 N_q14X0 N_q14X1 N_q16X1 N_q18X0 N_q18X1 N_K3 N_K8 N_K9 N_K10); (clear gb); (clear y9 z9_0 z9_1 z9_2 z9_3 y3 z3_0 z3_1 z3_2 z3_3); (have y9 : w4.heap.size < w8.heap.size := by omega); (have z9_0 : w8.cell? ⟨w4.heap.size, 0, none⟩ = some (.slice q14A0 r3.length q14c0) := (blk_cell K9.out 0).trans rfl); (have z9_1 : w8.cell? ⟨w4.heap.size, 1, none⟩ = some (.slice q14A1 r4.length q14c1) := (blk_cell K9.out 1).trans rfl); (have z9_2 : w8.cell? ⟨w4.heap.size, 2, none⟩ = some (.int .i64 r5) := (blk_cell K9.out 2).trans rfl); (have z9_3 : w8.cell? ⟨w4.heap.size, 3, none⟩ = some (.bool r6) := (blk_cell K9.out 3).trans rfl); (have y3 : w.heap.size < w8.heap.size := by omega); (have z3_0 : w8.cell? ⟨w.heap.size, 0, none⟩ = some (.slice A0_0 l0_0.length c0_0) := (blk_cell K3.out 0).trans rfl); (have z3_1 : w8.cell? ⟨w.heap.size, 1, none⟩ = some (.slice A0_1 l0_1.length c0_1) := (blk_cell K3.out 1).trans rfl); (have z3_2 : w8.cell? ⟨w.heap.size, 2, none⟩ = some (.int .i64 a0_2) := (blk_cell K3.out 2).trans rfl); (have z3_3 : w8.cell? ⟨w.heap.size, 3, none⟩ = some (.bool a0_3) := (blk_cell K3.out 3).trans rfl)))
  clear y9 z9_0 z9_1 z9_2 z9_3 y3 z3_0 z3_1 z3_2 z3_3
  have y9 : w4.heap.size < w8.heap.size := by omega
  have z9_0 : w8.cell? ⟨w4.heap.size, 0, none⟩ = some (.slice q14A0 r3.length q14c0) := (blk_cell K9.out 0).trans rfl
  have z9_1 : w8.cell? ⟨w4.heap.size, 1, none⟩ = some (.slice q14A1 r4.length q14c1) := (blk_cell K9.out 1).trans rfl
  have z9_2 : w8.cell? ⟨w4.heap.size, 2, none⟩ = some (.int .i64 r5) := (blk_cell K9.out 2).trans rfl
  have z9_3 : w8.cell? ⟨w4.heap.size, 3, none⟩ = some (.bool r6) := (blk_cell K9.out 3).trans rfl
  go_wp2_with fail
  clear y9 z9_0 z9_1 z9_2 z9_3
  refine (laws_markDisk.own k_E22 k_E25 (w3.heap.size + 1) (w4.heap.size) _ _ r5 r6 r3 r4 1 m20 m23 l21 l24 w _ (by have := HB.out.size; omega) HB.out q14X0.out q14X1.out H_E22.out H_E25.out).mono ?_
  rintro e w9 ⟨rfl, g_0, g_1, gB, hk⟩
  have hz9 : w8.heap.size + 0 ≤ w9.heap.size := by have := hk.1; first | omega | (simp at this; omega)
  have N_q8X0 := Aside0.mk (Kd.R_kept q8X0.out hk (fun k hk1 hk2 => by have := hk1.1; omega))
  have N_q8X1 := Aside0.mk (Kd.S_kept q8X1.out hk (fun k hk1 hk2 => by have := hk1.1; omega))
  have N_q13X1 := Aside0.mk (Kd.R_kept q13X1.out hk (fun k hk1 hk2 => by have := hk1.1; omega))
  have N_q16X1 := Aside0.mk (Kd.R_kept q16X1.out hk (fun k hk1 hk2 => by have := hk1.1; omega))
  have N_q18X0 := Aside0.mk (Kd.R_kept q18X0.out hk (fun k hk1 hk2 => by have := hk1.1; omega))
  have N_q18X1 := Aside0.mk (Kd.S_kept q18X1.out hk (fun k hk1 hk2 => by have := hk1.1; omega))
  have N_K3 := Aside0.mk (blk_kept K3.out hk (fun hk2 => by omega))
  have N_K8 := Aside0.mk (blk_kept K8.out hk (fun hk2 => by omega))
  have N_K9 := Aside0.mk (blk_kept K9.out hk (fun hk2 => by omega))
  have N_K10 := Aside0.mk (blk_kept K10.out hk (fun hk2 => by omega))
  clear q8X0 q8X1 q13X1 q16X1 q18X0 q18X1 K3 K8 K9 K10
  have q8X0 := N_q8X0
  have q8X1 := N_q8X1
  have q13X1 := N_q13X1
  have q16X1 := N_q16X1
  have q18X0 := N_q18X0
  have q18X1 := N_q18X1
  have K3 := N_K3
  have K8 := N_K8
  have K9 := N_K9
  have K10 := N_K10
  clear N_q8X0 N_q8X1 N_q13X1 N_q16X1 N_q18X0 N_q18X1 N_K3 N_K8 N_K9 N_K10
  clear HB hk
  have HB := Aside0.mk gB
  clear gB
  clear q14X0
  have q14X0 := Aside0.mk g_0
  clear g_0
  clear q14X1
  have q14X1 := Aside0.mk g_1
  clear g_1
  have ev_ : (.slice q14A0 r3.length q14c0 : Value) = .slice q14A0 l21.length q14c0 := by rw [(Kd.R_reads' q14X0.out).1]
  try rw [ev_] at q14X0
  try rw [ev_] at q14X1
  try rw [ev_] at K9
  try rw [ev_]
  clear ev_
  have ev_ : (.slice q14A1 r4.length q14c1 : Value) = .slice q14A1 l24.length q14c1 := by rw [(Kd.S_reads' q14X1.out).1]
  try rw [ev_] at q14X0
  try rw [ev_] at q14X1
  try rw [ev_] at K9
  try rw [ev_]
  clear ev_
  clear q14X0 q14X1 K9
  have y10 : w5.heap.size < w9.heap.size := by omega
  have z10_0 : w9.cell? ⟨w5.heap.size, 0, none⟩ = some (.bool r9) := (blk_cell K10.out 0).trans rfl
  have z10_1 : w9.cell? ⟨w5.heap.size, 1, none⟩ = some (.slice q16A1 r10.length q16c1) := (blk_cell K10.out 1).trans rfl
  have z10_2 : w9.cell? ⟨w5.heap.size, 2, none⟩ = some (.int .i64 r11) := (blk_cell K10.out 2).trans rfl
  have y8 : w3.heap.size < w9.heap.size := by omega
  have z8_0 : w9.cell? ⟨w3.heap.size, 0, none⟩ = some (.bool r9) := (blk_cell K8.out 0).trans rfl
  have z8_1 : w9.cell? ⟨w3.heap.size, 1, none⟩ = some (.slice q13A1 r10.length q13c1) := (blk_cell K8.out 1).trans rfl
  have z8_2 : w9.cell? ⟨w3.heap.size, 2, none⟩ = some (.int .i64 r11) := (blk_cell K8.out 2).trans rfl
  go_wp2_with fail
  clear y10 z10_0 z10_1 z10_2 y8 z8_0 z8_1 z8_2
  refine (laws_eqRecRes.calls k_E17 r9 _ _ r10 r11 r9 _ _ r10 r11 true _ (Kd.R_reads' q16X1.out).2.2 (Kd.R_reads' q16X1.out).2.1 (Kd.R_reads' q13X1.out).2.2 (Kd.R_reads' q13X1.out).2.1 H_E17.out).mono ?_
  rintro e w10 ⟨rfl, gb⟩
  have hz10 : w9.heap.size + 0 ≤ w10.heap.size := by have := gb.size; first | omega | (simp at this; omega)
  have N_HB := Aside0.mk (below_step HB.out gb)
  have N_q8X0 := Aside0.mk (Kd.R_below q8X0.out gb)
  have N_q8X1 := Aside0.mk (Kd.S_below q8X1.out gb)
  have N_q13X1 := Aside0.mk (Kd.R_below q13X1.out gb)
  have N_q16X1 := Aside0.mk (Kd.R_below q16X1.out gb)
  have N_q18X0 := Aside0.mk (Kd.R_below q18X0.out gb)
  have N_q18X1 := Aside0.mk (Kd.S_below q18X1.out gb)
  have N_K3 := Aside0.mk (blk_below K3.out gb)
  have N_K8 := Aside0.mk (blk_below K8.out gb)
  have N_K10 := Aside0.mk (blk_below K10.out gb)
  clear HB q8X0 q8X1 q13X1 q16X1 q18X0 q18X1 K3 K8 K10
  have HB := N_HB
  have q8X0 := N_q8X0
  have q8X1 := N_q8X1
  have q13X1 := N_q13X1
  have q16X1 := N_q16X1
  have q18X0 := N_q18X0
  have q18X1 := N_q18X1
  have K3 := N_K3
  have K8 := N_K8
  have K10 := N_K10
  clear N_HB N_q8X0 N_q8X1 N_q13X1 N_q16X1 N_q18X0 N_q18X1 N_K3 N_K8 N_K10
  clear gb
  have y10 : w5.heap.size < w10.heap.size := by omega
  have z10_0 : w10.cell? ⟨w5.heap.size, 0, none⟩ = some (.bool r9) := (blk_cell K10.out 0).trans rfl
  have z10_1 : w10.cell? ⟨w5.heap.size, 1, none⟩ = some (.slice q16A1 r10.length q16c1) := (blk_cell K10.out 1).trans rfl
  have z10_2 : w10.cell? ⟨w5.heap.size, 2, none⟩ = some (.int .i64 r11) := (blk_cell K10.out 2).trans rfl
  go_wp2_with fail
  clear y10 z10_0 z10_1 z10_2
  refine (laws_markRecRes.own k_E28 (w4.heap.size + 1) (w5.heap.size) r9 _ r11 r10 1 m26 l27 w _ (by have := HB.out.size; omega) HB.out q16X1.out H_E28.out).mono ?_
  rintro e w11 ⟨rfl, g_0, gB, hk⟩
  have hz11 : w10.heap.size + 0 ≤ w11.heap.size := by have := hk.1; first | omega | (simp at this; omega)
  have N_q8X0 := Aside0.mk (Kd.R_kept q8X0.out hk (fun k hk1 hk2 => by have := hk1.1; omega))
  have N_q8X1 := Aside0.mk (Kd.S_kept q8X1.out hk (fun k hk1 hk2 => by have := hk1.1; omega))
  have N_q13X1 := Aside0.mk (Kd.R_kept q13X1.out hk (fun k hk1 hk2 => by have := hk1.1; omega))
  have N_q18X0 := Aside0.mk (Kd.R_kept q18X0.out hk (fun k hk1 hk2 => by have := hk1.1; omega))
  have N_q18X1 := Aside0.mk (Kd.S_kept q18X1.out hk (fun k hk1 hk2 => by have := hk1.1; omega))
  have N_K3 := Aside0.mk (blk_kept K3.out hk (fun hk2 => by omega))
  have N_K8 := Aside0.mk (blk_kept K8.out hk (fun hk2 => by omega))
  have N_K10 := Aside0.mk (blk_kept K10.out hk (fun hk2 => by omega))
  clear q8X0 q8X1 q13X1 q18X0 q18X1 K3 K8 K10
  have q8X0 := N_q8X0
  have q8X1 := N_q8X1
  have q13X1 := N_q13X1
  have q18X0 := N_q18X0
  have q18X1 := N_q18X1
  have K3 := N_K3
  have K8 := N_K8
  have K10 := N_K10
  clear N_q8X0 N_q8X1 N_q13X1 N_q18X0 N_q18X1 N_K3 N_K8 N_K10
  clear HB hk
  have HB := Aside0.mk gB
  clear gB
  clear q16X1
  have q16X1 := Aside0.mk g_0
  clear g_0
  have ev_ : (.slice q16A1 r10.length q16c1 : Value) = .slice q16A1 l27.length q16c1 := by rw [(Kd.R_reads' q16X1.out).1]
  try rw [ev_] at q16X1
  try rw [ev_] at K10
  try rw [ev_]
  clear ev_
  have y10 : w5.heap.size < w11.heap.size := by omega
  have z10_0 : w11.cell? ⟨w5.heap.size, 0, none⟩ = some (.bool r9) := (blk_cell K10.out 0).trans rfl
  have z10_1 : w11.cell? ⟨w5.heap.size, 1, none⟩ = some (.slice q16A1 l27.length q16c1) := (blk_cell K10.out 1).trans rfl
  have z10_2 : w11.cell? ⟨w5.heap.size, 2, none⟩ = some (.int .i64 r11) := (blk_cell K10.out 2).trans rfl
  go_wp2_with fail
  clear y10 z10_0 z10_1 z10_2
  refine (laws_heldRecRes.calls k_E29 r9 _ _ l27 r11 1 m26 _ (Kd.R_reads' q16X1.out).2.2 (Kd.R_reads' q16X1.out).2.1 H_E29.out).mono ?_
  rintro e w12 ⟨rfl, gb⟩
  have hz12 : w11.heap.size + 0 ≤ w12.heap.size := by have := gb.size; first | omega | (simp at this; omega)
  have N_HB := Aside0.mk (below_step HB.out gb)
  have N_q8X0 := Aside0.mk (Kd.R_below q8X0.out gb)
  have N_q8X1 := Aside0.mk (Kd.S_below q8X1.out gb)
  have N_q13X1 := Aside0.mk (Kd.R_below q13X1.out gb)
  have N_q16X1 := Aside0.mk (Kd.R_below q16X1.out gb)
  have N_q18X0 := Aside0.mk (Kd.R_below q18X0.out gb)
  have N_q18X1 := Aside0.mk (Kd.S_below q18X1.out gb)
  have N_K3 := Aside0.mk (blk_below K3.out gb)
  have N_K8 := Aside0.mk (blk_below K8.out gb)
  have N_K10 := Aside0.mk (blk_below K10.out gb)
  clear HB q8X0 q8X1 q13X1 q16X1 q18X0 q18X1 K3 K8 K10
  have HB := N_HB
  have q8X0 := N_q8X0
  have q8X1 := N_q8X1
  have q13X1 := N_q13X1
  have q16X1 := N_q16X1
  have q18X0 := N_q18X0
  have q18X1 := N_q18X1
  have K3 := N_K3
  have K8 := N_K8
  have K10 := N_K10
  clear N_HB N_q8X0 N_q8X1 N_q13X1 N_q16X1 N_q18X0 N_q18X1 N_K3 N_K8 N_K10
  clear gb
  have y3 : w.heap.size < w12.heap.size := by omega
  have z3_0 : w12.cell? ⟨w.heap.size, 0, none⟩ = some (.slice A0_0 l0_0.length c0_0) := (blk_cell K3.out 0).trans rfl
  have z3_1 : w12.cell? ⟨w.heap.size, 1, none⟩ = some (.slice A0_1 l0_1.length c0_1) := (blk_cell K3.out 1).trans rfl
  have z3_2 : w12.cell? ⟨w.heap.size, 2, none⟩ = some (.int .i64 a0_2) := (blk_cell K3.out 2).trans rfl
  have z3_3 : w12.cell? ⟨w.heap.size, 3, none⟩ = some (.bool a0_3) := (blk_cell K3.out 3).trans rfl
  go_wp2_with fail
  clear y3 z3_0 z3_1 z3_2 z3_3
  refine (laws_toDisk.calls k_E7 _ _ l0_0 _ _ l0_1 a0_2 a0_3 r3 r4 r5 r6 _ (Kd.C_below HR0_0.out HB.out) HC0_0.out (Kd.C_below HR0_1.out HB.out) HC0_1.out H_E7.out).mono ?_
  rintro e w13 ⟨q30u0, q30u1, rfl, q30g0, q30g1, gb⟩
  have q30X0 := Aside0.mk (R_iv q30g0 w.heap.size (w12.heap.size) (by have := HB.out.size; first | (simp; done) | (simp; omega) | omega) (by simp))
  clear q30g0
  obtain ⟨q30A0, q30c0, rfl⟩ := Kd.R_slice q30X0.out
  have q30X1 := Aside0.mk (S_iv q30g1 w.heap.size (w12.heap.size) (by have := HB.out.size; first | (simp; done) | (simp; omega) | omega) (by simp))
  clear q30g1
  obtain ⟨q30A1, q30c1, rfl⟩ := Kd.S_slice q30X1.out
  have hz13 : w12.heap.size + 0 ≤ w13.heap.size := by have := gb.size; first | omega | (simp at this; omega)
  have N_HB := Aside0.mk (below_step HB.out gb)
  have N_q8X0 := Aside0.mk (Kd.R_below q8X0.out gb)
  have N_q8X1 := Aside0.mk (Kd.S_below q8X1.out gb)
  have N_q13X1 := Aside0.mk (Kd.R_below q13X1.out gb)
  have N_q16X1 := Aside0.mk (Kd.R_below q16X1.out gb)
  have N_q18X0 := Aside0.mk (Kd.R_below q18X0.out gb)
  have N_q18X1 := Aside0.mk (Kd.S_below q18X1.out gb)
  have N_K3 := Aside0.mk (blk_below K3.out gb)
  have N_K8 := Aside0.mk (blk_below K8.out gb)
  have N_K10 := Aside0.mk (blk_below K10.out gb)
  clear HB q8X0 q8X1 q13X1 q16X1 q18X0 q18X1 K3 K8 K10
  have HB := N_HB
  have q8X0 := N_q8X0
  have q8X1 := N_q8X1
  have q13X1 := N_q13X1
  have q16X1 := N_q16X1
  have q18X0 := N_q18X0
  have q18X1 := N_q18X1
  have K3 := N_K3
  have K8 := N_K8
  have K10 := N_K10
  clear N_HB N_q8X0 N_q8X1 N_q13X1 N_q16X1 N_q18X0 N_q18X1 N_K3 N_K8 N_K10
  clear gb
  have y3 : w.heap.size < w13.heap.size := by omega
  have z3_0 : w13.cell? ⟨w.heap.size, 0, none⟩ = some (.slice A0_0 l0_0.length c0_0) := (blk_cell K3.out 0).trans rfl
  have z3_1 : w13.cell? ⟨w.heap.size, 1, none⟩ = some (.slice A0_1 l0_1.length c0_1) := (blk_cell K3.out 1).trans rfl
  have z3_2 : w13.cell? ⟨w.heap.size, 2, none⟩ = some (.int .i64 a0_2) := (blk_cell K3.out 2).trans rfl
  have z3_3 : w13.cell? ⟨w.heap.size, 3, none⟩ = some (.bool a0_3) := (blk_cell K3.out 3).trans rfl
  go_wp2_with fail
  clear y3 z3_0 z3_1 z3_2 z3_3
  refine (impl_ReadRec.calls k_E15 _ _ r3 _ _ r4 r5 r6 a1 a2 r9 r10 r11 _ (Kd.R_reads' q30X0.out).2.2 (Kd.R_reads' q30X0.out).2.1 (Kd.S_reads' q30X1.out).2.2 (Kd.S_reads' q30X1.out).2.1 H_E15.out).mono ?_
  rintro e w14 ⟨q31u1, rfl, q31g1, gb⟩
  have q31X1 := Aside0.mk (R_iv q31g1 w.heap.size (w13.heap.size) (by have := HB.out.size; first | (simp; done) | (simp; omega) | omega) (by simp))
  clear q31g1
  obtain ⟨q31A1, q31c1, rfl⟩ := Kd.R_slice q31X1.out
  have hz14 : w13.heap.size + 0 ≤ w14.heap.size := by have := gb.size; first | omega | (simp at this; omega)
  have N_HB := Aside0.mk (below_step HB.out gb)
  have N_q8X0 := Aside0.mk (Kd.R_below q8X0.out gb)
  have N_q8X1 := Aside0.mk (Kd.S_below q8X1.out gb)
  have N_q13X1 := Aside0.mk (Kd.R_below q13X1.out gb)
  have N_q16X1 := Aside0.mk (Kd.R_below q16X1.out gb)
  have N_q18X0 := Aside0.mk (Kd.R_below q18X0.out gb)
  have N_q18X1 := Aside0.mk (Kd.S_below q18X1.out gb)
  have N_q30X0 := Aside0.mk (Kd.R_below q30X0.out gb)
  have N_q30X1 := Aside0.mk (Kd.S_below q30X1.out gb)
  have N_K3 := Aside0.mk (blk_below K3.out gb)
  have N_K8 := Aside0.mk (blk_below K8.out gb)
  have N_K10 := Aside0.mk (blk_below K10.out gb)
  clear HB q8X0 q8X1 q13X1 q16X1 q18X0 q18X1 q30X0 q30X1 K3 K8 K10
  have HB := N_HB
  have q8X0 := N_q8X0
  have q8X1 := N_q8X1
  have q13X1 := N_q13X1
  have q16X1 := N_q16X1
  have q18X0 := N_q18X0
  have q18X1 := N_q18X1
  have q30X0 := N_q30X0
  have q30X1 := N_q30X1
  have K3 := N_K3
  have K8 := N_K8
  have K10 := N_K10
  clear N_HB N_q8X0 N_q8X1 N_q13X1 N_q16X1 N_q18X0 N_q18X1 N_q30X0 N_q30X1 N_K3 N_K8 N_K10
  clear gb
  have y8 : w3.heap.size < w14.heap.size := by omega
  have z8_0 : w14.cell? ⟨w3.heap.size, 0, none⟩ = some (.bool r9) := (blk_cell K8.out 0).trans rfl
  have z8_1 : w14.cell? ⟨w3.heap.size, 1, none⟩ = some (.slice q13A1 r10.length q13c1) := (blk_cell K8.out 1).trans rfl
  have z8_2 : w14.cell? ⟨w3.heap.size, 2, none⟩ = some (.int .i64 r11) := (blk_cell K8.out 2).trans rfl
  go_wp2_with fail
  clear y8 z8_0 z8_1 z8_2
  refine (laws_eqRecRes.calls k_E17 r9 _ _ r10 r11 r9 _ _ r10 r11 true _ (Kd.C_alloc (Kd.R_reads' q31X1.out).2.2 _) (Kd.R_reads' q31X1.out).2.1 (Kd.C_alloc (Kd.R_reads' q13X1.out).2.2 _) (Kd.R_reads' q13X1.out).2.1 H_E17.out).mono ?_
  rintro e w15 ⟨rfl, gb⟩
  have hz15 : w14.heap.size + 1 ≤ w15.heap.size := by have := gb.size; first | omega | (simp at this; omega)
  have N_HB := Aside0.mk (below_step (below_alloc HB.out _) gb)
  have N_q8X0 := Aside0.mk (Kd.R_below (Kd.R_alloc q8X0.out _) gb)
  have N_q8X1 := Aside0.mk (Kd.S_below (Kd.S_alloc q8X1.out _) gb)
  have N_q13X1 := Aside0.mk (Kd.R_below (Kd.R_alloc q13X1.out _) gb)
  have N_q16X1 := Aside0.mk (Kd.R_below (Kd.R_alloc q16X1.out _) gb)
  have N_q18X0 := Aside0.mk (Kd.R_below (Kd.R_alloc q18X0.out _) gb)
  have N_q18X1 := Aside0.mk (Kd.S_below (Kd.S_alloc q18X1.out _) gb)
  have N_q30X0 := Aside0.mk (Kd.R_below (Kd.R_alloc q30X0.out _) gb)
  have N_q30X1 := Aside0.mk (Kd.S_below (Kd.S_alloc q30X1.out _) gb)
  have N_q31X1 := Aside0.mk (Kd.R_below (Kd.R_alloc q31X1.out _) gb)
  have N_K3 := Aside0.mk (blk_below (blk_alloc K3.out _) gb)
  have N_K8 := Aside0.mk (blk_below (blk_alloc K8.out _) gb)
  have N_K10 := Aside0.mk (blk_below (blk_alloc K10.out _) gb)
  have K14 := Aside0.mk (show w15.heap[w14.heap.size]? = some (.cells #[.bool r9, .slice q31A1 r10.length q31c1, .int .i64 r11] 49 (0, 0)) from by have := blk_below (blk_new _ _) gb; simpa using this)
  clear HB q8X0 q8X1 q13X1 q16X1 q18X0 q18X1 q30X0 q30X1 q31X1 K3 K8 K10
  have HB := N_HB
  have q8X0 := N_q8X0
  have q8X1 := N_q8X1
  have q13X1 := N_q13X1
  have q16X1 := N_q16X1
  have q18X0 := N_q18X0
  have q18X1 := N_q18X1
  have q30X0 := N_q30X0
  have q30X1 := N_q30X1
  have q31X1 := N_q31X1
  have K3 := N_K3
  have K8 := N_K8
  have K10 := N_K10
  clear N_HB N_q8X0 N_q8X1 N_q13X1 N_q16X1 N_q18X0 N_q18X1 N_q30X0 N_q30X1 N_q31X1 N_K3 N_K8 N_K10
  clear gb
  go_wp2
  go_ret
  exact ⟨rfl, by first | exact HB.out | exact below_alloc HB.out _ | exact below_alloc (below_alloc HB.out _) _ | exact below_alloc (below_alloc (below_alloc HB.out _) _) _⟩

/-! ### zmain_ReadRec: a text by hand -/
theorem mRR_len (pc : Int → Int → List Int → List Int) (l0 : List Int) (l1 : List S79) (a2 at_ seq : Int) : (mRR pc l0 l1 a2 at_ seq).2.1.length ≤ 30000 := by
  unfold mRR
  split
  · split
    · simp
    · split
      · simp
      · split
        · simp
        · dsimp only; omega
  · simp
theorem main_ReadRec (A0 : Option Addr) (c0 : Nat) (l0 : List Int) (A1 : Option Addr) (c1 : Nat) (l1 : List S127) (a2 : Int) (a3 : Bool) (b0 b1 : Int)
    (F : (l0.length ≤ maxLen ∧ ∀ x ∈ l0, (Lit.int .u8 x).wf = true) ∧ (l1.length ≤ maxLen ∧ ∀ x ∈ l1, (Lit.int .i64 x.f0).wf = true ∧ (x.f1.length ≤ maxLen ∧ ∀ y ∈ x.f1, (Lit.int .u8 y).wf = true)) ∧ (Lit.int .i64 a2).wf = true ∧ True) (_F1 : (Lit.int .i64 b0).wf = true) (_F2 : (Lit.int .i64 b1).wf = true)
    (w : World) (hr0 : Kd.C (Kd.int .u8) w A0 l0.length l0) (hc0 : l0.length ≤ c0) (hr1 : Kd.C k127 w A1 l1.length l1) (hc1 : l1.length ≤ c1) :
    Calls Try.prog 5 #[.agg #[.slice A0 l0.length c0, .slice A1 l1.length c1, .int .i64 a2, .bool a3], .int .i64 b0, .int .i64 b1] w fun e w' => e = .returned (.bool true) ∧ Below w.heap.size w w' := by
  obtain ⟨r, hr, hok⟩ := szDisk_ev l0 l1 a2 a3 F.1.1 F.2.1.1 (fun x hx => (F.2.1.2 x hx).2.1)
  by_cases c : r < 0
  · exact guard1_FnExactReadRec A0 c0 l0 A1 c1 l1 a2 a3 b0 b1 r w hr0 hc0 hr1 hc1 hr c
  obtain ⟨h0, ok⟩ := hok (by omega)
  have hT := toDisk_ev l0 l1 a2 a3 h0 ok
  have hu8 : ∀ x : Int, (Lit.int .u8 x).wf = true → 0 ≤ x ∧ x < 256 := fun x hx => by
    simp [Lit.wf] at hx
    have h1 : IntKind.u8.min = 0 := by kernel_rfl
    have h2 : IntKind.u8.max = 255 := by kernel_rfl
    omega
  have hR : RsOk l0 (cvPend l1) := ⟨h0, ok, fun x hx => hu8 x (F.1.2 x hx), fun p hp y hy => by
    obtain ⟨q, hq, rfl⟩ := List.mem_map.1 (show p ∈ cvPend l1 from hp)
    exact hu8 y ((F.2.1.2 q hq).2.2 y hy)⟩
  generalize cvPend l1 = l1' at hT ok hR
  obtain ⟨cr, hc⟩ := crc_total
  have hs := specRR_ev hc l0 l1' a2 a3 b0 b1 hR
  have hi : Ev (fun k => m_ReadRec.f k l0 l1' a2 a3 b0 b1) (mRR (pcOf cr b1) l0 l1' a2 b0 b1) := Ev.congr (fun k => by rw [m_ReadRec.f, if_pos (rsOk_to hR)]) hs
  have hl := mRR_len (pcOf cr b1) l0 l1' a2 b0 b1
  generalize mRR (pcOf cr b1) l0 l1' a2 b0 b1 = z at hs hi hl
  obtain ⟨r9, r10, r11⟩ := z
  dsimp only at hl
  have hb := mkP_bd l1' ok.2 (1 + l0.length)
  have o1 := ok.1
  refine walk_FnExactReadRec A0 c0 l0 A1 c1 l1 a2 a3 b0 b1 r l0 l1' a2 a3 r9 r10 r11 (1 + l0.length) (mkB 1 l0) _ _ (1 + r10.length) (mkB 1 r10) w hr0 hc0 hr1 hc1 hr (by omega) hT hs hi ?_ (eqDisk_ev l0 l1' a2 a3 h0 ok)
    (markByteS_ev l0 1 (by omega) (by omega)) (markPendS_ev l1' ok.2 _ (by omega) (by omega)) (by omega) (markByteS_ev r10 1 (by omega) (by omega)) (by omega) ?_
  · unfold laws_eqRecRes.f
    refine Ev.congr (fun k => if_neg (by simp)) ?_
    exact Ev.bind (eqByteS_ev r10 (by omega)) (Ev.congr (fun k => by rw [if_pos rfl, if_pos rfl]) (Ev.now _))
  · unfold laws_heldRecRes.f
    exact Ev.bind (heldByteS_ev r10 1 (by omega) (by omega)) (Ev.congr (fun k => if_neg (by omega)) (Ev.now _))
end Go.Proofs.Yteddpdonmhiplaa.PR
