-- Made by this session's programs out of the translation and of its own texts.
import Derived.Test.YteddpdonmhiplaaMFnExactWriteRecf
namespace Go.Proofs.Yteddpdonmhiplaa.PR
open Go.RowKit Go.Proofs.YteddpdonmhiplaaW.PrintWords Go.Proofs.YteddpdonmhiplaaW.PrintLast Go.Proofs.YteddpdonmhiplaaW.PrintMore
attribute [local go_sem] max2_int min2_int max_two min_two max_three min_three max_four min_four   -- for this text's walks alone
set_option linter.unusedVariables false
set_option linter.unusedSimpArgs false

/-! ### zwalk_WriteRec: a text by hand -/
set_option maxHeartbeats 4000000 in
set_option maxRecDepth 100000 in
theorem walk_FnExactWriteRec (A0_0 : Option Addr) (c0_0 : Nat) (l0_0 : List Int) (A0_1 : Option Addr) (c0_1 : Nat) (l0_1 : List S127) (a0_2 : Int) (a0_3 : Bool) (a1 : Int) (a2 : Int) (A3 : Option Addr) (c3 : Nat) (l3 : List Int) (r1 : Int) (r3 : List Int) (r4 : List S79) (r5 : Int) (r6 : Bool) (r9 : List Int) (r12 : List Int) (r13 : List S79) (r14 : Int) (r15 : Bool) (m27 : Int) (l28 : List Int) (m30 : Int) (l31 : List S79) (m33 : Int) (l34 : List Int) (m36 : Int) (l37 : List Int) (m39 : Int) (l40 : List S79) (w : World)
  (hr0_0 : Kd.C (Kd.int .u8) w A0_0 l0_0.length l0_0) (hc0_0 : l0_0.length ≤ c0_0) (hr0_1 : Kd.C k127 w A0_1 l0_1.length l0_1) (hc0_1 : l0_1.length ≤ c0_1) (hr3 : Kd.C (Kd.int .u8) w A3 l3.length l3) (hc3 : l3.length ≤ c3)
  (E2 : Ev (fun k => laws_szDisk.f k l0_0 l0_1 a0_2 a0_3 1048576) r1) (E2p : 0 ≤ r1) (E7 : Ev (fun k => laws_toDisk.f k l0_0 l0_1 a0_2 a0_3) (r3, r4, r5, r6)) (E10 : Ev (fun k => laws_toByteS.f k l3) r9) (E16 : Ev (fun k => m_WriteRec.f k r3 r4 r5 r6 a1 a2 r9) (r12, r13, r14, r15)) (E20 : Ev (fun k => m_WriteRec.f k r3 r4 r5 r6 a1 a2 r9) (r12, r13, r14, r15)) (E22 : Ev (fun k => laws_eqDisk.f k r12 r13 r14 r15 r12 r13 r14 r15) true) (E24 : Ev (fun k => laws_eqDisk.f k r3 r4 r5 r6 r3 r4 r5 r6) true) (E26 : Ev (fun k => laws_eqByteS.f k r9 r9) true) (E29 : Ev (fun k => laws_markByteS.f k r3 1) (m27, l28)) (E32 : Ev (fun k => laws_markPendS.f k r4 m27) (m30, l31)) (Pm30 : 0 ≤ m30) (E35 : Ev (fun k => laws_markByteS.f k r9 m30) (m33, l34)) (Pm33 : 0 ≤ m33) (E38 : Ev (fun k => laws_markByteS.f k r12 1) (m36, l37)) (E41 : Ev (fun k => laws_markPendS.f k r13 m36) (m39, l40)) (Pm39 : 0 ≤ m39) (E42 : Ev (fun k => laws_heldDisk.f k l37 l40 r14 r15 1) m39) (G3 : l3.length ≤ 1048576) :
  Calls Try.prog 7 #[.agg #[.slice A0_0 l0_0.length c0_0, .slice A0_1 l0_1.length c0_1, .int .i64 a0_2, .bool a0_3], .int .i64 a1, .int .i64 a2, .slice A3 l3.length c3] w fun e w' => e = .returned (.bool true) ∧ Below w.heap.size w w' := by
 obtain ⟨k_E2, h_E2⟩ := E2.rounds
 have H_E2 := Aside0.mk h_E2
 clear E2 h_E2
 obtain ⟨k_E7, h_E7⟩ := E7.rounds
 have H_E7 := Aside0.mk h_E7
 clear E7 h_E7
 obtain ⟨k_E10, h_E10⟩ := E10.rounds
 have H_E10 := Aside0.mk h_E10
 clear E10 h_E10
 obtain ⟨k_E16, h_E16⟩ := E16.rounds
 have H_E16 := Aside0.mk h_E16
 clear E16 h_E16
 obtain ⟨k_E20, h_E20⟩ := E20.rounds
 have H_E20 := Aside0.mk h_E20
 clear E20 h_E20
 obtain ⟨k_E22, h_E22⟩ := E22.rounds
 have H_E22 := Aside0.mk h_E22
 clear E22 h_E22
 obtain ⟨k_E24, h_E24⟩ := E24.rounds
 have H_E24 := Aside0.mk h_E24
 clear E24 h_E24
 obtain ⟨k_E26, h_E26⟩ := E26.rounds
 have H_E26 := Aside0.mk h_E26
 clear E26 h_E26
 obtain ⟨k_E29, h_E29⟩ := E29.rounds
 have H_E29 := Aside0.mk h_E29
 clear E29 h_E29
 obtain ⟨k_E32, h_E32⟩ := E32.rounds
 have H_E32 := Aside0.mk h_E32
 clear E32 h_E32
 obtain ⟨k_E35, h_E35⟩ := E35.rounds
 have H_E35 := Aside0.mk h_E35
 clear E35 h_E35
 obtain ⟨k_E38, h_E38⟩ := E38.rounds
 have H_E38 := Aside0.mk h_E38
 clear E38 h_E38
 obtain ⟨k_E41, h_E41⟩ := E41.rounds
 have H_E41 := Aside0.mk h_E41
 clear E41 h_E41
 obtain ⟨k_E42, h_E42⟩ := E42.rounds
 have H_E42 := Aside0.mk h_E42
 clear E42 h_E42
 have E2pb : decide (r1 < 0) = false := decide_eq_false (by omega)
 have Pm30b : decide (m30 < 0) = false := decide_eq_false (by omega)
 have Pm33b : decide (m33 < 0) = false := decide_eq_false (by omega)
 have Pm39b : decide (m39 < 0) = false := decide_eq_false (by omega)
 have HR0_0 := Aside0.mk hr0_0
 have HC0_0 := Aside0.mk hc0_0
 clear hr0_0 hc0_0
 have HR0_1 := Aside0.mk hr0_1
 have HC0_1 := Aside0.mk hc0_1
 clear hr0_1 hc0_1
 have HR3 := Aside0.mk hr3
 have HC3 := Aside0.mk hc3
 clear hr3 hc3
 have hu25 := Try.underlying25
 have hu37 := Try.underlying37
 have HB := Aside0.mk (Below.refl w.heap.size w)
 go_enter Try.func7, Try.ntmps7
 go_wp2_with fail
 refine (laws_szDisk.calls k_E2 _ _ l0_0 _ _ l0_1 a0_2 a0_3 1048576 r1 _ (Kd.C_below HR0_0.out (below_alloc HB.out _)) HC0_0.out (Kd.C_below HR0_1.out (below_alloc HB.out _)) HC0_1.out H_E2.out).mono ?_
 rintro e w1 ⟨rfl, gb⟩
 have hz1 : w.heap.size + 1 ≤ w1.heap.size := by have := gb.size; first | omega | (simp at this; omega)
 have N_HB := Aside0.mk (below_step (below_alloc HB.out _) gb)
 have K4 := Aside0.mk (show w1.heap[w.heap.size]? = some (.cells #[.slice A0_0 l0_0.length c0_0, .slice A0_1 l0_1.length c0_1, .int .i64 a0_2, .bool a0_3] 37 (0, 0)) from by have := blk_below (blk_new _ _) gb; simpa using this)
 clear HB
 have HB := N_HB
 clear N_HB
 clear gb
 have y4 : w.heap.size < w1.heap.size := by omega
 have z4_0 : w1.cell? ⟨w.heap.size, 0, none⟩ = some (.slice A0_0 l0_0.length c0_0) := (blk_cell K4.out 0).trans rfl
 have z4_1 : w1.cell? ⟨w.heap.size, 1, none⟩ = some (.slice A0_1 l0_1.length c0_1) := (blk_cell K4.out 1).trans rfl
 have z4_2 : w1.cell? ⟨w.heap.size, 2, none⟩ = some (.int .i64 a0_2) := (blk_cell K4.out 2).trans rfl
 have z4_3 : w1.cell? ⟨w.heap.size, 3, none⟩ = some (.bool a0_3) := (blk_cell K4.out 3).trans rfl
 go_wp2_with fail
 clear y4 z4_0 z4_1 z4_2 z4_3
 refine (laws_toDisk.calls k_E7 _ _ l0_0 _ _ l0_1 a0_2 a0_3 r3 r4 r5 r6 _ (Kd.C_below HR0_0.out HB.out) HC0_0.out (Kd.C_below HR0_1.out HB.out) HC0_1.out H_E7.out).mono ?_
 rintro e w2 ⟨q8u0, q8u1, rfl, q8g0, q8g1, gb⟩
 have q8X0 := Aside0.mk (R_iv q8g0 w.heap.size (w1.heap.size) (by have := HB.out.size; first | (simp; done) | (simp; omega) | omega) (by simp))
 clear q8g0
 obtain ⟨q8A0, q8c0, rfl⟩ := Kd.R_slice q8X0.out
 have q8X1 := Aside0.mk (S_iv q8g1 w.heap.size (w1.heap.size) (by have := HB.out.size; first | (simp; done) | (simp; omega) | omega) (by simp))
 clear q8g1
 obtain ⟨q8A1, q8c1, rfl⟩ := Kd.S_slice q8X1.out
 have hz2 : w1.heap.size + 0 ≤ w2.heap.size := by have := gb.size; first | omega | (simp at this; omega)
 have N_HB := Aside0.mk (below_step HB.out gb)
 have N_K4 := Aside0.mk (blk_below K4.out gb)
 clear HB K4
 have HB := N_HB
 have K4 := N_K4
 clear N_HB N_K4
 clear gb
 have y4 : w.heap.size < w2.heap.size := by omega
 have z4_0 : w2.cell? ⟨w.heap.size, 0, none⟩ = some (.slice A0_0 l0_0.length c0_0) := (blk_cell K4.out 0).trans rfl
 have z4_1 : w2.cell? ⟨w.heap.size, 1, none⟩ = some (.slice A0_1 l0_1.length c0_1) := (blk_cell K4.out 1).trans rfl
 have z4_2 : w2.cell? ⟨w.heap.size, 2, none⟩ = some (.int .i64 a0_2) := (blk_cell K4.out 2).trans rfl
 have z4_3 : w2.cell? ⟨w.heap.size, 3, none⟩ = some (.bool a0_3) := (blk_cell K4.out 3).trans rfl
 go_wp2_with fail
 clear y4 z4_0 z4_1 z4_2 z4_3
 refine (laws_toByteS.calls k_E10 _ _ l3 r9 _ (Kd.C_below HR3.out HB.out) HC3.out H_E10.out).mono ?_
 rintro e w3 ⟨q11u0, rfl, q11g0, gb⟩
 have q11X0 := Aside0.mk (R_iv q11g0 w.heap.size (w2.heap.size) (by have := HB.out.size; first | (simp; done) | (simp; omega) | omega) (by simp))
 clear q11g0
 obtain ⟨q11A0, q11c0, rfl⟩ := Kd.R_slice q11X0.out
 have hz3 : w2.heap.size + 0 ≤ w3.heap.size := by have := gb.size; first | omega | (simp at this; omega)
 have N_HB := Aside0.mk (below_step HB.out gb)
 have N_q8X0 := Aside0.mk (Kd.R_below q8X0.out gb)
 have N_q8X1 := Aside0.mk (Kd.S_below q8X1.out gb)
 have N_K4 := Aside0.mk (blk_below K4.out gb)
 clear HB q8X0 q8X1 K4
 have HB := N_HB
 have q8X0 := N_q8X0
 have q8X1 := N_q8X1
 have K4 := N_K4
 clear N_HB N_q8X0 N_q8X1 N_K4
 clear gb
 have y4 : w.heap.size < w3.heap.size := by omega
 have z4_0 : w3.cell? ⟨w.heap.size, 0, none⟩ = some (.slice A0_0 l0_0.length c0_0) := (blk_cell K4.out 0).trans rfl
 have z4_1 : w3.cell? ⟨w.heap.size, 1, none⟩ = some (.slice A0_1 l0_1.length c0_1) := (blk_cell K4.out 1).trans rfl
 have z4_2 : w3.cell? ⟨w.heap.size, 2, none⟩ = some (.int .i64 a0_2) := (blk_cell K4.out 2).trans rfl
 have z4_3 : w3.cell? ⟨w.heap.size, 3, none⟩ = some (.bool a0_3) := (blk_cell K4.out 3).trans rfl
 go_wp2_with fail
 clear y4 z4_0 z4_1 z4_2 z4_3
 refine (spec_WriteRec.calls k_E16 _ _ r3 _ _ r4 r5 r6 a1 a2 _ _ r9 r12 r13 r14 r15 _ (Kd.R_reads' q8X0.out).2.2 (Kd.R_reads' q8X0.out).2.1 (Kd.S_reads' q8X1.out).2.2 (Kd.S_reads' q8X1.out).2.1 (Kd.R_reads' q11X0.out).2.2 (Kd.R_reads' q11X0.out).2.1 H_E16.out).mono ?_
 rintro e w4 ⟨q17u0, q17u1, rfl, q17g0, q17g1, gb⟩
 have q17X0 := Aside0.mk (R_iv q17g0 w.heap.size (w3.heap.size) (by have := HB.out.size; first | (simp; done) | (simp; omega) | omega) (by simp))
 clear q17g0
 obtain ⟨q17A0, q17c0, rfl⟩ := Kd.R_slice q17X0.out
 have q17X1 := Aside0.mk (S_iv q17g1 w.heap.size (w3.heap.size) (by have := HB.out.size; first | (simp; done) | (simp; omega) | omega) (by simp))
 clear q17g1
 obtain ⟨q17A1, q17c1, rfl⟩ := Kd.S_slice q17X1.out
 have hz4 : w3.heap.size + 0 ≤ w4.heap.size := by have := gb.size; first | omega | (simp at this; omega)
 have N_HB := Aside0.mk (below_step HB.out gb)
 have N_q8X0 := Aside0.mk (Kd.R_below q8X0.out gb)
 have N_q8X1 := Aside0.mk (Kd.S_below q8X1.out gb)
 have N_q11X0 := Aside0.mk (Kd.R_below q11X0.out gb)
 have N_K4 := Aside0.mk (blk_below K4.out gb)
 clear HB q8X0 q8X1 q11X0 K4
 have HB := N_HB
 have q8X0 := N_q8X0
 have q8X1 := N_q8X1
 have q11X0 := N_q11X0
 have K4 := N_K4
 clear N_HB N_q8X0 N_q8X1 N_q11X0 N_K4
 clear gb
 have y4 : w.heap.size < w4.heap.size := by omega
 have z4_0 : w4.cell? ⟨w.heap.size, 0, none⟩ = some (.slice A0_0 l0_0.length c0_0) := (blk_cell K4.out 0).trans rfl
 have z4_1 : w4.cell? ⟨w.heap.size, 1, none⟩ = some (.slice A0_1 l0_1.length c0_1) := (blk_cell K4.out 1).trans rfl
 have z4_2 : w4.cell? ⟨w.heap.size, 2, none⟩ = some (.int .i64 a0_2) := (blk_cell K4.out 2).trans rfl
 have z4_3 : w4.cell? ⟨w.heap.size, 3, none⟩ = some (.bool a0_3) := (blk_cell K4.out 3).trans rfl
 go_wp2_with fail
 clear y4 z4_0 z4_1 z4_2 z4_3
 refine (laws_toDisk.calls k_E7 _ _ l0_0 _ _ l0_1 a0_2 a0_3 r3 r4 r5 r6 _ (Kd.C_below HR0_0.out (below_alloc HB.out _)) HC0_0.out (Kd.C_below HR0_1.out (below_alloc HB.out _)) HC0_1.out H_E7.out).mono ?_
 rintro e w5 ⟨q18u0, q18u1, rfl, q18g0, q18g1, gb⟩
 have q18X0 := Aside0.mk (R_iv q18g0 w.heap.size (w4.heap.size + 1) (by have := HB.out.size; first | (simp; done) | (simp; omega) | omega) (by simp))
 clear q18g0
 obtain ⟨q18A0, q18c0, rfl⟩ := Kd.R_slice q18X0.out
 have q18X1 := Aside0.mk (S_iv q18g1 w.heap.size (w4.heap.size + 1) (by have := HB.out.size; first | (simp; done) | (simp; omega) | omega) (by simp))
 clear q18g1
 obtain ⟨q18A1, q18c1, rfl⟩ := Kd.S_slice q18X1.out
 have hz5 : w4.heap.size + 1 ≤ w5.heap.size := by have := gb.size; first | omega | (simp at this; omega)
 have N_HB := Aside0.mk (below_step (below_alloc HB.out _) gb)
 have N_q8X0 := Aside0.mk (Kd.R_below (Kd.R_alloc q8X0.out _) gb)
 have N_q8X1 := Aside0.mk (Kd.S_below (Kd.S_alloc q8X1.out _) gb)
 have N_q11X0 := Aside0.mk (Kd.R_below (Kd.R_alloc q11X0.out _) gb)
 have N_q17X0 := Aside0.mk (Kd.R_below (Kd.R_alloc q17X0.out _) gb)
 have N_q17X1 := Aside0.mk (Kd.S_below (Kd.S_alloc q17X1.out _) gb)
 have N_K4 := Aside0.mk (blk_below (blk_alloc K4.out _) gb)
 have K10 := Aside0.mk (show w5.heap[w4.heap.size]? = some (.cells #[.slice q17A0 r12.length q17c0, .slice q17A1 r13.length q17c1, .int .i64 r14, .bool r15] 25 (0, 0)) from by have := blk_below (blk_new _ _) gb; simpa using this)
 clear HB q8X0 q8X1 q11X0 q17X0 q17X1 K4
 have HB := N_HB
 have q8X0 := N_q8X0
 have q8X1 := N_q8X1
 have q11X0 := N_q11X0
 have q17X0 := N_q17X0
 have q17X1 := N_q17X1
 have K4 := N_K4
 clear N_HB N_q8X0 N_q8X1 N_q11X0 N_q17X0 N_q17X1 N_K4
 clear gb
 go_wp2_with fail
 refine (laws_toByteS.calls k_E10 _ _ l3 r9 _ (Kd.C_below HR3.out (below_alloc HB.out _)) HC3.out H_E10.out).mono ?_
 rintro e w6 ⟨q19u0, rfl, q19g0, gb⟩
 have q19X0 := Aside0.mk (R_iv q19g0 w.heap.size (w5.heap.size + 1) (by have := HB.out.size; first | (simp; done) | (simp; omega) | omega) (by simp))
 clear q19g0
 obtain ⟨q19A0, q19c0, rfl⟩ := Kd.R_slice q19X0.out
 have hz6 : w5.heap.size + 1 ≤ w6.heap.size := by have := gb.size; first | omega | (simp at this; omega)
 have N_HB := Aside0.mk (below_step (below_alloc HB.out _) gb)
 have N_q8X0 := Aside0.mk (Kd.R_below (Kd.R_alloc q8X0.out _) gb)
 have N_q8X1 := Aside0.mk (Kd.S_below (Kd.S_alloc q8X1.out _) gb)
 have N_q11X0 := Aside0.mk (Kd.R_below (Kd.R_alloc q11X0.out _) gb)
 have N_q17X0 := Aside0.mk (Kd.R_below (Kd.R_alloc q17X0.out _) gb)
 have N_q17X1 := Aside0.mk (Kd.S_below (Kd.S_alloc q17X1.out _) gb)
 have N_q18X0 := Aside0.mk (Kd.R_below (Kd.R_alloc q18X0.out _) gb)
 have N_q18X1 := Aside0.mk (Kd.S_below (Kd.S_alloc q18X1.out _) gb)
 have N_K4 := Aside0.mk (blk_below (blk_alloc K4.out _) gb)
 have N_K10 := Aside0.mk (blk_below (blk_alloc K10.out _) gb)
 have K11 := Aside0.mk (show w6.heap[w5.heap.size]? = some (.cells #[.slice q18A0 r3.length q18c0, .slice q18A1 r4.length q18c1, .int .i64 r5, .bool r6] 25 (0, 0)) from by have := blk_below (blk_new _ _) gb; simpa using this)
 clear HB q8X0 q8X1 q11X0 q17X0 q17X1 q18X0 q18X1 K4 K10
 have HB := N_HB
 have q8X0 := N_q8X0
 have q8X1 := N_q8X1
 have q11X0 := N_q11X0
 have q17X0 := N_q17X0
 have q17X1 := N_q17X1
 have q18X0 := N_q18X0
 have q18X1 := N_q18X1
 have K4 := N_K4
 have K10 := N_K10
 clear N_HB N_q8X0 N_q8X1 N_q11X0 N_q17X0 N_q17X1 N_q18X0 N_q18X1 N_K4 N_K10
 clear gb
 have y11 : w5.heap.size < w6.heap.size := by omega
 have z11_0 : w6.cell? ⟨w5.heap.size, 0, none⟩ = some (.slice q18A0 r3.length q18c0) := (blk_cell K11.out 0).trans rfl
 have z11_1 : w6.cell? ⟨w5.heap.size, 1, none⟩ = some (.slice q18A1 r4.length q18c1) := (blk_cell K11.out 1).trans rfl
 have z11_2 : w6.cell? ⟨w5.heap.size, 2, none⟩ = some (.int .i64 r5) := (blk_cell K11.out 2).trans rfl
 have z11_3 : w6.cell? ⟨w5.heap.size, 3, none⟩ = some (.bool r6) := (blk_cell K11.out 3).trans rfl
 go_wp2_with fail
 clear y11 z11_0 z11_1 z11_2 z11_3
 refine (impl_WriteRec.calls k_E20 _ _ r3 _ _ r4 r5 r6 a1 a2 _ _ r9 r12 r13 r14 r15 _ (Kd.R_reads' q18X0.out).2.2 (Kd.R_reads' q18X0.out).2.1 (Kd.S_reads' q18X1.out).2.2 (Kd.S_reads' q18X1.out).2.1 (Kd.R_reads' q19X0.out).2.2 (Kd.R_reads' q19X0.out).2.1 H_E20.out).mono ?_
 rintro e w7 ⟨q21u0, q21u1, rfl, q21g0, q21g1, gb⟩
 have q21X0 := Aside0.mk (R_iv q21g0 w.heap.size (w6.heap.size) (by have := HB.out.size; first | (simp; done) | (simp; omega) | omega) (by simp))
 clear q21g0
 obtain ⟨q21A0, q21c0, rfl⟩ := Kd.R_slice q21X0.out
 have q21X1 := Aside0.mk (S_iv q21g1 w.heap.size (w6.heap.size) (by have := HB.out.size; first | (simp; done) | (simp; omega) | omega) (by simp))
 clear q21g1
 obtain ⟨q21A1, q21c1, rfl⟩ := Kd.S_slice q21X1.out
 have hz7 : w6.heap.size + 0 ≤ w7.heap.size := by have := gb.size; first | omega | (simp at this; omega)
 have N_HB := Aside0.mk (below_step HB.out gb)
 have N_q8X0 := Aside0.mk (Kd.R_below q8X0.out gb)
 have N_q8X1 := Aside0.mk (Kd.S_below q8X1.out gb)
 have N_q11X0 := Aside0.mk (Kd.R_below q11X0.out gb)
 have N_q17X0 := Aside0.mk (Kd.R_below q17X0.out gb)
 have N_q17X1 := Aside0.mk (Kd.S_below q17X1.out gb)
 have N_q18X0 := Aside0.mk (Kd.R_below q18X0.out gb)
 have N_q18X1 := Aside0.mk (Kd.S_below q18X1.out gb)
 have N_q19X0 := Aside0.mk (Kd.R_below q19X0.out gb)
 have N_K4 := Aside0.mk (blk_below K4.out gb)
 have N_K10 := Aside0.mk (blk_below K10.out gb)
 have N_K11 := Aside0.mk (blk_below K11.out gb)
 clear HB q8X0 q8X1 q11X0 q17X0 q17X1 q18X0 q18X1 q19X0 K4 K10 K11
 have HB := N_HB
 have q8X0 := N_q8X0
 have q8X1 := N_q8X1
 have q11X0 := N_q11X0
 have q17X0 := N_q17X0
 have q17X1 := N_q17X1
 have q18X0 := N_q18X0
 have q18X1 := N_q18X1
 have q19X0 := N_q19X0
 have K4 := N_K4
 have K10 := N_K10
 have K11 := N_K11
 clear N_HB N_q8X0 N_q8X1 N_q11X0 N_q17X0 N_q17X1 N_q18X0 N_q18X1 N_q19X0 N_K4 N_K10 N_K11
 clear gb
 have y10 : w4.heap.size < w7.heap.size := by omega
 have z10_0 : w7.cell? ⟨w4.heap.size, 0, none⟩ = some (.slice q17A0 r12.length q17c0) := (blk_cell K10.out 0).trans rfl
 have z10_1 : w7.cell? ⟨w4.heap.size, 1, none⟩ = some (.slice q17A1 r13.length q17c1) := (blk_cell K10.out 1).trans rfl
 have z10_2 : w7.cell? ⟨w4.heap.size, 2, none⟩ = some (.int .i64 r14) := (blk_cell K10.out 2).trans rfl
 have z10_3 : w7.cell? ⟨w4.heap.size, 3, none⟩ = some (.bool r15) := (blk_cell K10.out 3).trans rfl
 go_wp2_with fail
 clear y10 z10_0 z10_1 z10_2 z10_3
 refine (laws_eqDisk.calls k_E22 _ _ r12 _ _ r13 r14 r15 _ _ r12 _ _ r13 r14 r15 true _ (Kd.C_alloc (Kd.R_reads' q21X0.out).2.2 _) (Kd.R_reads' q21X0.out).2.1 (Kd.C_alloc (Kd.S_reads' q21X1.out).2.2 _) (Kd.S_reads' q21X1.out).2.1 (Kd.C_alloc (Kd.R_reads' q17X0.out).2.2 _) (Kd.R_reads' q17X0.out).2.1 (Kd.C_alloc (Kd.S_reads' q17X1.out).2.2 _) (Kd.S_reads' q17X1.out).2.1 H_E22.out).mono ?_
 rintro e w8 ⟨rfl, gb⟩
 have hz8 : w7.heap.size + 1 ≤ w8.heap.size := by have := gb.size; first | omega | (simp at this; omega)
 have N_HB := Aside0.mk (below_step (below_alloc HB.out _) gb)
 have N_q8X0 := Aside0.mk (Kd.R_below (Kd.R_alloc q8X0.out _) gb)
 have N_q8X1 := Aside0.mk (Kd.S_below (Kd.S_alloc q8X1.out _) gb)
 have N_q11X0 := Aside0.mk (Kd.R_below (Kd.R_alloc q11X0.out _) gb)
 have N_q17X0 := Aside0.mk (Kd.R_below (Kd.R_alloc q17X0.out _) gb)
 have N_q17X1 := Aside0.mk (Kd.S_below (Kd.S_alloc q17X1.out _) gb)
 have N_q18X0 := Aside0.mk (Kd.R_below (Kd.R_alloc q18X0.out _) gb)
 have N_q18X1 := Aside0.mk (Kd.S_below (Kd.S_alloc q18X1.out _) gb)
 have N_q19X0 := Aside0.mk (Kd.R_below (Kd.R_alloc q19X0.out _) gb)
 have N_q21X0 := Aside0.mk (Kd.R_below (Kd.R_alloc q21X0.out _) gb)
 have N_q21X1 := Aside0.mk (Kd.S_below (Kd.S_alloc q21X1.out _) gb)
 have N_K4 := Aside0.mk (blk_below (blk_alloc K4.out _) gb)
 have N_K10 := Aside0.mk (blk_below (blk_alloc K10.out _) gb)
 have N_K11 := Aside0.mk (blk_below (blk_alloc K11.out _) gb)
 have K13 := Aside0.mk (show w8.heap[w7.heap.size]? = some (.cells #[.slice q21A0 r12.length q21c0, .slice q21A1 r13.length q21c1, .int .i64 r14, .bool r15] 25 (0, 0)) from by have := blk_below (blk_new _ _) gb; simpa using this)
 clear HB q8X0 q8X1 q11X0 q17X0 q17X1 q18X0 q18X1 q19X0 q21X0 q21X1 K4 K10 K11
 have HB := N_HB
 have q8X0 := N_q8X0
 have q8X1 := N_q8X1
 have q11X0 := N_q11X0
 have q17X0 := N_q17X0
 have q17X1 := N_q17X1
 have q18X0 := N_q18X0
 have q18X1 := N_q18X1
 have q19X0 := N_q19X0
 have q21X0 := N_q21X0
 have q21X1 := N_q21X1
 have K4 := N_K4
 have K10 := N_K10
 have K11 := N_K11
 clear N_HB N_q8X0 N_q8X1 N_q11X0 N_q17X0 N_q17X1 N_q18X0 N_q18X1 N_q19X0 N_q21X0 N_q21X1 N_K4 N_K10 N_K11
 clear gb
 have y11 : w5.heap.size < w8.heap.size := by omega
 have z11_0 : w8.cell? ⟨w5.heap.size, 0, none⟩ = some (.slice q18A0 r3.length q18c0) := (blk_cell K11.out 0).trans rfl
 have z11_1 : w8.cell? ⟨w5.heap.size, 1, none⟩ = some (.slice q18A1 r4.length q18c1) := (blk_cell K11.out 1).trans rfl
 have z11_2 : w8.cell? ⟨w5.heap.size, 2, none⟩ = some (.int .i64 r5) := (blk_cell K11.out 2).trans rfl
 have z11_3 : w8.cell? ⟨w5.heap.size, 3, none⟩ = some (.bool r6) := (blk_cell K11.out 3).trans rfl
 have y4 : w.heap.size < w8.heap.size := by omega
 have z4_0 : w8.cell? ⟨w.heap.size, 0, none⟩ = some (.slice A0_0 l0_0.length c0_0) := (blk_cell K4.out 0).trans rfl
 have z4_1 : w8.cell? ⟨w.heap.size, 1, none⟩ = some (.slice A0_1 l0_1.length c0_1) := (blk_cell K4.out 1).trans rfl
 have z4_2 : w8.cell? ⟨w.heap.size, 2, none⟩ = some (.int .i64 a0_2) := (blk_cell K4.out 2).trans rfl
 have z4_3 : w8.cell? ⟨w.heap.size, 3, none⟩ = some (.bool a0_3) := (blk_cell K4.out 3).trans rfl
 go_wp2_with fail
 go_region_held3 (fun w' => w'.cell? ⟨w5.heap.size, 0, none⟩ = some (.slice q18A0 r3.length q18c0) ∧ w'.cell? ⟨w5.heap.size, 1, none⟩ = some (.slice q18A1 r4.length q18c1) ∧ w'.cell? ⟨w5.heap.size, 2, none⟩ = some (.int .i64 r5) ∧ w'.cell? ⟨w5.heap.size, 3, none⟩ = some (.bool r6) ∧ w'.cell? ⟨w.heap.size, 0, none⟩ = some (.slice A0_0 l0_0.length c0_0) ∧ w'.cell? ⟨w.heap.size, 1, none⟩ = some (.slice A0_1 l0_1.length c0_1) ∧ w'.cell? ⟨w.heap.size, 2, none⟩ = some (.int .i64 a0_2) ∧ w'.cell? ⟨w.heap.size, 3, none⟩ = some (.bool a0_3)) (go_keep) (first | (go_at_call 21; (refine (laws_toDisk.calls k_E7 _ _ l0_0 _ _ l0_1 a0_2 a0_3 r3 r4 r5 r6 _ (Kd.C_below HR0_0.out (below_drew HB.out)) HC0_0.out (Kd.C_below HR0_1.out (below_drew HB.out)) HC0_1.out H_E7.out).mono ?_); (rintro e w9 ⟨q23u0, q23u1, rfl, q23g0, q23g1, gb⟩); (have q23X0 := Aside0.mk (R_iv q23g0 w.heap.size (w8.heap.size) (by have := HB.out.size; first | (simp; done) | (simp; omega) | omega) (by simp))); (clear q23g0); (obtain ⟨q23A0, q23c0, rfl⟩ := Kd.R_slice q23X0.out); (have q23X1 := Aside0.mk (S_iv q23g1 w.heap.size (w8.heap.size) (by have := HB.out.size; first | (simp; done) | (simp; omega) | omega) (by simp))); (clear q23g1); (obtain ⟨q23A1, q23c1, rfl⟩ := Kd.S_slice q23X1.out); (have hz9 : w8.heap.size + 0 ≤ w9.heap.size := by have := gb.size; first | omega | (simp at this; omega)); (have N_HB := Aside0.mk (below_step (below_drew HB.out) gb)); (have N_q8X0 := Aside0.mk (Kd.R_below (Kd.R_drew q8X0.out) gb)); (have N_q8X1 := Aside0.mk (Kd.S_below (Kd.S_drew q8X1.out) gb)); (have N_q11X0 := Aside0.mk (Kd.R_below (Kd.R_drew q11X0.out) gb)); (have N_q17X0 := Aside0.mk (Kd.R_below (Kd.R_drew q17X0.out) gb)); (have N_q17X1 := Aside0.mk (Kd.S_below (Kd.S_drew q17X1.out) gb)); (have N_q18X0 := Aside0.mk (Kd.R_below (Kd.R_drew q18X0.out) gb)); (have N_q18X1 := Aside0.mk (Kd.S_below (Kd.S_drew q18X1.out) gb)); (have N_q19X0 := Aside0.mk (Kd.R_below (Kd.R_drew q19X0.out) gb)); (have N_q21X0 := Aside0.mk (Kd.R_below (Kd.R_drew q21X0.out) gb)); (have N_q21X1 := Aside0.mk (Kd.S_below (Kd.S_drew q21X1.out) gb)); (have N_K4 := Aside0.mk (blk_below (blk_drew K4.out) gb)); (have N_K10 := Aside0.mk (blk_below (blk_drew K10.out) gb)); (have N_K11 := Aside0.mk (blk_below (blk_drew K11.out) gb)); (have N_K13 := Aside0.mk (blk_below (blk_drew K13.out) gb)); (clear HB q8X0 q8X1 q11X0 q17X0 q17X1 q18X0 q18X1 q19X0 q21X0 q21X1 K4 K10 K11 K13); (have HB := N_HB); (have q8X0 := N_q8X0); (have q8X1 := N_q8X1); (have q11X0 := N_q11X0); (have q17X0 := N_q17X0); (have q17X1 := N_q17X1); (have q18X0 := N_q18X0); (have q18X1 := N_q18X1); (have q19X0 := N_q19X0); (have q21X0 := N_q21X0); (have q21X1 := N_q21X1); (have K4 := N_K4); (have K10 := N_K10); (have K11 := N_K11); (have K13 := N_K13); (clear N_HB N_q8X0 N_q8X1 N_q11X0 N_q17X0 N_q17X1 N_q18X0 N_q18X1 N_q19X0 N_q21X0 N_q21X1 N_K4 N_K10 N_K11 N_K13); (clear gb); (clear y11 z11_0 z11_1 z11_2 z11_3 y4 z4_0 z4_1 z4_2 z4_3); (have y11 : w5.heap.size < w9.heap.size := by omega); (have z11_0 : w9.cell? ⟨w5.heap.size, 0, none⟩ = some (.slice q18A0 r3.length q18c0) := (blk_cell K11.out 0).trans rfl); (have z11_1 : w9.cell? ⟨w5.heap.size, 1, none⟩ = some (.slice q18A1 r4.length q18c1) := (blk_cell K11.out 1).trans rfl); (have z11_2 : w9.cell? ⟨w5.heap.size, 2, none⟩ = some (.int .i64 r5) := (blk_cell K11.out 2).trans rfl); (have z11_3 : w9.cell? ⟨w5.heap.size, 3, none⟩ = some (.bool r6) := (blk_cell K11.out 3).trans rfl); (have y4 : w.heap.size < w9.heap.size := by omega); (have z4_0 : w9.cell? ⟨w.heap.size, 0, none⟩ = some (.slice A0_0 l0_0.length c0_0) := (blk_cell K4.out 0).trans rfl); (have z4_1 : w9.cell? ⟨w.heap.size, 1, none⟩ = some (.slice A0_1 l0_1.length c0_1) := (blk_cell K4.out 1).trans rfl); (have z4_2 : w9.cell? ⟨w.heap.size, 2, none⟩ = some (.int .i64 a0_2) := (blk_cell K4.out 2).trans rfl); (have z4_3 : w9.cell? ⟨w.heap.size, 3, none⟩ = some (.bool a0_3) := (blk_cell K4.out 3).trans rfl)) | (go_at_call 24; (refine (laws_eqDisk.calls k_E24 _ _ r3 _ _ r4 r5 r6 _ _ r3 _ _ r4 r5 r6 true _ (Kd.R_reads' q18X0.out).2.2 (Kd.R_reads' q18X0.out).2.1 (Kd.S_reads' q18X1.out).2.2 (Kd.S_reads' q18X1.out).2.1 (Kd.R_reads' q23X0.out).2.2 (Kd.R_reads' q23X0.out).2.1 (Kd.S_reads' q23X1.out).2.2 (Kd.S_reads' q23X1.out).2.1 H_E24.out).mono ?_); (rintro e w10 ⟨rfl, gb⟩); (have hz10 : w9.heap.size + 0 ≤ w10.heap.size := by have := gb.size; first | omega | (simp at this; omega)); (have N_HB := Aside0.mk (below_step HB.out gb)); (have N_q8X0 := Aside0.mk (Kd.R_below q8X0.out gb)); (have N_q8X1 := Aside0.mk (Kd.S_below q8X1.out gb)); (have N_q11X0 := Aside0.mk (Kd.R_below q11X0.out gb)); (have N_q17X0 := Aside0.mk (Kd.R_below q17X0.out gb)); (have N_q17X1 := Aside0.mk (Kd.S_below q17X1.out gb)); (have N_q18X0 := Aside0.mk (Kd.R_below q18X0.out gb)); (have N_q18X1 := Aside0.mk (Kd.S_below q18X1.out gb)); (have N_q19X0 := Aside0.mk (Kd.R_below q19X0.out gb)); (have N_q21X0 := Aside0.mk (Kd.R_below q21X0.out gb)); (have N_q21X1 := Aside0.mk (Kd.S_below q21X1.out gb)); (have N_q23X0 := Aside0.mk (Kd.R_below q23X0.out gb)); (have N_q23X1 := Aside0.mk (Kd.S_below q23X1.out gb)); (have N_K4 := Aside0.mk (blk_below K4.out gb)); (have N_K10 := Aside0.mk (blk_below K10.out gb)); (have N_K11 := Aside0.mk (blk_below K11.out gb)); (have N_K13 := Aside0.mk (blk_below K13.out gb)); (clear HB q8X0 q8X1 q11X0 q17X0 q17X1 q18X0 q18X1 q19X0 q21X0 q21X1 q23X0 q23X1 K4 K10 K11 K13); (have HB := N_HB); (have q8X0 := N_q8X0); (have q8X1 := N_q8X1); (have q11X0 := N_q11X0); (have q17X0 := N_q17X0); (have q17X1 := N_q17X1); (have q18X0 := N_q18X0); (have q18X1 := N_q18X1); (have q19X0 := N_q19X0); (have q21X0 := N_q21X0); (have q21X1 := N_q21X1); (have q23X0 := N_q23X0); (have q23X1 := N_q23X1); (have K4 := N_K4); (have K10 := N_K10); (have K11 := N_K11); (have K13 := N_K13); (clear N_HB N_q8X0 N_q8X1 N_q11X0 N_q17X0 N_q17X1 N_q18X0 N_q18X1 N_q19X0 N_q21X0 N_q21X1 N_q23X0 N_q23X1 N_K4 N_K10 N_K11 N_K13); (clear gb); (clear y11 z11_0 z11_1 z11_2 z11_3 y4 z4_0 z4_1 z4_2 z4_3); (have y11 : w5.heap.size < w10.heap.size := by omega); (have z11_0 : w10.cell? ⟨w5.heap.size, 0, none⟩ = some (.slice q18A0 r3.length q18c0) := (blk_cell K11.out 0).trans rfl); (have z11_1 : w10.cell? ⟨w5.heap.size, 1, none⟩ = some (.slice q18A1 r4.length q18c1) := (blk_cell K11.out 1).trans rfl); (have z11_2 : w10.cell? ⟨w5.heap.size, 2, none⟩ = some (.int .i64 r5) := (blk_cell K11.out 2).trans rfl); (have z11_3 : w10.cell? ⟨w5.heap.size, 3, none⟩ = some (.bool r6) := (blk_cell K11.out 3).trans rfl); (have y4 : w.heap.size < w10.heap.size := by omega); (have z4_0 : w10.cell? ⟨w.heap.size, 0, none⟩ = some (.slice A0_0 l0_0.length c0_0) := (blk_cell K4.out 0).trans rfl); (have z4_1 : w10.cell? ⟨w.heap.size, 1, none⟩ = some (.slice A0_1 l0_1.length c0_1) := (blk_cell K4.out 1).trans rfl); (have z4_2 : w10.cell? ⟨w.heap.size, 2, none⟩ = some (.int .i64 a0_2) := (blk_cell K4.out 2).trans rfl); (have z4_3 : w10.cell? ⟨w.heap.size, 3, none⟩ = some (.bool a0_3) := (blk_cell K4.out 3).trans rfl)))
 clear y11 z11_0 z11_1 z11_2 z11_3 y4 z4_0 z4_1 z4_2 z4_3
 go_wp2_with fail
 refine (laws_toByteS.calls k_E10 _ _ l3 r9 _ (Kd.C_below HR3.out HB.out) HC3.out H_E10.out).mono ?_
 rintro e w11 ⟨q25u0, rfl, q25g0, gb⟩
 have q25X0 := Aside0.mk (R_iv q25g0 w.heap.size (w10.heap.size) (by have := HB.out.size; first | (simp; done) | (simp; omega) | omega) (by simp))
 clear q25g0
 obtain ⟨q25A0, q25c0, rfl⟩ := Kd.R_slice q25X0.out
 have hz11 : w10.heap.size + 0 ≤ w11.heap.size := by have := gb.size; first | omega | (simp at this; omega)
 have N_HB := Aside0.mk (below_step HB.out gb)
 have N_q8X0 := Aside0.mk (Kd.R_below q8X0.out gb)
 have N_q8X1 := Aside0.mk (Kd.S_below q8X1.out gb)
 have N_q11X0 := Aside0.mk (Kd.R_below q11X0.out gb)
 have N_q17X0 := Aside0.mk (Kd.R_below q17X0.out gb)
 have N_q17X1 := Aside0.mk (Kd.S_below q17X1.out gb)
 have N_q18X0 := Aside0.mk (Kd.R_below q18X0.out gb)
 have N_q18X1 := Aside0.mk (Kd.S_below q18X1.out gb)
 have N_q19X0 := Aside0.mk (Kd.R_below q19X0.out gb)
 have N_q21X0 := Aside0.mk (Kd.R_below q21X0.out gb)
 have N_q21X1 := Aside0.mk (Kd.S_below q21X1.out gb)
 have N_q23X0 := Aside0.mk (Kd.R_below q23X0.out gb)
 have N_q23X1 := Aside0.mk (Kd.S_below q23X1.out gb)
 have N_K4 := Aside0.mk (blk_below K4.out gb)
 have N_K10 := Aside0.mk (blk_below K10.out gb)
 have N_K11 := Aside0.mk (blk_below K11.out gb)
 have N_K13 := Aside0.mk (blk_below K13.out gb)
 clear HB q8X0 q8X1 q11X0 q17X0 q17X1 q18X0 q18X1 q19X0 q21X0 q21X1 q23X0 q23X1 K4 K10 K11 K13
 have HB := N_HB
 have q8X0 := N_q8X0
 have q8X1 := N_q8X1
 have q11X0 := N_q11X0
 have q17X0 := N_q17X0
 have q17X1 := N_q17X1
 have q18X0 := N_q18X0
 have q18X1 := N_q18X1
 have q19X0 := N_q19X0
 have q21X0 := N_q21X0
 have q21X1 := N_q21X1
 have q23X0 := N_q23X0
 have q23X1 := N_q23X1
 have K4 := N_K4
 have K10 := N_K10
 have K11 := N_K11
 have K13 := N_K13
 clear N_HB N_q8X0 N_q8X1 N_q11X0 N_q17X0 N_q17X1 N_q18X0 N_q18X1 N_q19X0 N_q21X0 N_q21X1 N_q23X0 N_q23X1 N_K4 N_K10 N_K11 N_K13
 clear gb
 go_wp2_with fail
 refine (laws_eqByteS.calls k_E26 _ _ r9 _ _ r9 true _ (Kd.R_reads' q19X0.out).2.2 (Kd.R_reads' q19X0.out).2.1 (Kd.R_reads' q25X0.out).2.2 (Kd.R_reads' q25X0.out).2.1 H_E26.out).mono ?_
 rintro e w12 ⟨rfl, gb⟩
 replace gb := drawn_below gb
 have hz12 : w11.heap.size + 0 ≤ w12.heap.size := by have := gb.size; first | omega | (simp at this; omega)
 have N_HB := Aside0.mk (below_step HB.out gb)
 have N_q8X0 := Aside0.mk (Kd.R_below q8X0.out gb)
 have N_q8X1 := Aside0.mk (Kd.S_below q8X1.out gb)
 have N_q11X0 := Aside0.mk (Kd.R_below q11X0.out gb)
 have N_q17X0 := Aside0.mk (Kd.R_below q17X0.out gb)
 have N_q17X1 := Aside0.mk (Kd.S_below q17X1.out gb)
 have N_q18X0 := Aside0.mk (Kd.R_below q18X0.out gb)
 have N_q18X1 := Aside0.mk (Kd.S_below q18X1.out gb)
 have N_q19X0 := Aside0.mk (Kd.R_below q19X0.out gb)
 have N_q21X0 := Aside0.mk (Kd.R_below q21X0.out gb)
 have N_q21X1 := Aside0.mk (Kd.S_below q21X1.out gb)
 have N_q23X0 := Aside0.mk (Kd.R_below q23X0.out gb)
 have N_q23X1 := Aside0.mk (Kd.S_below q23X1.out gb)
 have N_q25X0 := Aside0.mk (Kd.R_below q25X0.out gb)
 have N_K4 := Aside0.mk (blk_below K4.out gb)
 have N_K10 := Aside0.mk (blk_below K10.out gb)
 have N_K11 := Aside0.mk (blk_below K11.out gb)
 have N_K13 := Aside0.mk (blk_below K13.out gb)
 clear HB q8X0 q8X1 q11X0 q17X0 q17X1 q18X0 q18X1 q19X0 q21X0 q21X1 q23X0 q23X1 q25X0 K4 K10 K11 K13
 have HB := N_HB
 have q8X0 := N_q8X0
 have q8X1 := N_q8X1
 have q11X0 := N_q11X0
 have q17X0 := N_q17X0
 have q17X1 := N_q17X1
 have q18X0 := N_q18X0
 have q18X1 := N_q18X1
 have q19X0 := N_q19X0
 have q21X0 := N_q21X0
 have q21X1 := N_q21X1
 have q23X0 := N_q23X0
 have q23X1 := N_q23X1
 have q25X0 := N_q25X0
 have K4 := N_K4
 have K10 := N_K10
 have K11 := N_K11
 have K13 := N_K13
 clear N_HB N_q8X0 N_q8X1 N_q11X0 N_q17X0 N_q17X1 N_q18X0 N_q18X1 N_q19X0 N_q21X0 N_q21X1 N_q23X0 N_q23X1 N_q25X0 N_K4 N_K10 N_K11 N_K13
 clear gb
 have y11 : w5.heap.size < w12.heap.size := by omega
 have z11_0 : w12.cell? ⟨w5.heap.size, 0, none⟩ = some (.slice q18A0 r3.length q18c0) := (blk_cell K11.out 0).trans rfl
 have z11_1 : w12.cell? ⟨w5.heap.size, 1, none⟩ = some (.slice q18A1 r4.length q18c1) := (blk_cell K11.out 1).trans rfl
 have z11_2 : w12.cell? ⟨w5.heap.size, 2, none⟩ = some (.int .i64 r5) := (blk_cell K11.out 2).trans rfl
 have z11_3 : w12.cell? ⟨w5.heap.size, 3, none⟩ = some (.bool r6) := (blk_cell K11.out 3).trans rfl
 go_wp2_with fail
 clear y11 z11_0 z11_1 z11_2 z11_3
 refine (laws_markDisk.own k_E29 k_E32 (w4.heap.size + 1) (w5.heap.size) _ _ r5 r6 r3 r4 1 m27 m30 l28 l31 w _ (by have := HB.out.size; omega) HB.out q18X0.out q18X1.out H_E29.out H_E32.out).mono ?_
 rintro e w13 ⟨rfl, g_0, g_1, gB, hk⟩
 have hz13 : w12.heap.size + 0 ≤ w13.heap.size := by have := hk.1; first | omega | (simp at this; omega)
 have N_q8X0 := Aside0.mk (Kd.R_kept q8X0.out hk (fun k hk1 hk2 => by have := hk1.1; omega))
 have N_q8X1 := Aside0.mk (Kd.S_kept q8X1.out hk (fun k hk1 hk2 => by have := hk1.1; omega))
 have N_q11X0 := Aside0.mk (Kd.R_kept q11X0.out hk (fun k hk1 hk2 => by have := hk1.1; omega))
 have N_q17X0 := Aside0.mk (Kd.R_kept q17X0.out hk (fun k hk1 hk2 => by have := hk1.1; omega))
 have N_q17X1 := Aside0.mk (Kd.S_kept q17X1.out hk (fun k hk1 hk2 => by have := hk1.1; omega))
 have N_q19X0 := Aside0.mk (Kd.R_kept q19X0.out hk (fun k hk1 hk2 => by have := hk1.1; omega))
 have N_q21X0 := Aside0.mk (Kd.R_kept q21X0.out hk (fun k hk1 hk2 => by have := hk1.1; omega))
 have N_q21X1 := Aside0.mk (Kd.S_kept q21X1.out hk (fun k hk1 hk2 => by have := hk1.1; omega))
 have N_q23X0 := Aside0.mk (Kd.R_kept q23X0.out hk (fun k hk1 hk2 => by have := hk1.1; omega))
 have N_q23X1 := Aside0.mk (Kd.S_kept q23X1.out hk (fun k hk1 hk2 => by have := hk1.1; omega))
 have N_q25X0 := Aside0.mk (Kd.R_kept q25X0.out hk (fun k hk1 hk2 => by have := hk1.1; omega))
 have N_K4 := Aside0.mk (blk_kept K4.out hk (fun hk2 => by omega))
 have N_K10 := Aside0.mk (blk_kept K10.out hk (fun hk2 => by omega))
 have N_K11 := Aside0.mk (blk_kept K11.out hk (fun hk2 => by omega))
 have N_K13 := Aside0.mk (blk_kept K13.out hk (fun hk2 => by omega))
 clear q8X0 q8X1 q11X0 q17X0 q17X1 q19X0 q21X0 q21X1 q23X0 q23X1 q25X0 K4 K10 K11 K13
 have q8X0 := N_q8X0
 have q8X1 := N_q8X1
 have q11X0 := N_q11X0
 have q17X0 := N_q17X0
 have q17X1 := N_q17X1
 have q19X0 := N_q19X0
 have q21X0 := N_q21X0
 have q21X1 := N_q21X1
 have q23X0 := N_q23X0
 have q23X1 := N_q23X1
 have q25X0 := N_q25X0
 have K4 := N_K4
 have K10 := N_K10
 have K11 := N_K11
 have K13 := N_K13
 clear N_q8X0 N_q8X1 N_q11X0 N_q17X0 N_q17X1 N_q19X0 N_q21X0 N_q21X1 N_q23X0 N_q23X1 N_q25X0 N_K4 N_K10 N_K11 N_K13
 clear HB hk
 have HB := Aside0.mk gB
 clear gB
 clear q18X0
 have q18X0 := Aside0.mk g_0
 clear g_0
 clear q18X1
 have q18X1 := Aside0.mk g_1
 clear g_1
 have ev_ : (.slice q18A0 r3.length q18c0 : Value) = .slice q18A0 l28.length q18c0 := by rw [(Kd.R_reads' q18X0.out).1]
 try rw [ev_] at q18X0
 try rw [ev_] at q18X1
 try rw [ev_] at K11
 try rw [ev_]
 clear ev_
 have ev_ : (.slice q18A1 r4.length q18c1 : Value) = .slice q18A1 l31.length q18c1 := by rw [(Kd.S_reads' q18X1.out).1]
 try rw [ev_] at q18X0
 try rw [ev_] at q18X1
 try rw [ev_] at K11
 try rw [ev_]
 clear ev_
 clear q18X0 q18X1 K11
 go_wp2_with fail
 refine (laws_markByteS.own k_E35 (w5.heap.size + 1) (w6.heap.size) _ r9 m30 m33 l34 w _ (by have := HB.out.size; omega) HB.out q19X0.out H_E35.out).mono ?_
 rintro e w14 ⟨rfl, g_0, gB, hk⟩
 have hz14 : w13.heap.size + 0 ≤ w14.heap.size := by have := hk.1; first | omega | (simp at this; omega)
 have N_q8X0 := Aside0.mk (Kd.R_kept q8X0.out hk (fun k hk1 hk2 => by have := hk1.1; omega))
 have N_q8X1 := Aside0.mk (Kd.S_kept q8X1.out hk (fun k hk1 hk2 => by have := hk1.1; omega))
 have N_q11X0 := Aside0.mk (Kd.R_kept q11X0.out hk (fun k hk1 hk2 => by have := hk1.1; omega))
 have N_q17X0 := Aside0.mk (Kd.R_kept q17X0.out hk (fun k hk1 hk2 => by have := hk1.1; omega))
 have N_q17X1 := Aside0.mk (Kd.S_kept q17X1.out hk (fun k hk1 hk2 => by have := hk1.1; omega))
 have N_q21X0 := Aside0.mk (Kd.R_kept q21X0.out hk (fun k hk1 hk2 => by have := hk1.1; omega))
 have N_q21X1 := Aside0.mk (Kd.S_kept q21X1.out hk (fun k hk1 hk2 => by have := hk1.1; omega))
 have N_q23X0 := Aside0.mk (Kd.R_kept q23X0.out hk (fun k hk1 hk2 => by have := hk1.1; omega))
 have N_q23X1 := Aside0.mk (Kd.S_kept q23X1.out hk (fun k hk1 hk2 => by have := hk1.1; omega))
 have N_q25X0 := Aside0.mk (Kd.R_kept q25X0.out hk (fun k hk1 hk2 => by have := hk1.1; omega))
 have N_K4 := Aside0.mk (blk_kept K4.out hk (fun hk2 => by omega))
 have N_K10 := Aside0.mk (blk_kept K10.out hk (fun hk2 => by omega))
 have N_K13 := Aside0.mk (blk_kept K13.out hk (fun hk2 => by omega))
 clear q8X0 q8X1 q11X0 q17X0 q17X1 q21X0 q21X1 q23X0 q23X1 q25X0 K4 K10 K13
 have q8X0 := N_q8X0
 have q8X1 := N_q8X1
 have q11X0 := N_q11X0
 have q17X0 := N_q17X0
 have q17X1 := N_q17X1
 have q21X0 := N_q21X0
 have q21X1 := N_q21X1
 have q23X0 := N_q23X0
 have q23X1 := N_q23X1
 have q25X0 := N_q25X0
 have K4 := N_K4
 have K10 := N_K10
 have K13 := N_K13
 clear N_q8X0 N_q8X1 N_q11X0 N_q17X0 N_q17X1 N_q21X0 N_q21X1 N_q23X0 N_q23X1 N_q25X0 N_K4 N_K10 N_K13
 clear HB hk
 have HB := Aside0.mk gB
 clear gB
 clear q19X0
 have q19X0 := Aside0.mk g_0
 clear g_0
 have ev_ : (.slice q19A0 r9.length q19c0 : Value) = .slice q19A0 l34.length q19c0 := by rw [(Kd.R_reads' q19X0.out).1]
 try rw [ev_] at q19X0
 try rw [ev_]
 clear ev_
 clear q19X0
 have y13 : w7.heap.size < w14.heap.size := by omega
 have z13_0 : w14.cell? ⟨w7.heap.size, 0, none⟩ = some (.slice q21A0 r12.length q21c0) := (blk_cell K13.out 0).trans rfl
 have z13_1 : w14.cell? ⟨w7.heap.size, 1, none⟩ = some (.slice q21A1 r13.length q21c1) := (blk_cell K13.out 1).trans rfl
 have z13_2 : w14.cell? ⟨w7.heap.size, 2, none⟩ = some (.int .i64 r14) := (blk_cell K13.out 2).trans rfl
 have z13_3 : w14.cell? ⟨w7.heap.size, 3, none⟩ = some (.bool r15) := (blk_cell K13.out 3).trans rfl
 have y10 : w4.heap.size < w14.heap.size := by omega
 have z10_0 : w14.cell? ⟨w4.heap.size, 0, none⟩ = some (.slice q17A0 r12.length q17c0) := (blk_cell K10.out 0).trans rfl
 have z10_1 : w14.cell? ⟨w4.heap.size, 1, none⟩ = some (.slice q17A1 r13.length q17c1) := (blk_cell K10.out 1).trans rfl
 have z10_2 : w14.cell? ⟨w4.heap.size, 2, none⟩ = some (.int .i64 r14) := (blk_cell K10.out 2).trans rfl
 have z10_3 : w14.cell? ⟨w4.heap.size, 3, none⟩ = some (.bool r15) := (blk_cell K10.out 3).trans rfl
 go_wp2_with fail
 clear y13 z13_0 z13_1 z13_2 z13_3 y10 z10_0 z10_1 z10_2 z10_3
 refine (laws_eqDisk.calls k_E22 _ _ r12 _ _ r13 r14 r15 _ _ r12 _ _ r13 r14 r15 true _ (Kd.R_reads' q21X0.out).2.2 (Kd.R_reads' q21X0.out).2.1 (Kd.S_reads' q21X1.out).2.2 (Kd.S_reads' q21X1.out).2.1 (Kd.R_reads' q17X0.out).2.2 (Kd.R_reads' q17X0.out).2.1 (Kd.S_reads' q17X1.out).2.2 (Kd.S_reads' q17X1.out).2.1 H_E22.out).mono ?_
 rintro e w15 ⟨rfl, gb⟩
 have hz15 : w14.heap.size + 0 ≤ w15.heap.size := by have := gb.size; first | omega | (simp at this; omega)
 have N_HB := Aside0.mk (below_step HB.out gb)
 have N_q8X0 := Aside0.mk (Kd.R_below q8X0.out gb)
 have N_q8X1 := Aside0.mk (Kd.S_below q8X1.out gb)
 have N_q11X0 := Aside0.mk (Kd.R_below q11X0.out gb)
 have N_q17X0 := Aside0.mk (Kd.R_below q17X0.out gb)
 have N_q17X1 := Aside0.mk (Kd.S_below q17X1.out gb)
 have N_q21X0 := Aside0.mk (Kd.R_below q21X0.out gb)
 have N_q21X1 := Aside0.mk (Kd.S_below q21X1.out gb)
 have N_q23X0 := Aside0.mk (Kd.R_below q23X0.out gb)
 have N_q23X1 := Aside0.mk (Kd.S_below q23X1.out gb)
 have N_q25X0 := Aside0.mk (Kd.R_below q25X0.out gb)
 have N_K4 := Aside0.mk (blk_below K4.out gb)
 have N_K10 := Aside0.mk (blk_below K10.out gb)
 have N_K13 := Aside0.mk (blk_below K13.out gb)
 clear HB q8X0 q8X1 q11X0 q17X0 q17X1 q21X0 q21X1 q23X0 q23X1 q25X0 K4 K10 K13
 have HB := N_HB
 have q8X0 := N_q8X0
 have q8X1 := N_q8X1
 have q11X0 := N_q11X0
 have q17X0 := N_q17X0
 have q17X1 := N_q17X1
 have q21X0 := N_q21X0
 have q21X1 := N_q21X1
 have q23X0 := N_q23X0
 have q23X1 := N_q23X1
 have q25X0 := N_q25X0
 have K4 := N_K4
 have K10 := N_K10
 have K13 := N_K13
 clear N_HB N_q8X0 N_q8X1 N_q11X0 N_q17X0 N_q17X1 N_q21X0 N_q21X1 N_q23X0 N_q23X1 N_q25X0 N_K4 N_K10 N_K13
 clear gb
 have y13 : w7.heap.size < w15.heap.size := by omega
 have z13_0 : w15.cell? ⟨w7.heap.size, 0, none⟩ = some (.slice q21A0 r12.length q21c0) := (blk_cell K13.out 0).trans rfl
 have z13_1 : w15.cell? ⟨w7.heap.size, 1, none⟩ = some (.slice q21A1 r13.length q21c1) := (blk_cell K13.out 1).trans rfl
 have z13_2 : w15.cell? ⟨w7.heap.size, 2, none⟩ = some (.int .i64 r14) := (blk_cell K13.out 2).trans rfl
 have z13_3 : w15.cell? ⟨w7.heap.size, 3, none⟩ = some (.bool r15) := (blk_cell K13.out 3).trans rfl
 go_wp2_with fail
 clear y13 z13_0 z13_1 z13_2 z13_3
 refine (laws_markDisk.own k_E38 k_E41 (w6.heap.size) (w7.heap.size) _ _ r14 r15 r12 r13 1 m36 m39 l37 l40 w _ (by have := HB.out.size; omega) HB.out q21X0.out q21X1.out H_E38.out H_E41.out).mono ?_
 rintro e w16 ⟨rfl, g_0, g_1, gB, hk⟩
 have hz16 : w15.heap.size + 0 ≤ w16.heap.size := by have := hk.1; first | omega | (simp at this; omega)
 have N_q8X0 := Aside0.mk (Kd.R_kept q8X0.out hk (fun k hk1 hk2 => by have := hk1.1; omega))
 have N_q8X1 := Aside0.mk (Kd.S_kept q8X1.out hk (fun k hk1 hk2 => by have := hk1.1; omega))
 have N_q11X0 := Aside0.mk (Kd.R_kept q11X0.out hk (fun k hk1 hk2 => by have := hk1.1; omega))
 have N_q17X0 := Aside0.mk (Kd.R_kept q17X0.out hk (fun k hk1 hk2 => by have := hk1.1; omega))
 have N_q17X1 := Aside0.mk (Kd.S_kept q17X1.out hk (fun k hk1 hk2 => by have := hk1.1; omega))
 have N_q23X0 := Aside0.mk (Kd.R_kept q23X0.out hk (fun k hk1 hk2 => by have := hk1.1; omega))
 have N_q23X1 := Aside0.mk (Kd.S_kept q23X1.out hk (fun k hk1 hk2 => by have := hk1.1; omega))
 have N_q25X0 := Aside0.mk (Kd.R_kept q25X0.out hk (fun k hk1 hk2 => by have := hk1.1; omega))
 have N_K4 := Aside0.mk (blk_kept K4.out hk (fun hk2 => by omega))
 have N_K10 := Aside0.mk (blk_kept K10.out hk (fun hk2 => by omega))
 have N_K13 := Aside0.mk (blk_kept K13.out hk (fun hk2 => by omega))
 clear q8X0 q8X1 q11X0 q17X0 q17X1 q23X0 q23X1 q25X0 K4 K10 K13
 have q8X0 := N_q8X0
 have q8X1 := N_q8X1
 have q11X0 := N_q11X0
 have q17X0 := N_q17X0
 have q17X1 := N_q17X1
 have q23X0 := N_q23X0
 have q23X1 := N_q23X1
 have q25X0 := N_q25X0
 have K4 := N_K4
 have K10 := N_K10
 have K13 := N_K13
 clear N_q8X0 N_q8X1 N_q11X0 N_q17X0 N_q17X1 N_q23X0 N_q23X1 N_q25X0 N_K4 N_K10 N_K13
 clear HB hk
 have HB := Aside0.mk gB
 clear gB
 clear q21X0
 have q21X0 := Aside0.mk g_0
 clear g_0
 clear q21X1
 have q21X1 := Aside0.mk g_1
 clear g_1
 have ev_ : (.slice q21A0 r12.length q21c0 : Value) = .slice q21A0 l37.length q21c0 := by rw [(Kd.R_reads' q21X0.out).1]
 try rw [ev_] at q21X0
 try rw [ev_] at q21X1
 try rw [ev_] at K13
 try rw [ev_]
 clear ev_
 have ev_ : (.slice q21A1 r13.length q21c1 : Value) = .slice q21A1 l40.length q21c1 := by rw [(Kd.S_reads' q21X1.out).1]
 try rw [ev_] at q21X0
 try rw [ev_] at q21X1
 try rw [ev_] at K13
 try rw [ev_]
 clear ev_
 have y13 : w7.heap.size < w16.heap.size := by omega
 have z13_0 : w16.cell? ⟨w7.heap.size, 0, none⟩ = some (.slice q21A0 l37.length q21c0) := (blk_cell K13.out 0).trans rfl
 have z13_1 : w16.cell? ⟨w7.heap.size, 1, none⟩ = some (.slice q21A1 l40.length q21c1) := (blk_cell K13.out 1).trans rfl
 have z13_2 : w16.cell? ⟨w7.heap.size, 2, none⟩ = some (.int .i64 r14) := (blk_cell K13.out 2).trans rfl
 have z13_3 : w16.cell? ⟨w7.heap.size, 3, none⟩ = some (.bool r15) := (blk_cell K13.out 3).trans rfl
 go_wp2_with fail
 clear y13 z13_0 z13_1 z13_2 z13_3
 refine (laws_heldDisk.calls k_E42 _ _ l37 _ _ l40 r14 r15 1 m39 _ (Kd.R_reads' q21X0.out).2.2 (Kd.R_reads' q21X0.out).2.1 (Kd.S_reads' q21X1.out).2.2 (Kd.S_reads' q21X1.out).2.1 H_E42.out).mono ?_
 rintro e w17 ⟨rfl, gb⟩
 have hz17 : w16.heap.size + 0 ≤ w17.heap.size := by have := gb.size; first | omega | (simp at this; omega)
 have N_HB := Aside0.mk (below_step HB.out gb)
 have N_q8X0 := Aside0.mk (Kd.R_below q8X0.out gb)
 have N_q8X1 := Aside0.mk (Kd.S_below q8X1.out gb)
 have N_q11X0 := Aside0.mk (Kd.R_below q11X0.out gb)
 have N_q17X0 := Aside0.mk (Kd.R_below q17X0.out gb)
 have N_q17X1 := Aside0.mk (Kd.S_below q17X1.out gb)
 have N_q21X0 := Aside0.mk (Kd.R_below q21X0.out gb)
 have N_q21X1 := Aside0.mk (Kd.S_below q21X1.out gb)
 have N_q23X0 := Aside0.mk (Kd.R_below q23X0.out gb)
 have N_q23X1 := Aside0.mk (Kd.S_below q23X1.out gb)
 have N_q25X0 := Aside0.mk (Kd.R_below q25X0.out gb)
 have N_K4 := Aside0.mk (blk_below K4.out gb)
 have N_K10 := Aside0.mk (blk_below K10.out gb)
 have N_K13 := Aside0.mk (blk_below K13.out gb)
 clear HB q8X0 q8X1 q11X0 q17X0 q17X1 q21X0 q21X1 q23X0 q23X1 q25X0 K4 K10 K13
 have HB := N_HB
 have q8X0 := N_q8X0
 have q8X1 := N_q8X1
 have q11X0 := N_q11X0
 have q17X0 := N_q17X0
 have q17X1 := N_q17X1
 have q21X0 := N_q21X0
 have q21X1 := N_q21X1
 have q23X0 := N_q23X0
 have q23X1 := N_q23X1
 have q25X0 := N_q25X0
 have K4 := N_K4
 have K10 := N_K10
 have K13 := N_K13
 clear N_HB N_q8X0 N_q8X1 N_q11X0 N_q17X0 N_q17X1 N_q21X0 N_q21X1 N_q23X0 N_q23X1 N_q25X0 N_K4 N_K10 N_K13
 clear gb
 have y4 : w.heap.size < w17.heap.size := by omega
 have z4_0 : w17.cell? ⟨w.heap.size, 0, none⟩ = some (.slice A0_0 l0_0.length c0_0) := (blk_cell K4.out 0).trans rfl
 have z4_1 : w17.cell? ⟨w.heap.size, 1, none⟩ = some (.slice A0_1 l0_1.length c0_1) := (blk_cell K4.out 1).trans rfl
 have z4_2 : w17.cell? ⟨w.heap.size, 2, none⟩ = some (.int .i64 a0_2) := (blk_cell K4.out 2).trans rfl
 have z4_3 : w17.cell? ⟨w.heap.size, 3, none⟩ = some (.bool a0_3) := (blk_cell K4.out 3).trans rfl
 go_wp2_with fail
 clear y4 z4_0 z4_1 z4_2 z4_3
 refine (laws_toDisk.calls k_E7 _ _ l0_0 _ _ l0_1 a0_2 a0_3 r3 r4 r5 r6 _ (Kd.C_below HR0_0.out HB.out) HC0_0.out (Kd.C_below HR0_1.out HB.out) HC0_1.out H_E7.out).mono ?_
 rintro e w18 ⟨q43u0, q43u1, rfl, q43g0, q43g1, gb⟩
 have q43X0 := Aside0.mk (R_iv q43g0 w.heap.size (w17.heap.size) (by have := HB.out.size; first | (simp; done) | (simp; omega) | omega) (by simp))
 clear q43g0
 obtain ⟨q43A0, q43c0, rfl⟩ := Kd.R_slice q43X0.out
 have q43X1 := Aside0.mk (S_iv q43g1 w.heap.size (w17.heap.size) (by have := HB.out.size; first | (simp; done) | (simp; omega) | omega) (by simp))
 clear q43g1
 obtain ⟨q43A1, q43c1, rfl⟩ := Kd.S_slice q43X1.out
 have hz18 : w17.heap.size + 0 ≤ w18.heap.size := by have := gb.size; first | omega | (simp at this; omega)
 have N_HB := Aside0.mk (below_step HB.out gb)
 have N_q8X0 := Aside0.mk (Kd.R_below q8X0.out gb)
 have N_q8X1 := Aside0.mk (Kd.S_below q8X1.out gb)
 have N_q11X0 := Aside0.mk (Kd.R_below q11X0.out gb)
 have N_q17X0 := Aside0.mk (Kd.R_below q17X0.out gb)
 have N_q17X1 := Aside0.mk (Kd.S_below q17X1.out gb)
 have N_q21X0 := Aside0.mk (Kd.R_below q21X0.out gb)
 have N_q21X1 := Aside0.mk (Kd.S_below q21X1.out gb)
 have N_q23X0 := Aside0.mk (Kd.R_below q23X0.out gb)
 have N_q23X1 := Aside0.mk (Kd.S_below q23X1.out gb)
 have N_q25X0 := Aside0.mk (Kd.R_below q25X0.out gb)
 have N_K4 := Aside0.mk (blk_below K4.out gb)
 have N_K10 := Aside0.mk (blk_below K10.out gb)
 have N_K13 := Aside0.mk (blk_below K13.out gb)
 clear HB q8X0 q8X1 q11X0 q17X0 q17X1 q21X0 q21X1 q23X0 q23X1 q25X0 K4 K10 K13
 have HB := N_HB
 have q8X0 := N_q8X0
 have q8X1 := N_q8X1
 have q11X0 := N_q11X0
 have q17X0 := N_q17X0
 have q17X1 := N_q17X1
 have q21X0 := N_q21X0
 have q21X1 := N_q21X1
 have q23X0 := N_q23X0
 have q23X1 := N_q23X1
 have q25X0 := N_q25X0
 have K4 := N_K4
 have K10 := N_K10
 have K13 := N_K13
 clear N_HB N_q8X0 N_q8X1 N_q11X0 N_q17X0 N_q17X1 N_q21X0 N_q21X1 N_q23X0 N_q23X1 N_q25X0 N_K4 N_K10 N_K13
 clear gb
 have y4 : w.heap.size < w18.heap.size := by omega
 have z4_0 : w18.cell? ⟨w.heap.size, 0, none⟩ = some (.slice A0_0 l0_0.length c0_0) := (blk_cell K4.out 0).trans rfl
 have z4_1 : w18.cell? ⟨w.heap.size, 1, none⟩ = some (.slice A0_1 l0_1.length c0_1) := (blk_cell K4.out 1).trans rfl
 have z4_2 : w18.cell? ⟨w.heap.size, 2, none⟩ = some (.int .i64 a0_2) := (blk_cell K4.out 2).trans rfl
 have z4_3 : w18.cell? ⟨w.heap.size, 3, none⟩ = some (.bool a0_3) := (blk_cell K4.out 3).trans rfl
 go_wp2_with fail
 clear y4 z4_0 z4_1 z4_2 z4_3
 refine (laws_toByteS.calls k_E10 _ _ l3 r9 _ (Kd.C_below HR3.out HB.out) HC3.out H_E10.out).mono ?_
 rintro e w19 ⟨q44u0, rfl, q44g0, gb⟩
 have q44X0 := Aside0.mk (R_iv q44g0 w.heap.size (w18.heap.size) (by have := HB.out.size; first | (simp; done) | (simp; omega) | omega) (by simp))
 clear q44g0
 obtain ⟨q44A0, q44c0, rfl⟩ := Kd.R_slice q44X0.out
 have hz19 : w18.heap.size + 0 ≤ w19.heap.size := by have := gb.size; first | omega | (simp at this; omega)
 have N_HB := Aside0.mk (below_step HB.out gb)
 have N_q8X0 := Aside0.mk (Kd.R_below q8X0.out gb)
 have N_q8X1 := Aside0.mk (Kd.S_below q8X1.out gb)
 have N_q11X0 := Aside0.mk (Kd.R_below q11X0.out gb)
 have N_q17X0 := Aside0.mk (Kd.R_below q17X0.out gb)
 have N_q17X1 := Aside0.mk (Kd.S_below q17X1.out gb)
 have N_q21X0 := Aside0.mk (Kd.R_below q21X0.out gb)
 have N_q21X1 := Aside0.mk (Kd.S_below q21X1.out gb)
 have N_q23X0 := Aside0.mk (Kd.R_below q23X0.out gb)
 have N_q23X1 := Aside0.mk (Kd.S_below q23X1.out gb)
 have N_q25X0 := Aside0.mk (Kd.R_below q25X0.out gb)
 have N_q43X0 := Aside0.mk (Kd.R_below q43X0.out gb)
 have N_q43X1 := Aside0.mk (Kd.S_below q43X1.out gb)
 have N_K4 := Aside0.mk (blk_below K4.out gb)
 have N_K10 := Aside0.mk (blk_below K10.out gb)
 have N_K13 := Aside0.mk (blk_below K13.out gb)
 clear HB q8X0 q8X1 q11X0 q17X0 q17X1 q21X0 q21X1 q23X0 q23X1 q25X0 q43X0 q43X1 K4 K10 K13
 have HB := N_HB
 have q8X0 := N_q8X0
 have q8X1 := N_q8X1
 have q11X0 := N_q11X0
 have q17X0 := N_q17X0
 have q17X1 := N_q17X1
 have q21X0 := N_q21X0
 have q21X1 := N_q21X1
 have q23X0 := N_q23X0
 have q23X1 := N_q23X1
 have q25X0 := N_q25X0
 have q43X0 := N_q43X0
 have q43X1 := N_q43X1
 have K4 := N_K4
 have K10 := N_K10
 have K13 := N_K13
 clear N_HB N_q8X0 N_q8X1 N_q11X0 N_q17X0 N_q17X1 N_q21X0 N_q21X1 N_q23X0 N_q23X1 N_q25X0 N_q43X0 N_q43X1 N_K4 N_K10 N_K13
 clear gb
 have y4 : w.heap.size < w19.heap.size := by omega
 have z4_0 : w19.cell? ⟨w.heap.size, 0, none⟩ = some (.slice A0_0 l0_0.length c0_0) := (blk_cell K4.out 0).trans rfl
 have z4_1 : w19.cell? ⟨w.heap.size, 1, none⟩ = some (.slice A0_1 l0_1.length c0_1) := (blk_cell K4.out 1).trans rfl
 have z4_2 : w19.cell? ⟨w.heap.size, 2, none⟩ = some (.int .i64 a0_2) := (blk_cell K4.out 2).trans rfl
 have z4_3 : w19.cell? ⟨w.heap.size, 3, none⟩ = some (.bool a0_3) := (blk_cell K4.out 3).trans rfl
 go_wp2_with fail
 clear y4 z4_0 z4_1 z4_2 z4_3
 refine (impl_WriteRec.calls k_E20 _ _ r3 _ _ r4 r5 r6 a1 a2 _ _ r9 r12 r13 r14 r15 _ (Kd.R_reads' q43X0.out).2.2 (Kd.R_reads' q43X0.out).2.1 (Kd.S_reads' q43X1.out).2.2 (Kd.S_reads' q43X1.out).2.1 (Kd.R_reads' q44X0.out).2.2 (Kd.R_reads' q44X0.out).2.1 H_E20.out).mono ?_
 rintro e w20 ⟨q45u0, q45u1, rfl, q45g0, q45g1, gb⟩
 have q45X0 := Aside0.mk (R_iv q45g0 w.heap.size (w19.heap.size) (by have := HB.out.size; first | (simp; done) | (simp; omega) | omega) (by simp))
 clear q45g0
 obtain ⟨q45A0, q45c0, rfl⟩ := Kd.R_slice q45X0.out
 have q45X1 := Aside0.mk (S_iv q45g1 w.heap.size (w19.heap.size) (by have := HB.out.size; first | (simp; done) | (simp; omega) | omega) (by simp))
 clear q45g1
 obtain ⟨q45A1, q45c1, rfl⟩ := Kd.S_slice q45X1.out
 have hz20 : w19.heap.size + 0 ≤ w20.heap.size := by have := gb.size; first | omega | (simp at this; omega)
 have N_HB := Aside0.mk (below_step HB.out gb)
 have N_q8X0 := Aside0.mk (Kd.R_below q8X0.out gb)
 have N_q8X1 := Aside0.mk (Kd.S_below q8X1.out gb)
 have N_q11X0 := Aside0.mk (Kd.R_below q11X0.out gb)
 have N_q17X0 := Aside0.mk (Kd.R_below q17X0.out gb)
 have N_q17X1 := Aside0.mk (Kd.S_below q17X1.out gb)
 have N_q21X0 := Aside0.mk (Kd.R_below q21X0.out gb)
 have N_q21X1 := Aside0.mk (Kd.S_below q21X1.out gb)
 have N_q23X0 := Aside0.mk (Kd.R_below q23X0.out gb)
 have N_q23X1 := Aside0.mk (Kd.S_below q23X1.out gb)
 have N_q25X0 := Aside0.mk (Kd.R_below q25X0.out gb)
 have N_q43X0 := Aside0.mk (Kd.R_below q43X0.out gb)
 have N_q43X1 := Aside0.mk (Kd.S_below q43X1.out gb)
 have N_q44X0 := Aside0.mk (Kd.R_below q44X0.out gb)
 have N_K4 := Aside0.mk (blk_below K4.out gb)
 have N_K10 := Aside0.mk (blk_below K10.out gb)
 have N_K13 := Aside0.mk (blk_below K13.out gb)
 clear HB q8X0 q8X1 q11X0 q17X0 q17X1 q21X0 q21X1 q23X0 q23X1 q25X0 q43X0 q43X1 q44X0 K4 K10 K13
 have HB := N_HB
 have q8X0 := N_q8X0
 have q8X1 := N_q8X1
 have q11X0 := N_q11X0
 have q17X0 := N_q17X0
 have q17X1 := N_q17X1
 have q21X0 := N_q21X0
 have q21X1 := N_q21X1
 have q23X0 := N_q23X0
 have q23X1 := N_q23X1
 have q25X0 := N_q25X0
 have q43X0 := N_q43X0
 have q43X1 := N_q43X1
 have q44X0 := N_q44X0
 have K4 := N_K4
 have K10 := N_K10
 have K13 := N_K13
 clear N_HB N_q8X0 N_q8X1 N_q11X0 N_q17X0 N_q17X1 N_q21X0 N_q21X1 N_q23X0 N_q23X1 N_q25X0 N_q43X0 N_q43X1 N_q44X0 N_K4 N_K10 N_K13
 clear gb
 have y10 : w4.heap.size < w20.heap.size := by omega
 have z10_0 : w20.cell? ⟨w4.heap.size, 0, none⟩ = some (.slice q17A0 r12.length q17c0) := (blk_cell K10.out 0).trans rfl
 have z10_1 : w20.cell? ⟨w4.heap.size, 1, none⟩ = some (.slice q17A1 r13.length q17c1) := (blk_cell K10.out 1).trans rfl
 have z10_2 : w20.cell? ⟨w4.heap.size, 2, none⟩ = some (.int .i64 r14) := (blk_cell K10.out 2).trans rfl
 have z10_3 : w20.cell? ⟨w4.heap.size, 3, none⟩ = some (.bool r15) := (blk_cell K10.out 3).trans rfl
 go_wp2_with fail
 clear y10 z10_0 z10_1 z10_2 z10_3
 refine (laws_eqDisk.calls k_E22 _ _ r12 _ _ r13 r14 r15 _ _ r12 _ _ r13 r14 r15 true _ (Kd.C_alloc (Kd.R_reads' q45X0.out).2.2 _) (Kd.R_reads' q45X0.out).2.1 (Kd.C_alloc (Kd.S_reads' q45X1.out).2.2 _) (Kd.S_reads' q45X1.out).2.1 (Kd.C_alloc (Kd.R_reads' q17X0.out).2.2 _) (Kd.R_reads' q17X0.out).2.1 (Kd.C_alloc (Kd.S_reads' q17X1.out).2.2 _) (Kd.S_reads' q17X1.out).2.1 H_E22.out).mono ?_
 rintro e w21 ⟨rfl, gb⟩
 have hz21 : w20.heap.size + 1 ≤ w21.heap.size := by have := gb.size; first | omega | (simp at this; omega)
 have N_HB := Aside0.mk (below_step (below_alloc HB.out _) gb)
 have N_q8X0 := Aside0.mk (Kd.R_below (Kd.R_alloc q8X0.out _) gb)
 have N_q8X1 := Aside0.mk (Kd.S_below (Kd.S_alloc q8X1.out _) gb)
 have N_q11X0 := Aside0.mk (Kd.R_below (Kd.R_alloc q11X0.out _) gb)
 have N_q17X0 := Aside0.mk (Kd.R_below (Kd.R_alloc q17X0.out _) gb)
 have N_q17X1 := Aside0.mk (Kd.S_below (Kd.S_alloc q17X1.out _) gb)
 have N_q21X0 := Aside0.mk (Kd.R_below (Kd.R_alloc q21X0.out _) gb)
 have N_q21X1 := Aside0.mk (Kd.S_below (Kd.S_alloc q21X1.out _) gb)
 have N_q23X0 := Aside0.mk (Kd.R_below (Kd.R_alloc q23X0.out _) gb)
 have N_q23X1 := Aside0.mk (Kd.S_below (Kd.S_alloc q23X1.out _) gb)
 have N_q25X0 := Aside0.mk (Kd.R_below (Kd.R_alloc q25X0.out _) gb)
 have N_q43X0 := Aside0.mk (Kd.R_below (Kd.R_alloc q43X0.out _) gb)
 have N_q43X1 := Aside0.mk (Kd.S_below (Kd.S_alloc q43X1.out _) gb)
 have N_q44X0 := Aside0.mk (Kd.R_below (Kd.R_alloc q44X0.out _) gb)
 have N_q45X0 := Aside0.mk (Kd.R_below (Kd.R_alloc q45X0.out _) gb)
 have N_q45X1 := Aside0.mk (Kd.S_below (Kd.S_alloc q45X1.out _) gb)
 have N_K4 := Aside0.mk (blk_below (blk_alloc K4.out _) gb)
 have N_K10 := Aside0.mk (blk_below (blk_alloc K10.out _) gb)
 have N_K13 := Aside0.mk (blk_below (blk_alloc K13.out _) gb)
 have K17 := Aside0.mk (show w21.heap[w20.heap.size]? = some (.cells #[.slice q45A0 r12.length q45c0, .slice q45A1 r13.length q45c1, .int .i64 r14, .bool r15] 25 (0, 0)) from by have := blk_below (blk_new _ _) gb; simpa using this)
 clear HB q8X0 q8X1 q11X0 q17X0 q17X1 q21X0 q21X1 q23X0 q23X1 q25X0 q43X0 q43X1 q44X0 q45X0 q45X1 K4 K10 K13
 have HB := N_HB
 have q8X0 := N_q8X0
 have q8X1 := N_q8X1
 have q11X0 := N_q11X0
 have q17X0 := N_q17X0
 have q17X1 := N_q17X1
 have q21X0 := N_q21X0
 have q21X1 := N_q21X1
 have q23X0 := N_q23X0
 have q23X1 := N_q23X1
 have q25X0 := N_q25X0
 have q43X0 := N_q43X0
 have q43X1 := N_q43X1
 have q44X0 := N_q44X0
 have q45X0 := N_q45X0
 have q45X1 := N_q45X1
 have K4 := N_K4
 have K10 := N_K10
 have K13 := N_K13
 clear N_HB N_q8X0 N_q8X1 N_q11X0 N_q17X0 N_q17X1 N_q21X0 N_q21X1 N_q23X0 N_q23X1 N_q25X0 N_q43X0 N_q43X1 N_q44X0 N_q45X0 N_q45X1 N_K4 N_K10 N_K13
 clear gb
 go_wp2
 go_ret
 exact ⟨rfl, by first | exact HB.out | exact below_alloc HB.out _ | exact below_alloc (below_alloc HB.out _) _ | exact below_alloc (below_alloc (below_alloc HB.out _) _) _⟩

/-! ### zmain_WriteRec: a text by hand -/
theorem mWR_ok {l0 : List Int} {l1 : List S79} (a2 : Int) (a3 : Bool) (at_ seq : Int) (P : List Int) (h0 : l0.length ≤ 1048576) (ok : okPendS l1) : okQ (mWR l0 l1 a2 a3 at_ seq P) := by
 unfold mWR
 split
 ·unfold wrAll
  refine dkS_ok (dkW_ok ?_ _ _)
  split
  ·exact dkS_ok (wrF_ok ⟨h0, ok⟩ _ _ _)
  ·exact wrF_ok ⟨h0, ok⟩ _ _ _
 ·exact ⟨h0, ok⟩
theorem main_WriteRec (A0 : Option Addr) (c0 : Nat) (l0 : List Int) (A1 : Option Addr) (c1 : Nat) (l1 : List S127) (a2 : Int) (a3 : Bool) (b0 b1 : Int) (A3 : Option Addr) (c3 : Nat) (l3 : List Int)
  (F : (l0.length ≤ maxLen ∧ ∀ x ∈ l0, (Lit.int .u8 x).wf = true) ∧ (l1.length ≤ maxLen ∧ ∀ x ∈ l1, (Lit.int .i64 x.f0).wf = true ∧ (x.f1.length ≤ maxLen ∧ ∀ y ∈ x.f1, (Lit.int .u8 y).wf = true)) ∧ (Lit.int .i64 a2).wf = true ∧ True) (_F1 : (Lit.int .i64 b0).wf = true) (_F2 : (Lit.int .i64 b1).wf = true) (_F3 : l3.length ≤ maxLen ∧ ∀ x ∈ l3, (Lit.int .u8 x).wf = true)
  (w : World) (hr0 : Kd.C (Kd.int .u8) w A0 l0.length l0) (hc0 : l0.length ≤ c0) (hr1 : Kd.C k127 w A1 l1.length l1) (hc1 : l1.length ≤ c1) (hr3 : Kd.C (Kd.int .u8) w A3 l3.length l3) (hc3 : l3.length ≤ c3) :
  Calls Try.prog 7 #[.agg #[.slice A0 l0.length c0, .slice A1 l1.length c1, .int .i64 a2, .bool a3], .int .i64 b0, .int .i64 b1, .slice A3 l3.length c3] w fun e w' => e = .returned (.bool true) ∧ Below w.heap.size w w' := by
 by_cases cg : 1048576 < l3.length
 ·exact guardL3_FnExactWriteRec A0 c0 l0 A1 c1 l1 a2 a3 b0 b1 A3 c3 l3 w hr0 hc0 hr1 hc1 hr3 hc3 cg
 obtain ⟨r, hr, hok⟩ := szDisk_ev l0 l1 a2 a3 F.1.1 F.2.1.1 (fun x hx => (F.2.1.2 x hx).2.1)
 by_cases c : r < 0
 ·exact guard1_FnExactWriteRec A0 c0 l0 A1 c1 l1 a2 a3 b0 b1 A3 c3 l3 r w hr0 hc0 hr1 hc1 hr3 hc3 hr c (by omega)
 obtain ⟨h0, ok⟩ := hok (by omega)
 have hT := toDisk_ev l0 l1 a2 a3 h0 ok
 have hT2 := toByteS_ev l3 (by omega)
 generalize cvPend l1 = l1' at hT ok
 have hi : Ev (fun k => m_WriteRec.f k l0 l1' a2 a3 b0 b1 l3) (mWR l0 l1' a2 a3 b0 b1 l3) := Ev.congr (fun k => by rw [m_WriteRec.f, if_pos ⟨h0, ok.1, okS_all ok, by omega⟩]) (Ev.now _)
 have hlen := mWR_ok a2 a3 b0 b1 l3 h0 ok
 generalize mWR l0 l1' a2 a3 b0 b1 l3 = z at hi hlen
 obtain ⟨r1, r2, r3, r4⟩ := z
 obtain ⟨hl1, ok2⟩ := hlen
 simp only at hl1 ok2
 have hb := mkP_bd l1' ok.2 (1 + l0.length)
 have o1 := ok.1
 have hb2 := mkP_bd r2 ok2.2 (1 + r1.length)
 have o2 := ok2.1
 exact walk_FnExactWriteRec A0 c0 l0 A1 c1 l1 a2 a3 b0 b1 A3 c3 l3 r l0 l1' a2 a3 l3 r1 r2 r3 r4 (1 + l0.length) (mkB 1 l0) _ _ _ (mkB _ l3) (1 + r1.length) (mkB 1 r1) _ _ w hr0 hc0 hr1 hc1 hr3 hc3 hr (by omega) hT hT2 hi hi (eqDisk_ev r1 r2 r3 r4 hl1 ok2) (eqDisk_ev l0 l1' a2 a3 h0 ok) (eqByteS_ev l3 (by omega))
  (markByteS_ev l0 1 (by omega) (by omega)) (markPendS_ev l1' ok.2 _ (by omega) (by omega)) (by omega) (markByteS_ev l3 _ (by omega) (by omega)) (by omega) (markByteS_ev r1 1 (by omega) (by omega)) (markPendS_ev r2 ok2.2 _ (by omega) (by omega)) (by omega) (heldDisk_ev r1 r2 r3 r4 hl1 ok2) (by omega)
end Go.Proofs.Yteddpdonmhiplaa.PR
