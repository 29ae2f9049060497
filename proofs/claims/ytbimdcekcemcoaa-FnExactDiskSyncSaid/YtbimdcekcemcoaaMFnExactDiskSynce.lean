-- Made by this session's programs out of the translation and of its own texts.
import Derived.Test.YtbimdcekcemcoaaMFnExactDiskSyncd
namespace Go.Proofs.Ytbimdcekcemcoaa.PD
open Go.RowKit Go.Proofs.YtbimdcekcemcoaaW.PrintWords Go.Proofs.YtbimdcekcemcoaaW.PrintLast Go.Proofs.YtbimdcekcemcoaaW.PrintMore
attribute [local go_sem] max2_int min2_int max_two min_two max_three min_three max_four min_four   -- for this text's walks alone
set_option linter.unusedVariables false
set_option linter.unusedSimpArgs false

/-! ### impl_Disk_sync: a text by hand -/
-- needs spec_DiskSync.f impl_ValidDisk.f
-- import Derived.Laws.CopyOwn
-- import Derived.Deep.RegionLaw
def syF (l0 : List Int) (l1 : List S60) : Nat → List Int
  | 0 => l0
  | i + 1 => ovr (syF l0 l1 i) (rd_T60 l1 (i : Int)).f0 (rd_T60 l1 (i : Int)).f1
theorem syF_len (l0 : List Int) (l1 : List S60) (h : ∀ x ∈ l1, 0 ≤ x.f0 ∧ x.f0 < ((l0.length / 64 : Nat) : Int) ∧ x.f1.length = 64) : ∀ i, i ≤ l1.length → (syF l0 l1 i).length = l0.length := by
  intro i
  induction i with
  | zero => intro _; rfl
  | succ i ih =>
    intro hi
    have h1 := ih (by omega)
    have hx := h _ (rdP_mem l1 i (by omega))
    unfold syF
    rw [ovr_len _ _ _ (by rw [h1, hx.2.2]; omega), h1]
def fuelD (f : Int) : Int := if 0 < f then f - 1 else f
set_option maxHeartbeats 4000000 in
set_option maxRecDepth 100000 in
theorem sync_dies (lo b : Nat) (W : World) (l0 : List Int) (l1 : List S60) (a3 : Bool) (h : PowX lo b W l0 l1 0 a3 W) :
    Calls Try.prog 54 #[.pointer (some ⟨b, 0, none⟩)] W fun e W' => e = .panicked [{ v := .iface 81 (.agg #[]), recovered := false }] ∧ PowX lo b W l0 l1 0 a3 W' := by
  obtain ⟨A, B, n, c, m, d, hb, hR, hS, hB⟩ := h
  go_enter Try.func54, Try.ntmps54
  go_wp2_with fail
  refine (spend_dies b _ _ _ _ hb).mono ?_
  rintro e w' ⟨rfl, rfl⟩
  go_wp2_with fail
  exact ⟨rfl, rfl, A, B, n, c, m, d, hb, hR, hS, hB⟩
set_option maxHeartbeats 4000000 in
set_option maxRecDepth 100000 in
theorem sync_lives (lo b : Nat) (W : World) (l0 : List Int) (l1 : List S60) (a2 : Int) (a3 : Bool) (hv : vD l0 l1 a2 = true) (hf : a2 ≠ 0) (hlo : lo ≤ b) (h : PowX lo b W l0 l1 a2 a3 W) :
    Calls Try.prog 54 #[.pointer (some ⟨b, 0, none⟩)] W fun e W' => e = .returned (.tuple #[]) ∧ PowX lo b W (syF l0 l1 l1.length) [] (fuelD a2) a3 W' := by
  have HP := Aside0.mk (vD_facts hv)
  obtain ⟨A, B, n, c, m, d, hb, hR, hS, hB⟩ := h
  have hn := (Kd.R_reads' hR).1
  have hm := (Kd.S_reads' hS).1
  subst hn hm
  obtain ⟨g, c', tail, e_, hlg, _, hcm, hg, hcc⟩ := R_row hR (by have := HP.out.2.1; omega)
  cases e_
  have HLG := Aside0.mk hlg
  have HCM := Aside0.mk hcm
  have HCC := Aside0.mk hcc
  have HG0 := Aside0.mk hg
  have HS0 := Aside0.mk hS
  have HB0 := Aside0.mk hB
  have K0 := Aside0.mk hb
  have HF := Aside0.mk hf
  have hgb : g ≠ b := blk_ne hg hb (by decide)
  clear hR hS hB hb hlg hcm hcc hg hv hf
  have hu25 := Try.underlying25
  have hu60 := Try.underlying60
  go_enter Try.func54, Try.ntmps54
  go_wp2_with fail
  refine (spend_ok b _ _ a2 a3 _ HF.out HP.out.2.2.2.2.1 HP.out.2.2.2.2.2.1 K0.out).mono ?_
  rintro e w1 ⟨rfl, hw1⟩
  have K1 := Aside0.mk (show w1.heap[b]? = some (.cells #[.slice (some ⟨g, 0, none⟩) l0.length c, .slice B l1.length d, .int .i64 (fuelD a2), .bool a3] 25 (0, 0)) by
    rw [hw1]; unfold fuelD; split
    · exact blk_put K0.out 2 _ rfl
    · exact K0.out)
  have HG1 := Aside0.mk (show w1.heap[g]? = some (.cells (l0.map (Value.int .u8) ++ tail).toArray 5 (0, 0)) by
    rw [hw1]; split
    · exact blk_far HG0.out hgb _
    · exact HG0.out)
  have HS1 := Aside0.mk (show Kd.S k60 60 w1 lo (fun k => some k ≠ (.slice (some ⟨g, 0, none⟩) l0.length c : Value).ownBlock) (.slice B l1.length d) l1 by
    rw [hw1]; split
    · exact Kd.S_mono (Kd.S_far (p := ⟨b, 2, none⟩) (Kd.S_types HS0.out K0.out (by decide)) (fun _ hk => hk.2) _) (fun _ hk => hk.1)
    · exact HS0.out)
  have HB1 := Aside0.mk (show Below lo W w1 by
    rw [hw1]; split
    · exact HB0.out.setCell hlo _
    · exact HB0.out)
  clear K0 HG0 HS0 HB0 hw1
  obtain ⟨z0, z1, z2, z3, y0, y1, y2, y3⟩ := blk_cells4 K1.out
  have yl := blk_lt K1.out
  go_wp2_with fail
  go_loopg [11] l1.length (fun kq v11 w' => ∃ (i : Nat), v11 = .int .i64 i ∧ Aside0 (i ≤ l1.length ∧ kq = l1.length - i) ∧ Aside0 (w'.heap[g]? = some (.cells ((syF l0 l1 i).map (Value.int .u8) ++ tail).toArray 5 (0, 0))) ∧ Aside0 (w'.heap[b]? = some (.cells #[.slice (some ⟨g, 0, none⟩) l0.length c, .slice B l1.length d, .int .i64 (fuelD a2), .bool a3] 25 (0, 0))) ∧ Aside0 (Kd.S k60 60 w' lo (fun k => some k ≠ (.slice (some ⟨g, 0, none⟩) l0.length c : Value).ownBlock) (.slice B l1.length d) l1) ∧ Aside0 (Below lo W w'))
  case atStart => exact ⟨0, rfl, ⟨by omega, rfl⟩, ⟨HG1.out⟩, ⟨K1.out⟩, ⟨HS1.out⟩, ⟨HB1.out⟩⟩
  case round =>
    clear z0 z1 z2 z3 y0 y1 y2 y3 yl K1 HG1 HS1 HB1
    obtain ⟨i, rfl, HI, HG, K5, HS, HBr⟩ := hrel
    by_cases ci : (i : Int) < (l1.length : Int)
    · obtain ⟨ad, A1', c1', e_, hx0, hx1, hl, hC⟩ := at_T60 (Kd.S_reads' HS.out).2.2 (i : Int) (by omega) (by omega)
      subst e_
      rw [Int.toNat_natCast] at hx0 hx1
      have HM := Aside0.mk (HP.out.2.2.2.2.2.2 _ (rdP_mem l1 i (by omega)))
      have HCL := Aside0.mk (syF_len l0 l1 HP.out.2.2.2.2.2.2 i (by omega))
      have HCR := Aside0.mk (show syF l0 l1 (i + 1) = ovr (syF l0 l1 i) (rd_T60 l1 (i : Int)).f0 (rd_T60 l1 (i : Int)).f1 from rfl)
      have HC := Aside0.mk hC
      clear hC hl
      rw [HM.out.2.2] at hx1
      generalize rd_T60 l1 (i : Int) = p at *
      have hil : l1.length ≤ 2000 := HP.out.2.2.2.1
      obtain ⟨z0, z1, z2, z3, y0, y1, y2, y3⟩ := blk_cells4 K5.out
      have yl := blk_lt K5.out
      go_wp2_with fail
      have N_K5 := Aside0.mk (blk_alloc K5.out (.cells #[.int .i64 p.f0, .slice A1' 64 c1'] 60))
      have N_HG := Aside0.mk (blk_alloc HG.out (.cells #[.int .i64 p.f0, .slice A1' 64 c1'] 60))
      have N_HB := Aside0.mk (HBr.out.alloc (by have := blk_lt K5.out; omega) (.cells #[.int .i64 p.f0, .slice A1' 64 c1'] 60))
      have N_HC := Aside0.mk (Kd.C_alloc HC.out (.cells #[.int .i64 p.f0, .slice A1' 64 c1'] 60))
      have N_HS := Aside0.mk (Kd.S_alloc HS.out (.cells #[.int .i64 p.f0, .slice A1' 64 c1'] 60))
      have KP := Aside0.mk (blk_new wr (.cells #[.int .i64 p.f0, .slice A1' 64 c1'] 60))
      clear K5 HG HBr HC HS z0 z1 z2 z3 y0 y1 y2 y3 yl hx0 hx1
      generalize hww : wr.alloc (.cells #[.int .i64 p.f0, .slice A1' 64 c1'] 60) = ww at *
      have HWW := Aside0.mk hww
      clear hww
      obtain ⟨z0, z1, z2, z3, y0, y1, y2, y3⟩ := blk_cells4 N_K5.out
      have yl := blk_lt N_K5.out
      have pz0 : ww.cell? ⟨wr.heap.size, 0, none⟩ = some (.int .i64 p.f0) := (blk_cell KP.out 0).trans rfl
      have pz1 : ww.cell? ⟨wr.heap.size, 1, none⟩ = some (.slice A1' 64 c1') := (blk_cell KP.out 1).trans rfl
      have b0 : 0 ≤ p.f0 := HM.out.1
      have b1 : p.f0 * 64 + 64 ≤ (l0.length : Int) := by have := HM.out.2.1; omega
      have b2 : l0.length ≤ c := by have := HCC.out; omega
      have b3 : l0.length ≤ 65599 := HP.out.2.2.1
      have b4 : ¬ c = (p.f0 * 64).toNat := by omega
      have b5 : IntKind.i64.wrap (p.f0 * 64) = p.f0 * 64 := by rw [i64_w]; unfold wrap64; omega
      have b6 : p.f0 * 64 ≤ (l0.length : Int) := by omega
      have b7 : 0 ≤ p.f0 * 64 := by omega
      obtain ⟨aq, ea, hcs⟩ := C_cells N_HC.out (by rw [HM.out.2.2]; decide)
      have HCS := Aside0.mk hcs
      clear hcs
      subst ea
      have HCL2 := HCL.out
      go_region_law (refine step_copy_at rfl (.tmp 22) (.tmp 24) 22 22 rfl 5 Try.underlying22 (by kernel_rfl) g (p.f0 * 64).toNat _ _ aq _ _ (by first | rfl | (simp [Act.eval, Act.put]; done)) (by first | rfl | (simp [Act.eval, Act.put]; done)) ((syF l0 l1 i).map (Value.int .u8) ++ tail) 5 N_HG.out (p.f1.map (Value.int .u8)) ?hn ?hsrc ?hfit ?h1 ?_; (case hn => (rw [List.length_map, HM.out.2.2]; show 64 = min 64 _; omega)); (case hsrc => exact HCS.out); (case hfit => (have := HM.out.2.2; simp; omega)); (case h1 => (simp [Value.oneCell'])); intro w4 hw4; have HW4 := Aside0.mk hw4; clear hw4)
      all_goals go_wp2_with fail
      all_goals
        go_roundg (l1.length - (i + 1))
        case measure => have := HI.out; omega
        case rel =>
          rw [HW4.out, ovr_cells _ _ _ _ (by have := HM.out.2.2; omega), ← HCR.out]
          exact ⟨i + 1, by first | rfl | simp, ⟨by omega, rfl⟩, ⟨setRow_heap _ _ _ _ _ _ N_HG.out⟩, ⟨(setRow_other _ _ _ _ (Ne.symm hgb)).trans N_K5.out⟩, ⟨Kd.S_step (Kd.S_drew N_HS.out) (fun k hk _ => setRow_other _ _ _ _ (fun he => hk (by rw [he]; rfl)))⟩, ⟨below_row N_HB.out.drew HLG.out _⟩⟩
    · have hi : i = l1.length := by have := HI.out; omega
      subst hi
      obtain ⟨z0, z1, z2, z3, y0, y1, y2, y3⟩ := blk_cells4 K5.out
      have yl := blk_lt K5.out
      go_wp2_with fail
      go_end0
      have hcl := syF_len l0 l1 HP.out.2.2.2.2.2.2 l1.length (Nat.le_refl _)
      have hR := R_of_row (base := lo) (ok := fun k => k ≠ b) (cap := c) HG.out HLG.out hgb HCM.out (by rw [hcl]; exact HCC.out)
      rw [hcl] at hR
      exact ⟨rfl, some ⟨g, 0, none⟩, none, l0.length, c, 0, 0, blk_put K5.out 1 _ rfl, Kd.R_mono (Kd.R_far (p := ⟨b, 1, none⟩) hR (fun k hk => hk) _) (fun _ _ => trivial), Kd.S_nil _ _ _ _ _, HBr.out.setCell hlo _⟩

/-! ### impl_DiskSync: function 28, proved by hand -/
def dSync (l0 : List Int) (l1 : List S60) (a2 : Int) (a3 : Bool) : List Int × List S60 × Int × Bool :=
  if (vD l0 l1 a2 && !a3) = true then (if a2 = 0 then (l0, l1, 0, true) else (syF l0 l1 l1.length, [], fuelD a2, a3)) else (l0, l1, a2, a3)
def m_DiskSync.f (l0 : List Int) (l1 : List S60) (a2 : Int) (a3 : Bool) : Option (List Int × List S60 × Int × Bool) :=
  if l0.length ≤ 1048576 ∧ l1.length ≤ 1048576 ∧ l1.all (fun x => decide (x.f1.length ≤ 1048576)) = true then some (dSync l0 l1 a2 a3) else none
set_option maxHeartbeats 4000000 in
set_option maxRecDepth 100000 in
theorem impl_DiskSync.calls (A0 : Option Addr) (c0 : Nat) (l0 : List Int) (A1 : Option Addr) (c1 : Nat) (l1 : List S60) (a2 : Int) (a3 : Bool) (r1 : List Int) (r2 : List S60) (r3 : Int) (r4 : Bool) (w : World) (hr0 : Kd.C (Kd.int .u8) w A0 l0.length l0) (hc0 : l0.length ≤ c0) (hr1 : Kd.C k60 w A1 l1.length l1) (hc1 : l1.length ≤ c1) (h : m_DiskSync.f l0 l1 a2 a3 = some (r1, r2, r3, r4)) :
    Calls Try.prog 28 #[.agg #[.slice A0 l0.length c0, .slice A1 l1.length c1, .int .i64 a2, .bool a3]] w fun e w' => ∃ v0_ v1_ : Value, e = .returned (.agg #[v0_, v1_, .int .i64 r3, .bool r4]) ∧ Kd.R (Kd.int .u8) 5 w' w.heap.size (fun _ => True) v0_ r1 ∧ Kd.S k60 60 w' w.heap.size (fun k_ => some k_ ≠ (v0_ : Value).ownBlock) v1_ r2 ∧ Below w.heap.size w w' := by
  unfold m_DiskSync.f at h
  by_cases hL : l0.length ≤ 1048576 ∧ l1.length ≤ 1048576 ∧ l1.all (fun x => decide (x.f1.length ≤ 1048576)) = true
  case neg => rw [if_neg hL] at h; cases h
  rw [if_pos hL] at h
  have hok : okPendS l1 := ⟨hL.2.1, fun x hx => by have := List.all_eq_true.1 hL.2.2 x hx; simpa using this⟩
  obtain ⟨kv, hv⟩ := (implValid_ev l0 l1 a2 a3 hL.1 hL.2.1).rounds
  have HL := Aside0.mk hL.1
  have HOK := Aside0.mk hok
  have HV := Aside0.mk hv
  have HR0 := Aside0.mk hr0
  have HC0 := Aside0.mk hc0
  have HR1 := Aside0.mk hr1
  have HC1 := Aside0.mk hc1
  clear hr0 hc0 hr1 hc1 hv hL hok
  have HRr := Aside0.mk (Option.some.inj h)
  clear h
  have hu25 := Try.underlying25
  have HB := Aside0.mk (Below.refl w.heap.size w)
  go_enter Try.func28, Try.ntmps28
  go_wp2_with fail
  refine (impl_ValidDisk.calls kv _ _ l0 _ _ l1 a2 a3 _ _ (Kd.C_alloc (Kd.C_alloc HR0.out _) _) HC0.out (Kd.C_alloc (Kd.C_alloc HR1.out _) _) HC1.out HV.out).mono ?_
  rintro e w1 ⟨rfl, gb⟩
  have K2 := Aside0.mk (show w1.heap[w.heap.size]? = some (.cells #[.slice A0 l0.length c0, .slice A1 l1.length c1, .int .i64 a2, .bool a3] 25 (0, 0)) from blk_below (blk_alloc (blk_new _ _) _) gb)
  have K4 := Aside0.mk (show w1.heap[w.heap.size + 1]? = some (.cells #[.slice none 0 0, .slice none 0 0, .int .i64 0, .bool false] 25 (0, 0)) from blk_two gb)
  have N_HB := Aside0.mk (below_step (below_alloc (below_alloc HB.out _) _) gb)
  clear HB gb
  have HB := N_HB
  clear N_HB
  obtain ⟨z0, z1, z2, z3, y0, y1, y2, y3⟩ := blk_cells4 K2.out
  have yl := blk_lt K2.out
  have KL := Aside0.mk (blk_lt K4.out)
  have fin : ∀ (v0 v1 : Value) (A B : Option Addr) (n c m d : Nat) (w2 : World), v0 = .slice A n c → v1 = .slice B m d → Kd.R (Kd.int .u8) 5 w2 w1.heap.size (fun _ => True) v0 r1 → Kd.S k60 60 w2 w1.heap.size (fun k_ => some k_ ≠ (v0 : Value).ownBlock) v1 r2 → Below w1.heap.size w1 w2 →
      w2.heap[w.heap.size + 1]? = some (.cells #[.slice none 0 0, .slice none 0 0, .int .i64 0, .bool false] 25 (0, 0)) ∧
      (((((w2.setCell ⟨w.heap.size + 1, 0, none⟩ v0).setCell ⟨w.heap.size + 1, 1, none⟩ v1).setCell ⟨w.heap.size + 1, 2, none⟩ (.int .i64 r3)).setCell ⟨w.heap.size + 1, 3, none⟩ (.bool r4)).heap[w.heap.size + 1]? = some (.cells #[v0, v1, .int .i64 r3, .bool r4] 25 (0, 0))) ∧
      Kd.R (Kd.int .u8) 5 ((((w2.setCell ⟨w.heap.size + 1, 0, none⟩ v0).setCell ⟨w.heap.size + 1, 1, none⟩ v1).setCell ⟨w.heap.size + 1, 2, none⟩ (.int .i64 r3)).setCell ⟨w.heap.size + 1, 3, none⟩ (.bool r4)) w.heap.size (fun _ => True) v0 r1 ∧
      Kd.S k60 60 ((((w2.setCell ⟨w.heap.size + 1, 0, none⟩ v0).setCell ⟨w.heap.size + 1, 1, none⟩ v1).setCell ⟨w.heap.size + 1, 2, none⟩ (.int .i64 r3)).setCell ⟨w.heap.size + 1, 3, none⟩ (.bool r4)) w.heap.size (fun k_ => some k_ ≠ (v0 : Value).ownBlock) v1 r2 ∧
      Below w.heap.size w ((((w2.setCell ⟨w.heap.size + 1, 0, none⟩ v0).setCell ⟨w.heap.size + 1, 1, none⟩ v1).setCell ⟨w.heap.size + 1, 2, none⟩ (.int .i64 r3)).setCell ⟨w.heap.size + 1, 3, none⟩ (.bool r4)) := by
    intro v0 v1 A B n c m d w2 _ _ hR hS hb
    have hle : w.heap.size + 1 < w1.heap.size := KL.out
    refine ⟨blk_below K4.out hb, blk_set4 (blk_below K4.out hb), ?_, ?_, ?_⟩
    · exact Kd.R_lower (R_farB (R_farB (R_farB (R_farB hR (by omega) _ _) (by omega) _ _) (by omega) _ _) (by omega) _ _) (by omega)
    · exact Kd.S_lower (S_farB (S_farB (S_farB (S_farB hS (by omega) _ _) (by omega) _ _) (by omega) _ _) (by omega) _ _) (by omega)
    · exact below_setB (below_setB (below_setB (below_setB (below_step HB.out hb) (by omega) _ _) (by omega) _ _) (by omega) _ _) (by omega) _ _
  have FIN := Aside0.mk fin
  clear fin
  have clone : (r1, r2, r3, r4) = (l0, l1, a2, a3) → Calls Try.prog 49 #[.agg #[.slice A0 l0.length c0, .slice A1 l1.length c1, .int .i64 a2, .bool a3]] w1 fun e w' => ∃ v0_ v1_ : Value, e = .returned (.agg #[v0_, v1_, .int .i64 r3, .bool r4]) ∧ Kd.R (Kd.int .u8) 5 w' w1.heap.size (fun _ => True) v0_ r1 ∧ Kd.S k60 60 w' w1.heap.size (fun k_ => some k_ ≠ (v0_ : Value).ownBlock) v1_ r2 ∧ Below w1.heap.size w1 w' := by
    intro he
    simp only [Prod.mk.injEq] at he
    obtain ⟨rfl, rfl, rfl, rfl⟩ := he
    exact impl_Disk_clone.calls _ _ _ _ _ _ _ _ _ (Kd.C_below HR0.out HB.out) HC0.out (Kd.C_below HR1.out HB.out) HC1.out HL.out HOK.out
  have CL := Aside0.mk clone
  clear clone
  by_cases cv : vD l0 l1 a2 = true
  case neg =>
    have cv' : vD l0 l1 a2 = false := by simpa using cv
    rw [cv']
    have er := HRr.out
    unfold dSync at er
    rw [cv', Bool.false_and, if_neg (by decide)] at er
    go_wp2_with fail
    refine (CL.out er.symm).mono ?_
    rintro e w2 ⟨v0, v1, rfl, hR, hS, gb⟩
    obtain ⟨A, c, ea⟩ := Kd.R_slice hR
    obtain ⟨B, d, eb⟩ := Kd.S_slice hS
    obtain ⟨f1, f2, f3, f4, f5⟩ := FIN.out v0 v1 A B _ c _ d w2 ea eb hR hS gb
    have F2 := Aside0.mk f2
    have F3 := Aside0.mk f3
    have F4 := Aside0.mk f4
    have F5 := Aside0.mk f5
    obtain ⟨x0, x1, x2, x3, u0, u1, u2, u3⟩ := blk_cells4 f1
    have ul := blk_lt f1
    clear f1 f2 f3 f4 f5 hR hS gb
    generalize r1.length = n1 at ea
    generalize r2.length = n2 at eb
    subst ea
    subst eb
    go_wp2_with fail
    exact bodyPost_ret (results_cell_row rfl _ _ (w.heap.size + 1) 25 _ (0, 0) _ rfl F2.out Try.underlying25 rfl (by kernel_rfl)) rfl ⟨_, _, rfl, F3.out, F4.out, F5.out⟩
  have CV := Aside0.mk cv
  rw [cv]
  clear cv
  cases a3 with
  | true =>
    have er := HRr.out
    unfold dSync at er
    rw [Bool.not_true, Bool.and_false, if_neg (by decide)] at er
    go_wp2_with fail
    refine (CL.out er.symm).mono ?_
    rintro e w2 ⟨v0, v1, rfl, hR, hS, gb⟩
    obtain ⟨A, c, ea⟩ := Kd.R_slice hR
    obtain ⟨B, d, eb⟩ := Kd.S_slice hS
    obtain ⟨f1, f2, f3, f4, f5⟩ := FIN.out v0 v1 A B _ c _ d w2 ea eb hR hS gb
    have F2 := Aside0.mk f2
    have F3 := Aside0.mk f3
    have F4 := Aside0.mk f4
    have F5 := Aside0.mk f5
    obtain ⟨x0, x1, x2, x3, u0, u1, u2, u3⟩ := blk_cells4 f1
    have ul := blk_lt f1
    clear f1 f2 f3 f4 f5 hR hS gb
    generalize r1.length = n1 at ea
    generalize r2.length = n2 at eb
    subst ea
    subst eb
    go_wp2_with fail
    exact bodyPost_ret (results_cell_row rfl _ _ (w.heap.size + 1) 25 _ (0, 0) _ rfl F2.out Try.underlying25 rfl (by kernel_rfl)) rfl ⟨_, _, rfl, F3.out, F4.out, F5.out⟩
  | false =>
    have er := HRr.out
    unfold dSync at er
    rw [CV.out, Bool.not_false, Bool.and_true, if_pos rfl] at er
    have ER := Aside0.mk er
    clear er
    go_wp2_with fail
    have pw : Calls Try.prog 50 #[.agg #[.slice A0 l0.length c0, .slice A1 l1.length c1, .int .i64 a2, .bool false], .func (.func 54) #[] #[]] w1 fun e w' => ∃ v0_ v1_ : Value, e = .returned (.agg #[v0_, v1_, .int .i64 r3, .bool r4]) ∧ Kd.R (Kd.int .u8) 5 w' w1.heap.size (fun _ => True) v0_ r1 ∧ Kd.S k60 60 w' w1.heap.size (fun k_ => some k_ ≠ (v0_ : Value).ownBlock) v1_ r2 ∧ Below w1.heap.size w1 w' := by
      have hcf : ∀ (args : Array Value) (W : World), (callFunc 54 args).run Try.prog W = .ok (.enter 54 args) W := fun args W => by simp [go_sem]
      have er := ER.out
      by_cases c0_ : a2 = 0
      · rw [if_pos c0_] at er
        simp only [Prod.mk.injEq] at er
        obtain ⟨rfl, rfl, rfl, rfl⟩ := er
        subst c0_
        exact impl_Disk_powered.calls 54 #[] hcf _ _ _ _ _ _ _ _ _ (Kd.C_below HR0.out HB.out) HC0.out (Kd.C_below HR1.out HB.out) HC1.out HL.out HOK.out true _ _ 0 false (fun lo b W _ _ _ hX => (sync_dies lo b W _ _ _ hX).mono (fun e W' hh => ⟨by rw [if_pos rfl]; exact hh.1, hh.2⟩))
      · rw [if_neg c0_] at er
        simp only [Prod.mk.injEq] at er
        obtain ⟨rfl, rfl, rfl, rfl⟩ := er
        exact impl_Disk_powered.calls 54 #[] hcf _ _ _ _ _ _ _ _ _ (Kd.C_below HR0.out HB.out) HC0.out (Kd.C_below HR1.out HB.out) HC1.out HL.out HOK.out false _ _ (fuelD a2) false (fun lo b W _ hlo _ hX => (sync_lives lo b W _ _ _ _ CV.out c0_ hlo hX).mono (fun e W' hh => ⟨by rw [if_neg (by decide)]; exact hh.1, hh.2⟩))
    refine pw.mono ?_
    clear pw
    rintro e w2 ⟨v0, v1, rfl, hR, hS, gb⟩
    obtain ⟨A, c, ea⟩ := Kd.R_slice hR
    obtain ⟨B, d, eb⟩ := Kd.S_slice hS
    obtain ⟨f1, f2, f3, f4, f5⟩ := FIN.out v0 v1 A B _ c _ d w2 ea eb hR hS gb
    have F2 := Aside0.mk f2
    have F3 := Aside0.mk f3
    have F4 := Aside0.mk f4
    have F5 := Aside0.mk f5
    obtain ⟨x0, x1, x2, x3, u0, u1, u2, u3⟩ := blk_cells4 f1
    have ul := blk_lt f1
    clear f1 f2 f3 f4 f5 hR hS gb
    generalize r1.length = n1 at ea
    generalize r2.length = n2 at eb
    subst ea
    subst eb
    go_wp2_with fail
    exact bodyPost_ret (results_cell_row rfl _ _ (w.heap.size + 1) 25 _ (0, 0) _ rfl F2.out Try.underlying25 rfl (by kernel_rfl)) rfl ⟨_, _, rfl, F3.out, F4.out, F5.out⟩

/-! ### L_markBytes: a text by hand -/
-- needs laws_markByteS.f laws_heldByteS.f
theorem rd_mid (pre : List Int) (x : Int) (rest : List Int) : rd (pre ++ x :: rest) (pre.length : Int) = x := by unfold rd; rw [Int.toNat_natCast, List.getD_eq_getElem?_getD, List.getElem?_append_right (Nat.le_refl _)]; simp
theorem set_mid {α : Type} (pre : List α) (x y : α) (rest : List α) : (pre ++ x :: rest).set (pre.length : Int).toNat y = (pre ++ [y]) ++ rest := by rw [Int.toNat_natCast, List.set_append_right _ _ (Nat.le_refl _)]; simp
def mkB : Int → List Int → List Int
  | _, [] => []
  | k, _ :: xs => k % 256 :: mkB (k + 1) xs
theorem mkB_len (k : Int) (l : List Int) : (mkB k l).length = l.length := by induction l generalizing k with
  | nil => rfl
  | cons x xs ih => simp [mkB, ih]
theorem markB_loop (rest : List Int) : ∀ (pre : List Int) (k : Int), 0 ≤ k → k + rest.length ≤ 4611686018427387904 → pre.length + rest.length ≤ 4611686018427387904 →
    Ev (fun K => laws_markByteS.l0 K (pre ++ rest) k (pre.length : Int)) (k + rest.length, pre ++ mkB k rest) := by
  induction rest with
  | nil => intro pre k _ _ _; exact Ev.step (fun K => by simp only [laws_markByteS.l0]; rw [if_neg (by simp)]) (by simpa [mkB] using Ev.now _)
  | cons x xs ih =>
    intro pre k h0 h1 h2
    simp only [List.length_cons] at h1 h2
    have ih' := ih (pre ++ [k % 256]) (k + 1) (by omega) (by omega) (by simp; omega)
    rw [show ((pre ++ [k % 256]).length : Int) = wrap64 ((pre.length : Int) + 1) by simp; unfold wrap64; omega] at ih'
    have e : (k + 1 + (xs.length : Int), pre ++ [k % 256] ++ mkB (k + 1) xs) = (k + ((x :: xs).length : Int), pre ++ mkB k (x :: xs)) := by simp [mkB]; omega
    rw [e] at ih'
    exact Ev.step (fun K => by simp only [laws_markByteS.l0]; rw [if_pos (by simp; omega), if_pos (by omega), set_mid, show wrap64 (k + 1) = k + 1 by unfold wrap64; omega]) ih'
theorem markByteS_ev (l : List Int) (k : Int) (h0 : 0 ≤ k) (h1 : k + l.length ≤ 4611686018427387904) : Ev (fun K => laws_markByteS.f K l k) (k + l.length, mkB k l) :=
  markB_loop l [] k h0 h1 (by simp; omega)
theorem heldB_loop (rest : List Int) : ∀ (pre : List Int) (k : Int), 0 ≤ k → k + rest.length ≤ 4611686018427387904 → pre.length + rest.length ≤ 4611686018427387904 →
    Ev (fun K => laws_heldByteS.l0 K (pre ++ mkB k rest) k (pre.length : Int)) (k + rest.length) := by
  induction rest with
  | nil => intro pre k _ _ _; exact Ev.step (fun K => by simp only [laws_heldByteS.l0]; rw [if_neg (by simp [mkB])]) (by simpa using Ev.now _)
  | cons x xs ih =>
    intro pre k h0 h1 h2
    simp only [List.length_cons] at h1 h2
    have ih' := ih (pre ++ [k % 256]) (k + 1) (by omega) (by omega) (by simp; omega)
    rw [show ((pre ++ [k % 256]).length : Int) = wrap64 ((pre.length : Int) + 1) by simp; unfold wrap64; omega, List.append_assoc] at ih'
    have e : (k + 1 + (xs.length : Int)) = k + ((x :: xs).length : Int) := by simp; omega
    rw [e] at ih'
    rw [show mkB k (x :: xs) = k % 256 :: mkB (k + 1) xs from rfl]
    exact Ev.step (fun K => by simp only [laws_heldByteS.l0]; rw [if_pos (by simp [mkB_len]; omega), rd_mid, if_pos rfl, show wrap64 (k + 1) = k + 1 by unfold wrap64; omega]; rfl) ih'
theorem heldByteS_ev (l : List Int) (k : Int) (h0 : 0 ≤ k) (h1 : k + l.length ≤ 4611686018427387904) : Ev (fun K => laws_heldByteS.f K (mkB k l) k) (k + l.length) :=
  heldB_loop l [] k h0 h1 (by simp; omega)

/-! ### laws_markPendS: a text by hand -/
-- needs laws_markByteS.f
def laws_markPendS.l0 : Nat → List (S60) → Int → Int → Option (Int × List (S60))
  | 0, _, _, _ => none
  | k + 1, x0, x1, x5 => if x5 < (x0.length : Int) then (if 0 ≤ x5 then ((laws_markByteS.f k (rd_T60 x0 x5).f1 (wrap64 (x1 + 1))).bind fun b => laws_markPendS.l0 k (x0.set (x5 : Int).toNat (⟨x1, b.2⟩ : S60)) b.1 (wrap64 (x5 + 1))) else none) else some (x1, x0)
def laws_markPendS.f (k : Nat) (l0 : List (S60)) (a1 : Int) : Option (Int × List (S60)) := laws_markPendS.l0 k l0 a1 0
theorem pend_inner {W : World} {base g n cap : Nat} {ok : Nat → Prop} {xs : List S60} (h : Kd.S k60 60 W base ok (.slice (some ⟨g, 0, none⟩) n cap) xs) (i : Int) (h0 : 0 ≤ i) (h1 : i < xs.length) :
    ∃ (vd : Value) (oki : Nat → Prop), W.cell? ⟨g, i.toNat * 2 + 1, none⟩ = some vd ∧ Kd.R (Kd.int .u8) 5 W base oki vd (rd_T60 xs i).f1 ∧ (∀ k, oki k → ok k ∧ k ≠ g) ∧
      ∀ (W' : World) (l' : List Int) (ok' : Nat → Prop), (∀ k, k < W.heap.size → ¬ (some k = vd.ownBlock) → W'.heap[k]? = W.heap[k]?) → Kd.R (Kd.int .u8) 5 W' base ok' vd l' →
        Kd.S k60 60 W' base ok (.slice (some ⟨g, 0, none⟩) n cap) (xs.set i.toNat ⟨(rd_T60 xs i).f0, l'⟩) := by
  have hn := (Kd.S_reads' h).1
  obtain ⟨oki, c, hcl, hM, hcc, _, hoki, hH⟩ := Kd.S_elem h z60 i h0 (by omega)
  obtain ⟨vd, rfl, gd⟩ := k60_openM hM
  refine ⟨vd, oki, hcc 1 _ rfl, gd, hoki, fun W' l' ok' hk hR => ?_⟩
  have hH' := Kd.H_step hH (w1 := W') (fun k _ hn hlt => hk k hlt (fun he => hn (gd.1 k he.symm)))
  exact Kd.H_back hH' (k60_mkM W' base oki ⟨(rd_T60 xs i).f0, l'⟩ (Kd.R_reok rfl hR (fun k hk => gd.1 k hk))) (fun _ hk => hk)
theorem rdset {xs : List S60} {i : Int} {x : S60} (h0 : 0 ≤ i) (h1 : i < xs.length) : rd_T60 (xs.set i.toNat x) i = x := by
  unfold rd_T60
  rw [List.getD_eq_getElem?_getD, List.getElem?_set_self (by omega)]
  rfl
set_option maxHeartbeats 8000000 in
set_option maxRecDepth 100000 in
theorem laws_markPendS.calls (k : Nat) (P0_ : Nat → Prop) (u9000_ : Value) (l0 : List (S60)) (a1 : Int) (r1 : Int) (r2 : List (S60)) (w0 w : World) (hB : Below w0.heap.size w0 w) (ho0 : Kd.S k60 60 w w0.heap.size P0_ u9000_ l0) (h : laws_markPendS.f k l0 a1 = some (r1, r2)) :
    Calls Try.prog 38 #[u9000_, .int .i64 a1] w fun e w' => e = .returned (.int .i64 r1) ∧ Kd.S k60 60 w' w0.heap.size (fun k_ => (P0_ k_ ∨ w.heap.size ≤ k_)) u9000_ r2 ∧ Below w0.heap.size w0 w' ∧ Kept w w' (fun k_ => P0_ k_) := by
  have HO0 := Aside0.mk (show Kd.S k60 60 w w0.heap.size (fun k_ => (P0_ k_ ∨ w.heap.size ≤ k_)) u9000_ l0 from Kd.S_mono ho0 (fun k_ hk => (.inl hk)))
  have HK := Aside0.mk (Kept.refl w (fun k_ => P0_ k_))
  have HW0 := Aside0.mk hB.size
  have HB := Aside0.mk hB
  clear hB
  have H : (laws_markPendS.l0 k l0 a1 0) = some (r1, r2) := h
  clear h
  have H' := Aside0.mk H
  clear H
  go_enter Try.func38, Try.ntmps38
  go_wp2
  go_loopg [1, 5] k (fun kq v1 v5 w' => ∃ (x0_1 : List (S60)) (x1_1 : Int) (x5_1 : Int), v1 = .int .i64 x1_1 ∧ v5 = .int .i64 x5_1 ∧ Aside0 (laws_markPendS.l0 kq x0_1 x1_1 x5_1 = some (r1, r2)) ∧ Aside0 (kq ≤ k) ∧ Aside0 (Kd.S k60 60 w' w0.heap.size (fun k_ => (P0_ k_ ∨ w.heap.size ≤ k_)) u9000_ x0_1) ∧ Aside0 (Kept w w' (fun k_ => P0_ k_)) ∧ Aside0 (Below w0.heap.size w0 w'))
  case atStart => exact ⟨(l0), (a1), (0), (by first | rfl | (simp; done) | (simp [*]; done)), (by first | rfl | (simp; done) | (simp [*]; done)), H', ⟨Nat.le_refl _⟩, ⟨by (with_reducible repeat (first | apply Kd.S_alloc | apply Kd.S_drewN | apply Kd.S_drew)); exact HO0.out⟩, ⟨by repeat (first | (with_reducible first | exact HK.out | apply Kept.alloc | apply Kept.drewN | apply Kept.drew) | exact HK.out)⟩, ⟨by repeat (first | (with_reducible first | exact HB.out | apply below_alloc | apply pw_below_drewN | apply below_drew1) | exact HB.out)⟩⟩
  case round =>
    clear H'
    try clear p2
    obtain ⟨x0_1, x1_1, x5_1, rfl, rfl, HA, HK1, HO_0, HK, HB⟩ := hrel
    cases gk with
    | zero => exact absurd HA.out (by simp [laws_markPendS.l0])
    | succ k1 =>
      have H := HA.out
      clear HA
      simp only [laws_markPendS.l0] at H
      by_cases c3 : x5_1 < (x0_1.length : Int)
      · rw [if_pos c3] at H
        have c3b0 : decide (x5_1 < (x0_1.length : Int)) = true := decide_eq_true c3
        clear c3
        by_cases c4 : 0 ≤ x5_1
        · rw [if_pos c4] at H
          have c4b0 : decide (0 ≤ x5_1) = true := decide_eq_true c4
          clear c4
          replace H := Option.bind_eq_some_iff.mp H
          obtain ⟨⟨b1, b2⟩, HM0, H⟩ := H
          replace H : laws_markPendS.l0 k1 (x0_1.set (x5_1 : Int).toNat (⟨x1_1, b2⟩ : S60)) b1 (wrap64 (x5_1 + 1)) = some (r1, r2) := H
          have HM := Aside0.mk HM0
          clear HM0
          obtain ⟨y128, hy128⟩ : ∃ y_ : List (S60), y_ = (x0_1.set (x5_1 : Int).toNat (⟨x1_1, (rd_T60 x0_1 x5_1).f1⟩ : S60)) := ⟨_, rfl⟩
          have Ny128 := Aside0.mk hy128
          clear hy128
          have H' := Aside0.mk H
          clear H
          obtain ⟨Ao6, co6, eo6⟩ := Kd.S_slice HO_0.out
          subst eo6
          have p5 : 0 ≤ (x5_1 : Int) := of_decide_eq_true (by first | (with_reducible assumption) | assumption)
          have q5 : (x5_1 : Int) < ((x0_1.length : Int) : Int) := of_decide_eq_true (by first | (with_reducible assumption) | assumption)
          obtain ⟨go5, co5, eo5, gb5, gl5, cl5, HG5⟩ := Kd.S_form HO_0.out (by omega)
          (first | cases eo5 | (injection eo5 with ea_ en_ ec_; (first | subst ea_ | (injection ea_ with ea_; subst ea_)); subst ec_; clear en_))
          have GB5 := Aside0.mk gb5
          have GG5 := Aside0.mk HG5
          clear gb5 gl5 HG5
          have HMgo5 := Aside0.mk (show (P0_ go5 ∨ w.heap.size ≤ go5) from ((Kd.S_R HO_0.out).1 _ rfl))
          obtain ⟨_, ce5, hcl5, hM5, hcc5, hfr5, _, _⟩ := Kd.S_elem HO_0.out z60 (x5_1 : Int) p5 q5
          obtain ⟨ve5_1, rfl, ge5_1⟩ := k60_openM hM5
          have hx5_0 : wr.cell? ⟨go5, (x5_1 : Int).toNat * 2, none⟩ = some (.int .i64 ((rd_T60 x0_1 x5_1).f0)) := hcc5 0 _ rfl
          have hx5_1 : wr.cell? ⟨go5, (x5_1 : Int).toNat * 2 + 1, none⟩ = some (ve5_1) := hcc5 1 _ rfl
          have hf5_0 : wr.frozen? ⟨go5, (x5_1 : Int).toNat * 2, none⟩ = false := hfr5 0
          have hf5_1 : wr.frozen? ⟨go5, (x5_1 : Int).toNat * 2 + 1, none⟩ = false := hfr5 1
          clear hcl5 hcc5 hfr5 hM5
          replace p5 := eq_true p5
          replace q5 := eq_true q5
          have HX7 := Aside0.mk (show Kd.S k60 60 wr w0.heap.size (fun k_ => ((fun k_ => (P0_ k_ ∨ w.heap.size ≤ k_))) k_ ∧ ¬ ((fun _ => False)) k_) (.slice (some ⟨go5, 0, none⟩) x0_1.length co6) x0_1 from (by (with_reducible repeat (first | apply Kd.S_alloc | apply Kd.S_drewN | apply Kd.S_drew)); exact Kd.S_mono HO_0.out (fun k_ hk => ⟨hk, fun e_ => e_⟩)))
          obtain ⟨oki7, ce7, hcl7, hM7, hcc7, hfr7, hoki7, hH7⟩ := Kd.S_elem HX7.out z60 (x5_1 : Int) (of_decide_eq_true (by first | (with_reducible assumption) | assumption)) (by have h_ : (x5_1 : Int) < ((x0_1.length : Int) : Int) := of_decide_eq_true (by first | (with_reducible assumption) | assumption); first | exact h_ | (have e_ := (Kd.S_reads' HO_0.out).1; omega) | simpa using h_)
          obtain ⟨ve7_1, rfl, ge7_1⟩ := k60_openM hM7
          have HP7 := Kd.S_seg hH7 (of_decide_eq_true (by first | (with_reducible assumption) | assumption)) (by have h_ : (x5_1 : Int) < ((x0_1.length : Int) : Int) := of_decide_eq_true (by first | (with_reducible assumption) | assumption); first | exact h_ | (have e_ := (Kd.S_reads' HO_0.out).1; omega) | simpa using h_) (seg := [.int .i64 x1_1]) (j := 0) (show 1 ≤ 2 from by decide) (x' := (⟨x1_1, (rd_T60 x0_1 x5_1).f1⟩ : S60)) (k60_mkM _ _ _ (⟨x1_1, (rd_T60 x0_1 x5_1).f1⟩ : S60) (Kd.R_mono ge7_1 (fun _ h_ => Or.inl h_))) (fun _ hk => hk) (fun k_ hk_ => hk_.elim)
          have hx7_0 := hcc7 0 _ rfl
          (try simp only [show (k60).sz = 2 from rfl, Nat.mul_one, Nat.add_zero] at hx7_0)
          have hf7_0 := hfr7 0
          (try simp only [show (k60).sz = 2 from rfl, Nat.mul_one, Nat.add_zero] at hf7_0)
          clear hcl7 hcc7 hfr7 hM7 hoki7 hH7
          go_wp2_with (first | ((with_reducible refine gate_store (t := 2) (p := 16) rfl ?_); refine store_event (t := 2) (p := 16) (v := ?vo_w8) (w1 := (wr.setCell ⟨go5, (x5_1 : Int).toNat * 2, none⟩ (.int .i64 x1_1))) ?hg ?ho ?hn ?hr ?_; (case ho => rfl); (case hg => rfl); (case hn => rfl); (case hr => first | (go_simp; done) | (go_simp; rfl)); intro w8 hw; have hg : wr.grownBy w8 (some go5) := (by rw [hw]; exact HP7.2); have hp_ : Kd.S k60 60 w8 w0.heap.size (fun k_ => (P0_ k_ ∨ w.heap.size ≤ k_)) (.slice (some ⟨go5, 0, none⟩) x0_1.length co6) y128 := (by rw [hw, Ny128.out]; exact HP7.1); clear HP7; have n0_ := Aside0.mk (hp_); have n1_ := Aside0.mk ((by rw [hw]; exact below_set (HB.out) GB5.out : Below w0.heap.size w0 w8)); have n2_ := Aside0.mk (Kept.of_grown (S := (fun k_ => P0_ k_)) hg (by repeat (first | (with_reducible first | exact HK.out | apply Kept.alloc | apply Kept.drewN | apply Kept.drew) | exact HK.out)) (fun k_ e_ => ((Kd.S_R HO_0.out).1 k_ e_))); clear HO_0; clear HB; clear HK; have HO_0 := n0_; have HB := n1_; have HK := n2_; clear n0_ n1_ n2_; clear hg hw hp_; (have ex0 := Aside0.mk (show rd_T60 y128 x5_1 = ⟨x1_1, (rd_T60 x0_1 x5_1).f1⟩ from by rw [Ny128.out]; exact rdset (of_decide_eq_true c4b0) (of_decide_eq_true c3b0))); (have hl_ : x0_1.length = y128.length := by rw [Ny128.out, List.length_set]); (obtain ⟨vd, oki, hx8, gd, hoki, hback⟩ := pend_inner HO_0.out x5_1 (of_decide_eq_true c4b0) (by have := of_decide_eq_true c3b0; omega)); clear hl_))
          rw [ex0.out] at gd
          refine (laws_markByteS.calls k1 (fun k_ => some k_ = vd.ownBlock) vd _ _ b1 b2 w0 w8 HB.out (Kd.R_tight rfl gd) HM.out).mono ?_
          rintro e w9 ⟨rfl, hR, hB9, hK9⟩
          have n0_ := Aside0.mk hB9
          have n1_ := Aside0.mk (show Kept w w9 (fun k_ => P0_ k_) from ⟨Nat.le_trans HK.out.1 hK9.1, fun j hj hn => (hK9.2 j (Nat.lt_of_lt_of_le hj HK.out.1) (fun he => ((hoki j (gd.1 j he.symm)).1).elim hn (fun h2 => absurd h2 (Nat.not_le.2 hj)))).trans (HK.out.2 j hj hn)⟩)
          have hS := hback w9 b2 _ (fun k hlt hn => hK9.2 k hlt hn) hR
          rw [ex0.out, Ny128.out, List.set_set] at hS
          have n2_ := Aside0.mk hS
          clear hR hB9 hK9 hS hback hoki gd ex0 HO_0 HB HK
          have HB := n0_
          have HK := n1_
          have HO_0 := n2_
          clear n0_ n1_ n2_ HX7 Ny128

          go_wp2
          go_roundg k1
          case measure => have := HK1.out; omega
          case rel => exact ⟨_, _, _, rfl, rfl, H', ⟨by have := HK1.out; omega⟩, HO_0, HK, HB⟩
        · rw [if_neg c4] at H
          exact absurd H (by simp)
      · rw [if_neg c3] at H
        have c3b0 : decide (x5_1 < (x0_1.length : Int)) = false := decide_eq_false c3
        clear c3
        simp only [Option.some.injEq, Prod.mk.injEq] at H
        obtain ⟨rfl, rfl⟩ := H
        obtain ⟨Ao9, co9, eo9⟩ := Kd.S_slice HO_0.out
        subst eo9
        go_wp2
        go_ret
        exact ⟨by first | rfl | (simp [errW_none, errW_some] <;> rfl) | (simp [*, errW_none, errW_some] <;> rfl), by (with_reducible repeat (first | apply Kd.S_alloc | apply Kd.S_drewN | apply Kd.S_drew)); exact HO_0.out, by repeat (first | (with_reducible first | exact HB.out | apply below_alloc | apply pw_below_drewN | apply below_drew1) | exact HB.out), by repeat (first | (with_reducible first | exact HK.out | apply Kept.alloc | apply Kept.drewN | apply Kept.drew) | exact HK.out)⟩

/-! ### L_markDisk: a text by hand -/
-- needs laws_szPendS.f laws_heldDisk.f laws_markByteS.f
def mkP : Int → List S60 → Int × List S60
  | k, [] => (k, [])
  | k, x :: xs => ((mkP (k + 1 + x.f1.length) xs).1, ⟨k, mkB (k + 1) x.f1⟩ :: (mkP (k + 1 + x.f1.length) xs).2)
theorem mkP_bd (l : List S60) (hl : ∀ x ∈ l, x.f1.length ≤ 1048576) : ∀ k : Int, k ≤ (mkP k l).1 ∧ (mkP k l).1 ≤ k + 1048577 * l.length := by
  induction l with
  | nil => intro k; simp [mkP]
  | cons x xs ih =>
    intro k
    have h := ih (fun y hy => hl y (List.mem_cons_of_mem _ hy)) (k + 1 + x.f1.length)
    have hx := hl x List.mem_cons_self
    simp only [mkP, List.length_cons]
    omega
theorem mkP_len (k : Int) (l : List S60) : (mkP k l).2.length = l.length := by induction l generalizing k with
  | nil => rfl
  | cons x xs ih => simp [mkP, ih]
theorem rd_midP (pre : List S60) (x : S60) (rest : List S60) : rd_T60 (pre ++ x :: rest) (pre.length : Int) = x := by unfold rd_T60; rw [Int.toNat_natCast, List.getD_eq_getElem?_getD, List.getElem?_append_right (Nat.le_refl _)]; simp
theorem markP_loop (rest : List S60) (hl : ∀ x ∈ rest, x.f1.length ≤ 1048576) : ∀ (pre : List S60) (k : Int), 0 ≤ k → k + 1048577 * rest.length ≤ 4611686018427387904 → pre.length + rest.length ≤ 4611686018427387904 →
    Ev (fun K => laws_markPendS.l0 K (pre ++ rest) k (pre.length : Int)) ((mkP k rest).1, pre ++ (mkP k rest).2) := by
  induction rest with
  | nil => intro pre k _ _ _; exact Ev.step (fun K => by simp only [laws_markPendS.l0]; rw [if_neg (by simp)]) (by simpa [mkP] using Ev.now _)
  | cons x xs ih =>
    intro pre k h0 h1 h2
    have hx := hl x List.mem_cons_self
    simp only [List.length_cons] at h1 h2
    have ih' := ih (fun y hy => hl y (List.mem_cons_of_mem _ hy)) (pre ++ [⟨k, mkB (k + 1) x.f1⟩]) (k + 1 + x.f1.length) (by omega) (by omega) (by simp; omega)
    rw [show ((pre ++ [(⟨k, mkB (k + 1) x.f1⟩ : S60)]).length : Int) = wrap64 ((pre.length : Int) + 1) by simp; unfold wrap64; omega] at ih'
    have e : ((mkP (k + 1 + x.f1.length) xs).1, pre ++ [(⟨k, mkB (k + 1) x.f1⟩ : S60)] ++ (mkP (k + 1 + x.f1.length) xs).2) = ((mkP k (x :: xs)).1, pre ++ (mkP k (x :: xs)).2) := by simp [mkP]
    rw [e] at ih'
    refine Ev.step (fun K => by simp only [laws_markPendS.l0]; rw [if_pos (by simp; omega), if_pos (by omega), rd_midP, show wrap64 (k + 1) = k + 1 by unfold wrap64; omega]) (Ev.bind (markByteS_ev x.f1 (k + 1) (by omega) (by omega)) ?_)
    exact Ev.congr (fun K => by rw [set_mid]) ih'
theorem markPendS_ev (l : List S60) (hl : ∀ x ∈ l, x.f1.length ≤ 1048576) (k : Int) (h0 : 0 ≤ k) (h1 : k + 1048577 * l.length ≤ 4611686018427387904) : Ev (fun K => laws_markPendS.f K l k) (mkP k l) :=
  markP_loop l hl [] k h0 h1 (by simp; omega)
theorem heldP_loop (rest : List S60) (hl : ∀ x ∈ rest, x.f1.length ≤ 1048576) : ∀ (pre : List S60) (k : Int), 0 ≤ k → k + 1048577 * rest.length ≤ 4611686018427387904 → pre.length + rest.length ≤ 4611686018427387904 →
    Ev (fun K => laws_heldPendS.l0 K (pre ++ (mkP k rest).2) k (pre.length : Int)) (mkP k rest).1 := by
  induction rest with
  | nil => intro pre k _ _ _; exact Ev.step (fun K => by simp only [laws_heldPendS.l0]; rw [if_neg (by simp [mkP])]) (by simpa [mkP] using Ev.now _)
  | cons x xs ih =>
    intro pre k h0 h1 h2
    have hx := hl x List.mem_cons_self
    simp only [List.length_cons] at h1 h2
    have ih' := ih (fun y hy => hl y (List.mem_cons_of_mem _ hy)) (pre ++ [⟨k, mkB (k + 1) x.f1⟩]) (k + 1 + x.f1.length) (by omega) (by omega) (by simp; omega)
    rw [show ((pre ++ [(⟨k, mkB (k + 1) x.f1⟩ : S60)]).length : Int) = wrap64 ((pre.length : Int) + 1) by simp; unfold wrap64; omega, List.append_assoc] at ih'
    have hb := heldByteS_ev x.f1 (k + 1) (by omega) (by omega)
    rw [show (mkP k (x :: xs)).2 = ⟨k, mkB (k + 1) x.f1⟩ :: (mkP (k + 1 + x.f1.length) xs).2 from rfl, show (mkP k (x :: xs)).1 = (mkP (k + 1 + x.f1.length) xs).1 from rfl]
    refine Ev.step (fun K => by simp only [laws_heldPendS.l0]; rw [if_pos (by simp [mkP_len]; omega), rd_midP, if_pos rfl, show wrap64 (k + 1) = k + 1 by unfold wrap64; omega, if_pos (by omega)]) (Ev.bind hb ?_)
    exact Ev.congr (fun K => by rw [if_neg (by omega)]; rfl) ih'
theorem heldPendS_ev (l : List S60) (hl : ∀ x ∈ l, x.f1.length ≤ 1048576) (k : Int) (h0 : 0 ≤ k) (h1 : k + 1048577 * l.length ≤ 4611686018427387904) : Ev (fun K => laws_heldPendS.f K (mkP k l).2 k) (mkP k l).1 :=
  heldP_loop l hl [] k h0 h1 (by simp; omega)
theorem heldDisk_ev (l0 : List Int) (l1 : List S60) (a2 : Int) (a3 : Bool) (h0 : l0.length ≤ 1048576) (hl : okPendS l1) : Ev (fun K => laws_heldDisk.f K (mkB 1 l0) (mkP (1 + l0.length) l1).2 a2 a3 1) (mkP (1 + l0.length) l1).1 := by
  have h1 := hl.1
  have hb := mkP_bd l1 hl.2 (1 + l0.length)
  unfold laws_heldDisk.f
  refine Ev.bind (heldByteS_ev l0 1 (by omega) (by omega)) ?_
  refine Ev.congr (fun K => by rw [if_neg (by omega)]) (Ev.bind (heldPendS_ev l1 hl.2 _ (by omega) (by omega)) ?_)
  exact Ev.congr (fun K => by rw [if_neg (by omega)]) (Ev.now _)

/-! ### L_specSync: a text by hand -/
-- needs spec_DiskSync.f impl_ValidDisk.f syF
theorem specCopy_loop (l0 : List Int) (l1 : List S60) (a2 : Int) (a3 : Bool) (hok : okPendS l1) : ∀ (d i : Nat), i + d = l1.length → Ev (fun k => spec_l1Copy.l0 k (i : Int) l0 l1 a2 a3 l0 (l1.take i) a2 a3) (l0, l1, a2, a3) := by
  intro d
  induction d with
  | zero =>
    intro i hi
    rw [List.take_of_length_le (by omega)]
    exact Ev.step (fun K => by simp only [spec_l1Copy.l0]; rw [if_neg (by omega)]) (Ev.now _)
  | succ d ih =>
    intro i hi
    have ih' := ih (i + 1) (by omega)
    have h1 := hok.1
    have hx := hok.2 _ (rdP_mem l1 i (by omega))
    have ew : wrap64 ((i : Int) + 1) = ((i + 1 : Nat) : Int) := by unfold wrap64; omega
    have hp : l1.take (i + 1) = l1.take i ++ [rd_T60 l1 (i : Int)] := by
      unfold rd_T60
      rw [List.take_succ_eq_append_getElem (by omega), Int.toNat_natCast, List.getD_eq_getElem?_getD, List.getElem?_eq_getElem (by omega)]
      rfl
    rw [hp] at ih'
    exact Ev.step (fun K => by
      simp only [spec_l1Copy.l0]
      rw [if_pos (by omega), if_pos (by omega), Option.bind_some, if_pos (by simp; omega), if_pos (by rw [List.length_take]; omega), ew, List.nil_append]) ih'
theorem specCopy_ev (l0 : List Int) (l1 : List S60) (a2 : Int) (a3 : Bool) (h0 : l0.length ≤ 1048576) (hok : okPendS l1) : Ev (fun k => spec_l1Copy.f k l0 l1 a2 a3) (l0, l1, a2, a3) := by
  unfold spec_l1Copy.f
  exact Ev.congr (fun K => by rw [Option.bind_some, if_pos (by rw [List.length_nil]; omega), List.nil_append]; rfl) (specCopy_loop l0 l1 a2 a3 hok l1.length 0 (by omega))
theorem specStep_ev (l0 : List Int) (l1 : List S60) (a2 : Int) (a3 : Bool) (h0 : l0.length ≤ 1048576) (hok : okPendS l1) (hf : -1 ≤ a2) (hf2 : a2 ≤ 1000000) : Ev (fun k => spec_l1Step.f k l0 l1 a2 a3) (if a2 = 0 then (l0, l1, 0, true) else (l0, l1, fuelD a2, a3)) := by
  unfold spec_l1Step.f
  refine Ev.bind (specCopy_ev l0 l1 a2 a3 h0 hok) ?_
  by_cases c : a2 = 0
  · subst c
    exact Ev.congr (fun K => by rw [if_pos rfl, if_pos rfl]) (Ev.now _)
  · rw [if_neg c]
    unfold fuelD
    by_cases c2 : a2 > 0
    · rw [if_pos (show 0 < a2 from c2)]
      exact Ev.congr (fun K => by rw [if_neg c, if_pos c2, show wrap64 (a2 - 1) = a2 - 1 by unfold wrap64; omega]) (Ev.now _)
    · rw [if_neg (show ¬ 0 < a2 from c2)]
      exact Ev.congr (fun K => by rw [if_neg c, if_neg c2]) (Ev.now _)
theorem specSync_loop (l0 : List Int) (l1 : List S60) (a2 : Int) (a3 : Bool) (x1 : List S60) (f : Int) (h2 : l0.length ≤ 65599) (h3 : l1.length ≤ 2000) (h : ∀ x ∈ l1, 0 ≤ x.f0 ∧ x.f0 < ((l0.length / 64 : Nat) : Int) ∧ x.f1.length = 64) :
    ∀ (d i : Nat), i + d = l1.length → Ev (fun k => spec_DiskSync.l0 k (i : Int) l0 l1 a2 a3 (syF l0 l1 i) x1 f a3) (syF l0 l1 l1.length, ([] : List S60), f, a3) := by
  intro d
  induction d with
  | zero => intro i hi; obtain rfl : i = l1.length := by omega
            exact Ev.step (fun K => by simp only [spec_DiskSync.l0]; rw [if_neg (by omega)]) (Ev.now _)
  | succ d ih =>
    intro i hi
    have ih' := ih (i + 1) (by omega)
    have hx := h _ (rdP_mem l1 i (by omega))
    have hl := syF_len l0 l1 h i (by omega)
    have ew : wrap64 ((i : Int) + 1) = ((i + 1 : Nat) : Int) := by unfold wrap64; omega
    have hn : syF l0 l1 (i + 1) = ovr (syF l0 l1 i) (rd_T60 l1 (i : Int)).f0 (rd_T60 l1 (i : Int)).f1 := rfl
    rw [hn] at ih'
    have ho := over_eq (syF l0 l1 i) (rd_T60 l1 (i : Int)).f0 (rd_T60 l1 (i : Int)).f1 hx.1 (by rw [hl, hx.2.2]; omega) (by omega)
    exact Ev.step (fun K => by simp only [spec_DiskSync.l0]; rw [if_pos (by omega), if_pos (by omega), ho, Option.bind_some, ew]) ih'
theorem specSync_ev (l0 : List Int) (l1 : List S60) (a2 : Int) (a3 : Bool) (h0 : l0.length ≤ 1048576) (hok : okPendS l1) : Ev (fun k => spec_DiskSync.f k l0 l1 a2 a3) (dSync l0 l1 a2 a3) := by
  have hj : Ev (fun k => spec_DiskSync.j0 k true l0 l1 a2 a3) (l0, l1, a2, a3) := Ev.step (fun K => by simp only [spec_DiskSync.j0]; rw [if_true]) (Ev.bind (specCopy_ev l0 l1 a2 a3 h0 hok) (Ev.now _))
  unfold spec_DiskSync.f dSync
  refine Ev.bind (specValid_ev l0 l1 a2 a3 h0 hok.1) ?_
  by_cases cv : vD l0 l1 a2 = true
  case neg =>
    have cv' : vD l0 l1 a2 = false := by simpa using cv
    rw [cv', Bool.false_and, if_neg (by decide)]
    exact Ev.congr (fun K => by rw [if_neg (by decide)]) hj
  obtain ⟨f1, f2, f3, f4, f5, f6, f7⟩ := vD_facts cv
  rw [cv, Bool.true_and]
  refine Ev.congr (fun K => by rw [if_pos rfl]) ?_
  cases a3 with
  | true => exact hj
  | false =>
    rw [Bool.not_false, if_pos rfl]
    have hs := specStep_ev l0 l1 a2 false h0 hok f5 f6
    refine Ev.step (fun K => by simp only [spec_DiskSync.j0]; rw [if_neg (by decide)]) (Ev.bind hs ?_)
    by_cases c : a2 = 0
    · rw [if_pos c, if_pos c]
      exact Ev.congr (fun K => by rw [if_pos rfl]) (Ev.now _)
    · rw [if_neg c, if_neg c]
      exact Ev.congr (fun K => by rw [if_neg (by simp)]; rfl) (specSync_loop l0 l1 a2 false l1 (fuelD a2) f3 f4 f7 l1.length 0 (by omega))

/-! ### laws_markDisk: a text by hand -/
-- needs laws_markByteS.f
set_option maxHeartbeats 1000000 in
set_option maxRecDepth 100000 in
theorem laws_markDisk.calls (k1 k2 : Nat) (P0 P1 : Nat → Prop) (v0 v1 : Value) (l0 : List Int) (l1 : List S60) (a2 : Int) (a3 : Bool) (a1 b1 : Int) (b2 : List Int) (r1 : Int) (r2 : List S60) (w0 w : World)
    (hB : Below w0.heap.size w0 w) (ho0 : Kd.R (Kd.int .u8) 5 w w0.heap.size P0 v0 l0) (ho1 : Kd.S k60 60 w w0.heap.size P1 v1 l1) (hp : ∀ k, P0 k → ¬ P1 k)
    (h1 : laws_markByteS.f k1 l0 a1 = some (b1, b2)) (h2 : laws_markPendS.f k2 l1 b1 = some (r1, r2)) :
    Calls Try.prog 13 #[.agg #[v0, v1, .int .i64 a2, .bool a3], .int .i64 a1] w fun e w' => e = .returned (.int .i64 r1) ∧ Kd.R (Kd.int .u8) 5 w' w0.heap.size P0 v0 b2 ∧
      Kd.S k60 60 w' w0.heap.size (fun k => P1 k ∨ w.heap.size ≤ k) v1 r2 ∧ Below w0.heap.size w0 w' ∧ Kept w w' (fun k => P0 k ∨ P1 k) := by
  have H1 := Aside0.mk h1
  have H2 := Aside0.mk h2
  have HB := Aside0.mk hB
  have HO0 := Aside0.mk ho0
  have HO1 := Aside0.mk ho1
  have HP := Aside0.mk hp
  clear h1 h2 hB ho0 ho1 hp
  have hu := Try.underlying25
  obtain ⟨A0, c0, rfl⟩ := Kd.R_slice HO0.out
  obtain ⟨A1, c1, rfl⟩ := Kd.S_slice HO1.out
  go_enter Try.func13, Try.ntmps13
  go_wp2_with fail
  have hlt0 := Kd.R_lt HO0.out
  have hS1 := Kd.S_mono (ok' := fun k => P1 k ∧ k < w.heap.size) (Kd.S_bound HO1.out) (fun k hk => ⟨hk.1, hk.2.2.1⟩)
  refine (laws_markByteS.calls k1 (fun k => some k = (Value.slice A0 l0.length c0).ownBlock) _ _ _ b1 b2 w0 _ (below_allocB HB.out HB.out.size _) (Kd.R_alloc (Kd.R_tight rfl HO0.out) _) H1.out).mono ?_
  rintro e w1 ⟨rfl, hR, hB1, hK1⟩
  have G0 := blk_kept (blk_new w _) hK1 (fun he => absurd (hlt0 _ he.symm) (Nat.lt_irrefl _))
  have hx := blk_cell G0 1
  have hx1 : w1.cell? ⟨w.heap.size, 1, none⟩ = some (.slice A1 l1.length c1) := hx.trans rfl
  clear hx
  have hR' := Aside0.mk (Kd.R_reok rfl hR (fun k hk => HO0.out.1 k hk))
  have hS' := Aside0.mk (Kd.S_kept (Kd.S_alloc hS1 _) hK1 (fun k hk he => HP.out k (HO0.out.1 k he.symm) hk.1))
  have hz1 := Aside0.mk hK1.1
  have HK1 := Aside0.mk (show Kept w w1 (fun k => P0 k ∨ P1 k) from (Kept.alloc (Kept.refl w _) _).then_ hK1 (fun k hk => .inl (.inl (HO0.out.1 k hk.symm))))
  have HB1 := Aside0.mk hB1
  clear hR hB1 hK1 G0 hlt0 hS1
  go_wp2_with fail
  refine (laws_markPendS.calls k2 (fun k => P1 k ∧ k < w.heap.size) _ _ _ r1 r2 w0 _ HB1.out hS'.out H2.out).mono ?_
  rintro e w2 ⟨rfl, hS, hB2, hK2⟩
  have n0 := Aside0.mk (Kd.R_kept hR'.out hK2 (fun k hk he => HP.out k hk he.1))
  have n1 := Aside0.mk (Kd.S_mono (ok' := fun k => P1 k ∨ w.heap.size ≤ k) hS (fun k hk => hk.imp (fun h => h.1) (fun h => by have := HK1.out.1; omega)))
  have n2 := Aside0.mk hB2
  have n3 := Aside0.mk (HK1.out.then_ hK2 (fun k hk => .inl (.inr hk.1)))
  clear hS hB2 hK2
  go_wp2
  go_ret
  exact ⟨rfl, n0.out, n1.out, n2.out, n3.out⟩

/-! ### laws_markDisk2: a text by hand -/
-- needs laws_markByteS.f
theorem laws_markByteS.own (k lo hi : Nat) (v : Value) (l : List Int) (m0 m1 : Int) (l' : List Int) (w0 w : World) {ok : Nat → Prop} (hle : w0.heap.size ≤ lo) (hB : Below w0.heap.size w0 w)
    (ho : Kd.R (Kd.int .u8) 5 w w0.heap.size (fun k => (lo ≤ k ∧ k < hi) ∧ ok k) v l) (h : laws_markByteS.f k l m0 = some (m1, l')) :
    Calls Try.prog 22 #[v, .int .i64 m0] w fun e w' => e = .returned (.int .i64 m1) ∧ Kd.R (Kd.int .u8) 5 w' w0.heap.size (fun k => (lo ≤ k ∧ k < hi) ∧ ok k) v l' ∧ Below w0.heap.size w0 w' ∧ Kept w w' (fun k => lo ≤ k ∧ k < hi) :=
  (laws_markByteS.calls k (fun k => (lo ≤ k ∧ k < hi) ∧ ok k) v l m0 m1 l' w0 w hB ho h).mono fun e w' hh => ⟨hh.1, Kd.R_reok rfl hh.2.1 (fun k hk => ho.1 k hk), hh.2.2.1, hh.2.2.2.mono (fun k hk => hk.1)⟩
theorem laws_markDisk.own (k1 k2 lo hi : Nat) (v0 v1 : Value) (a2 : Int) (a3 : Bool) (l0 : List Int) (l1 : List S60) (m0 m1 m2 : Int) (l0' : List Int) (l1' : List S60) (w0 w : World) {ok0 : Nat → Prop} (hle : w0.heap.size ≤ lo) (hB : Below w0.heap.size w0 w)
    (ho0 : Kd.R (Kd.int .u8) 5 w w0.heap.size (fun k => (lo ≤ k ∧ k < hi) ∧ ok0 k) v0 l0) (ho1 : Kd.S k60 60 w w0.heap.size (fun k => (lo ≤ k ∧ k < hi) ∧ some k ≠ v0.ownBlock) v1 l1)
    (h1 : laws_markByteS.f k1 l0 m0 = some (m1, l0')) (h2 : laws_markPendS.f k2 l1 m1 = some (m2, l1')) :
    Calls Try.prog 13 #[.agg #[v0, v1, .int .i64 a2, .bool a3], .int .i64 m0] w fun e w' => e = .returned (.int .i64 m2) ∧ Kd.R (Kd.int .u8) 5 w' w0.heap.size (fun k => (lo ≤ k ∧ k < hi) ∧ some k = v0.ownBlock) v0 l0' ∧
      Kd.S k60 60 w' w0.heap.size (fun k => ((lo ≤ k ∧ k < hi) ∧ some k ≠ v0.ownBlock) ∨ w.heap.size ≤ k) v1 l1' ∧ Below w0.heap.size w0 w' ∧ Kept w w' (fun k => lo ≤ k ∧ k < hi) :=
  (laws_markDisk.calls k1 k2 (fun k => (lo ≤ k ∧ k < hi) ∧ some k = v0.ownBlock) (fun k => (lo ≤ k ∧ k < hi) ∧ some k ≠ v0.ownBlock) v0 v1 l0 l1 a2 a3 m0 m1 l0' m2 l1' w0 w hB (Kd.R_reok rfl ho0 (fun k hk => ⟨(ho0.1 k hk).1, hk.symm⟩)) ho1 (fun k a b => b.2 a.2) h1 h2).mono
    fun e w' hh => ⟨hh.1, hh.2.1, hh.2.2.1, hh.2.2.2.1, hh.2.2.2.2.mono (fun k hk => hk.elim (fun h => h.1) (fun h => h.1))⟩

/-! ### zguard1_DiskSync: a text by hand -/
-- needs laws_szDisk.f
set_option maxHeartbeats 4000000 in
set_option maxRecDepth 100000 in
theorem guard1_FnExactDiskSync (A0_0 : Option Addr) (c0_0 : Nat) (l0_0 : List Int) (A0_1 : Option Addr) (c0_1 : Nat) (l0_1 : List S78) (a0_2 : Int) (a0_3 : Bool) (r1 : Int) (w : World)
    (hr0_0 : Kd.C (Kd.int .u8) w A0_0 l0_0.length l0_0) (hc0_0 : l0_0.length ≤ c0_0) (hr0_1 : Kd.C k78 w A0_1 l0_1.length l0_1) (hc0_1 : l0_1.length ≤ c0_1)
    (E2 : Ev (fun k => laws_szDisk.f k l0_0 l0_1 a0_2 a0_3 1048576) r1) (E2p : r1 < 0) :
    Calls Try.prog 7 #[.agg #[.slice A0_0 l0_0.length c0_0, .slice A0_1 l0_1.length c0_1, .int .i64 a0_2, .bool a0_3]] w fun e w' => e = .returned (.bool true) ∧ Below w.heap.size w w' := by
  obtain ⟨k_E2, h_E2⟩ := E2.rounds
  have H_E2 := Aside0.mk h_E2
  clear E2 h_E2
  have E2pb : decide (r1 < 0) = true := decide_eq_true (by omega)
  have HR0_0 := Aside0.mk hr0_0
  have HC0_0 := Aside0.mk hc0_0
  clear hr0_0 hc0_0
  have HR0_1 := Aside0.mk hr0_1
  have HC0_1 := Aside0.mk hc0_1
  clear hr0_1 hc0_1
  have hu32 := Try.underlying32
  have HB := Aside0.mk (Below.refl w.heap.size w)
  go_enter Try.func7, Try.ntmps7
  go_wp2_with fail
  refine (laws_szDisk.calls k_E2 _ _ l0_0 _ _ l0_1 a0_2 a0_3 1048576 r1 _ (Kd.C_below HR0_0.out (below_alloc HB.out _)) HC0_0.out (Kd.C_below HR0_1.out (below_alloc HB.out _)) HC0_1.out H_E2.out).mono ?_
  rintro e w1 ⟨rfl, gb⟩
  have hz1 : w.heap.size + 1 ≤ w1.heap.size := by have := gb.size; first | omega | (simp at this; omega)
  have N_HB := Aside0.mk (below_step (below_alloc HB.out _) gb)
  have K1 := Aside0.mk (show w1.heap[w.heap.size]? = some (.cells #[.slice A0_0 l0_0.length c0_0, .slice A0_1 l0_1.length c0_1, .int .i64 a0_2, .bool a0_3] 32 (0, 0)) from by have := blk_below (blk_new _ _) gb; simpa using this)
  clear HB
  have HB := N_HB
  clear N_HB
  clear gb
  go_wp2
  go_ret
  exact ⟨rfl, by first | exact HB.out | exact below_alloc HB.out _ | exact below_alloc (below_alloc HB.out _) _ | exact below_alloc (below_alloc (below_alloc HB.out _) _) _⟩

/-! ### zwalk_DiskSync: a text by hand -/
-- needs laws_eqDisk.f laws_heldDisk.f laws_szDisk.f laws_toDisk.f m_DiskSync.f spec_DiskSync.f
set_option maxHeartbeats 4000000 in
set_option maxRecDepth 100000 in
theorem walk_FnExactDiskSync (A0_0 : Option Addr) (c0_0 : Nat) (l0_0 : List Int) (A0_1 : Option Addr) (c0_1 : Nat) (l0_1 : List S78) (a0_2 : Int) (a0_3 : Bool) (r1 : Int) (r3 : List Int) (r4 : List S60) (r5 : Int) (r6 : Bool) (r9 : List Int) (r10 : List S60) (r11 : Int) (r12 : Bool) (m21 : Int) (l22 : List Int) (m24 : Int) (l25 : List S60) (m27 : Int) (l28 : List Int) (m30 : Int) (l31 : List S60) (w : World)
    (hr0_0 : Kd.C (Kd.int .u8) w A0_0 l0_0.length l0_0) (hc0_0 : l0_0.length ≤ c0_0) (hr0_1 : Kd.C k78 w A0_1 l0_1.length l0_1) (hc0_1 : l0_1.length ≤ c0_1)
    (E2 : Ev (fun k => laws_szDisk.f k l0_0 l0_1 a0_2 a0_3 1048576) r1) (E2p : 0 ≤ r1) (E7 : Ev (fun k => laws_toDisk.f k l0_0 l0_1 a0_2 a0_3) (r3, r4, r5, r6)) (E13 : Ev (fun k => spec_DiskSync.f k r3 r4 r5 r6) (r9, r10, r11, r12)) (E16 : m_DiskSync.f r3 r4 r5 r6 = some (r9, r10, r11, r12)) (E18 : Ev (fun k => laws_eqDisk.f k r9 r10 r11 r12 r9 r10 r11 r12) true) (E20 : Ev (fun k => laws_eqDisk.f k r3 r4 r5 r6 r3 r4 r5 r6) true) (E23 : Ev (fun k => laws_markByteS.f k r3 1) (m21, l22)) (E26 : Ev (fun k => laws_markPendS.f k r4 m21) (m24, l25)) (Pm24 : 0 ≤ m24) (E29 : Ev (fun k => laws_markByteS.f k r9 1) (m27, l28)) (E32 : Ev (fun k => laws_markPendS.f k r10 m27) (m30, l31)) (Pm30 : 0 ≤ m30) (E33 : Ev (fun k => laws_heldDisk.f k l28 l31 r11 r12 1) m30) :
    Calls Try.prog 7 #[.agg #[.slice A0_0 l0_0.length c0_0, .slice A0_1 l0_1.length c0_1, .int .i64 a0_2, .bool a0_3]] w fun e w' => e = .returned (.bool true) ∧ Below w.heap.size w w' := by
  obtain ⟨k_E2, h_E2⟩ := E2.rounds
  have H_E2 := Aside0.mk h_E2
  clear E2 h_E2
  obtain ⟨k_E7, h_E7⟩ := E7.rounds
  have H_E7 := Aside0.mk h_E7
  clear E7 h_E7
  obtain ⟨k_E13, h_E13⟩ := E13.rounds
  have H_E13 := Aside0.mk h_E13
  clear E13 h_E13
  have h_E16 := E16
  have H_E16 := Aside0.mk h_E16
  clear E16 h_E16
  obtain ⟨k_E18, h_E18⟩ := E18.rounds
  have H_E18 := Aside0.mk h_E18
  clear E18 h_E18
  obtain ⟨k_E20, h_E20⟩ := E20.rounds
  have H_E20 := Aside0.mk h_E20
  clear E20 h_E20
  obtain ⟨k_E23, h_E23⟩ := E23.rounds
  have H_E23 := Aside0.mk h_E23
  clear E23 h_E23
  obtain ⟨k_E26, h_E26⟩ := E26.rounds
  have H_E26 := Aside0.mk h_E26
  clear E26 h_E26
  obtain ⟨k_E29, h_E29⟩ := E29.rounds
  have H_E29 := Aside0.mk h_E29
  clear E29 h_E29
  obtain ⟨k_E32, h_E32⟩ := E32.rounds
  have H_E32 := Aside0.mk h_E32
  clear E32 h_E32
  obtain ⟨k_E33, h_E33⟩ := E33.rounds
  have H_E33 := Aside0.mk h_E33
  clear E33 h_E33
  have E2pb : decide (r1 < 0) = false := decide_eq_false (by omega)
  have Pm24b : decide (m24 < 0) = false := decide_eq_false (by omega)
  have Pm30b : decide (m30 < 0) = false := decide_eq_false (by omega)
  have HR0_0 := Aside0.mk hr0_0
  have HC0_0 := Aside0.mk hc0_0
  clear hr0_0 hc0_0
  have HR0_1 := Aside0.mk hr0_1
  have HC0_1 := Aside0.mk hc0_1
  clear hr0_1 hc0_1
  have hu25 := Try.underlying25
  have hu32 := Try.underlying32
  have HB := Aside0.mk (Below.refl w.heap.size w)
  go_enter Try.func7, Try.ntmps7
  go_wp2_with fail
  refine (laws_szDisk.calls k_E2 _ _ l0_0 _ _ l0_1 a0_2 a0_3 1048576 r1 _ (Kd.C_below HR0_0.out (below_alloc HB.out _)) HC0_0.out (Kd.C_below HR0_1.out (below_alloc HB.out _)) HC0_1.out H_E2.out).mono ?_
  rintro e w1 ⟨rfl, gb⟩
  have hz1 : w.heap.size + 1 ≤ w1.heap.size := by have := gb.size; first | omega | (simp at this; omega)
  have N_HB := Aside0.mk (below_step (below_alloc HB.out _) gb)
  have K1 := Aside0.mk (show w1.heap[w.heap.size]? = some (.cells #[.slice A0_0 l0_0.length c0_0, .slice A0_1 l0_1.length c0_1, .int .i64 a0_2, .bool a0_3] 32 (0, 0)) from by have := blk_below (blk_new _ _) gb; simpa using this)
  clear HB
  have HB := N_HB
  clear N_HB
  clear gb
  have y1 : w.heap.size < w1.heap.size := by omega
  have z1_0 : w1.cell? ⟨w.heap.size, 0, none⟩ = some (.slice A0_0 l0_0.length c0_0) := (blk_cell K1.out 0).trans rfl
  have z1_1 : w1.cell? ⟨w.heap.size, 1, none⟩ = some (.slice A0_1 l0_1.length c0_1) := (blk_cell K1.out 1).trans rfl
  have z1_2 : w1.cell? ⟨w.heap.size, 2, none⟩ = some (.int .i64 a0_2) := (blk_cell K1.out 2).trans rfl
  have z1_3 : w1.cell? ⟨w.heap.size, 3, none⟩ = some (.bool a0_3) := (blk_cell K1.out 3).trans rfl
  go_wp2_with fail
  clear y1 z1_0 z1_1 z1_2 z1_3
  refine (laws_toDisk.calls k_E7 _ _ l0_0 _ _ l0_1 a0_2 a0_3 r3 r4 r5 r6 _ (Kd.C_below HR0_0.out HB.out) HC0_0.out (Kd.C_below HR0_1.out HB.out) HC0_1.out H_E7.out).mono ?_
  rintro e w2 ⟨q8u0, q8u1, rfl, q8g0, q8g1, gb⟩
  have q8X0 := Aside0.mk (R_iv q8g0 w.heap.size (w1.heap.size) (by have := HB.out.size; first | (simp; done) | (simp; omega) | omega) (by simp))
  clear q8g0
  obtain ⟨q8A0, q8c0, rfl⟩ := Kd.R_slice q8X0.out
  have q8X1 := Aside0.mk (S_iv q8g1 w.heap.size (w1.heap.size) (by have := HB.out.size; first | (simp; done) | (simp; omega) | omega) (by simp))
  clear q8g1
  obtain ⟨q8A1, q8c1, rfl⟩ := Kd.S_slice q8X1.out
  have hz2 : w1.heap.size + 0 ≤ w2.heap.size := by have := gb.size; first | omega | (simp at this; omega)
  have N_HB := Aside0.mk (below_step HB.out gb)
  have N_K1 := Aside0.mk (blk_below K1.out gb)
  clear HB K1
  have HB := N_HB
  have K1 := N_K1
  clear N_HB N_K1
  clear gb
  have y1 : w.heap.size < w2.heap.size := by omega
  have z1_0 : w2.cell? ⟨w.heap.size, 0, none⟩ = some (.slice A0_0 l0_0.length c0_0) := (blk_cell K1.out 0).trans rfl
  have z1_1 : w2.cell? ⟨w.heap.size, 1, none⟩ = some (.slice A0_1 l0_1.length c0_1) := (blk_cell K1.out 1).trans rfl
  have z1_2 : w2.cell? ⟨w.heap.size, 2, none⟩ = some (.int .i64 a0_2) := (blk_cell K1.out 2).trans rfl
  have z1_3 : w2.cell? ⟨w.heap.size, 3, none⟩ = some (.bool a0_3) := (blk_cell K1.out 3).trans rfl
  go_wp2_with fail
  clear y1 z1_0 z1_1 z1_2 z1_3
  refine (spec_DiskSync.calls k_E13 _ _ r3 _ _ r4 r5 r6 r9 r10 r11 r12 _ (Kd.R_reads' q8X0.out).2.2 (Kd.R_reads' q8X0.out).2.1 (Kd.S_reads' q8X1.out).2.2 (Kd.S_reads' q8X1.out).2.1 H_E13.out).mono ?_
  rintro e w3 ⟨q14u0, q14u1, rfl, q14g0, q14g1, gb⟩
  have q14X0 := Aside0.mk (R_iv q14g0 w.heap.size (w2.heap.size) (by have := HB.out.size; first | (simp; done) | (simp; omega) | omega) (by simp))
  clear q14g0
  obtain ⟨q14A0, q14c0, rfl⟩ := Kd.R_slice q14X0.out
  have q14X1 := Aside0.mk (S_iv q14g1 w.heap.size (w2.heap.size) (by have := HB.out.size; first | (simp; done) | (simp; omega) | omega) (by simp))
  clear q14g1
  obtain ⟨q14A1, q14c1, rfl⟩ := Kd.S_slice q14X1.out
  have hz3 : w2.heap.size + 0 ≤ w3.heap.size := by have := gb.size; first | omega | (simp at this; omega)
  have N_HB := Aside0.mk (below_step HB.out gb)
  have N_q8X0 := Aside0.mk (Kd.R_below q8X0.out gb)
  have N_q8X1 := Aside0.mk (Kd.S_below q8X1.out gb)
  have N_K1 := Aside0.mk (blk_below K1.out gb)
  clear HB q8X0 q8X1 K1
  have HB := N_HB
  have q8X0 := N_q8X0
  have q8X1 := N_q8X1
  have K1 := N_K1
  clear N_HB N_q8X0 N_q8X1 N_K1
  clear gb
  have y1 : w.heap.size < w3.heap.size := by omega
  have z1_0 : w3.cell? ⟨w.heap.size, 0, none⟩ = some (.slice A0_0 l0_0.length c0_0) := (blk_cell K1.out 0).trans rfl
  have z1_1 : w3.cell? ⟨w.heap.size, 1, none⟩ = some (.slice A0_1 l0_1.length c0_1) := (blk_cell K1.out 1).trans rfl
  have z1_2 : w3.cell? ⟨w.heap.size, 2, none⟩ = some (.int .i64 a0_2) := (blk_cell K1.out 2).trans rfl
  have z1_3 : w3.cell? ⟨w.heap.size, 3, none⟩ = some (.bool a0_3) := (blk_cell K1.out 3).trans rfl
  go_wp2_with fail
  clear y1 z1_0 z1_1 z1_2 z1_3
  refine (laws_toDisk.calls k_E7 _ _ l0_0 _ _ l0_1 a0_2 a0_3 r3 r4 r5 r6 _ (Kd.C_below HR0_0.out (below_alloc HB.out _)) HC0_0.out (Kd.C_below HR0_1.out (below_alloc HB.out _)) HC0_1.out H_E7.out).mono ?_
  rintro e w4 ⟨q15u0, q15u1, rfl, q15g0, q15g1, gb⟩
  have q15X0 := Aside0.mk (R_iv q15g0 w.heap.size (w3.heap.size + 1) (by have := HB.out.size; first | (simp; done) | (simp; omega) | omega) (by simp))
  clear q15g0
  obtain ⟨q15A0, q15c0, rfl⟩ := Kd.R_slice q15X0.out
  have q15X1 := Aside0.mk (S_iv q15g1 w.heap.size (w3.heap.size + 1) (by have := HB.out.size; first | (simp; done) | (simp; omega) | omega) (by simp))
  clear q15g1
  obtain ⟨q15A1, q15c1, rfl⟩ := Kd.S_slice q15X1.out
  have hz4 : w3.heap.size + 1 ≤ w4.heap.size := by have := gb.size; first | omega | (simp at this; omega)
  have N_HB := Aside0.mk (below_step (below_alloc HB.out _) gb)
  have N_q8X0 := Aside0.mk (Kd.R_below (Kd.R_alloc q8X0.out _) gb)
  have N_q8X1 := Aside0.mk (Kd.S_below (Kd.S_alloc q8X1.out _) gb)
  have N_q14X0 := Aside0.mk (Kd.R_below (Kd.R_alloc q14X0.out _) gb)
  have N_q14X1 := Aside0.mk (Kd.S_below (Kd.S_alloc q14X1.out _) gb)
  have N_K1 := Aside0.mk (blk_below (blk_alloc K1.out _) gb)
  have K4 := Aside0.mk (show w4.heap[w3.heap.size]? = some (.cells #[.slice q14A0 r9.length q14c0, .slice q14A1 r10.length q14c1, .int .i64 r11, .bool r12] 25 (0, 0)) from by have := blk_below (blk_new _ _) gb; simpa using this)
  clear HB q8X0 q8X1 q14X0 q14X1 K1
  have HB := N_HB
  have q8X0 := N_q8X0
  have q8X1 := N_q8X1
  have q14X0 := N_q14X0
  have q14X1 := N_q14X1
  have K1 := N_K1
  clear N_HB N_q8X0 N_q8X1 N_q14X0 N_q14X1 N_K1
  clear gb
  go_wp2_with fail
  refine (impl_DiskSync.calls _ _ r3 _ _ r4 r5 r6 r9 r10 r11 r12 _ (Kd.C_alloc (Kd.R_reads' q15X0.out).2.2 _) (Kd.R_reads' q15X0.out).2.1 (Kd.C_alloc (Kd.S_reads' q15X1.out).2.2 _) (Kd.S_reads' q15X1.out).2.1 H_E16.out).mono ?_
  rintro e w5 ⟨q17u0, q17u1, rfl, q17g0, q17g1, gb⟩
  have q17X0 := Aside0.mk (R_iv q17g0 w.heap.size (w4.heap.size + 1) (by have := HB.out.size; first | (simp; done) | (simp; omega) | omega) (by simp))
  clear q17g0
  obtain ⟨q17A0, q17c0, rfl⟩ := Kd.R_slice q17X0.out
  have q17X1 := Aside0.mk (S_iv q17g1 w.heap.size (w4.heap.size + 1) (by have := HB.out.size; first | (simp; done) | (simp; omega) | omega) (by simp))
  clear q17g1
  obtain ⟨q17A1, q17c1, rfl⟩ := Kd.S_slice q17X1.out
  have hz5 : w4.heap.size + 1 ≤ w5.heap.size := by have := gb.size; first | omega | (simp at this; omega)
  have N_HB := Aside0.mk (below_step (below_alloc HB.out _) gb)
  have N_q8X0 := Aside0.mk (Kd.R_below (Kd.R_alloc q8X0.out _) gb)
  have N_q8X1 := Aside0.mk (Kd.S_below (Kd.S_alloc q8X1.out _) gb)
  have N_q14X0 := Aside0.mk (Kd.R_below (Kd.R_alloc q14X0.out _) gb)
  have N_q14X1 := Aside0.mk (Kd.S_below (Kd.S_alloc q14X1.out _) gb)
  have N_q15X0 := Aside0.mk (Kd.R_below (Kd.R_alloc q15X0.out _) gb)
  have N_q15X1 := Aside0.mk (Kd.S_below (Kd.S_alloc q15X1.out _) gb)
  have N_K1 := Aside0.mk (blk_below (blk_alloc K1.out _) gb)
  have N_K4 := Aside0.mk (blk_below (blk_alloc K4.out _) gb)
  have K5 := Aside0.mk (show w5.heap[w4.heap.size]? = some (.cells #[.slice q15A0 r3.length q15c0, .slice q15A1 r4.length q15c1, .int .i64 r5, .bool r6] 25 (0, 0)) from by have := blk_below (blk_new _ _) gb; simpa using this)
  clear HB q8X0 q8X1 q14X0 q14X1 q15X0 q15X1 K1 K4
  have HB := N_HB
  have q8X0 := N_q8X0
  have q8X1 := N_q8X1
  have q14X0 := N_q14X0
  have q14X1 := N_q14X1
  have q15X0 := N_q15X0
  have q15X1 := N_q15X1
  have K1 := N_K1
  have K4 := N_K4
  clear N_HB N_q8X0 N_q8X1 N_q14X0 N_q14X1 N_q15X0 N_q15X1 N_K1 N_K4
  clear gb
  have y4 : w3.heap.size < w5.heap.size := by omega
  have z4_0 : w5.cell? ⟨w3.heap.size, 0, none⟩ = some (.slice q14A0 r9.length q14c0) := (blk_cell K4.out 0).trans rfl
  have z4_1 : w5.cell? ⟨w3.heap.size, 1, none⟩ = some (.slice q14A1 r10.length q14c1) := (blk_cell K4.out 1).trans rfl
  have z4_2 : w5.cell? ⟨w3.heap.size, 2, none⟩ = some (.int .i64 r11) := (blk_cell K4.out 2).trans rfl
  have z4_3 : w5.cell? ⟨w3.heap.size, 3, none⟩ = some (.bool r12) := (blk_cell K4.out 3).trans rfl
  go_wp2_with fail
  clear y4 z4_0 z4_1 z4_2 z4_3
  refine (laws_eqDisk.calls k_E18 _ _ r9 _ _ r10 r11 r12 _ _ r9 _ _ r10 r11 r12 true _ (Kd.C_alloc (Kd.R_reads' q17X0.out).2.2 _) (Kd.R_reads' q17X0.out).2.1 (Kd.C_alloc (Kd.S_reads' q17X1.out).2.2 _) (Kd.S_reads' q17X1.out).2.1 (Kd.C_alloc (Kd.R_reads' q14X0.out).2.2 _) (Kd.R_reads' q14X0.out).2.1 (Kd.C_alloc (Kd.S_reads' q14X1.out).2.2 _) (Kd.S_reads' q14X1.out).2.1 H_E18.out).mono ?_
  rintro e w6 ⟨rfl, gb⟩
  have hz6 : w5.heap.size + 1 ≤ w6.heap.size := by have := gb.size; first | omega | (simp at this; omega)
  have N_HB := Aside0.mk (below_step (below_alloc HB.out _) gb)
  have N_q8X0 := Aside0.mk (Kd.R_below (Kd.R_alloc q8X0.out _) gb)
  have N_q8X1 := Aside0.mk (Kd.S_below (Kd.S_alloc q8X1.out _) gb)
  have N_q14X0 := Aside0.mk (Kd.R_below (Kd.R_alloc q14X0.out _) gb)
  have N_q14X1 := Aside0.mk (Kd.S_below (Kd.S_alloc q14X1.out _) gb)
  have N_q15X0 := Aside0.mk (Kd.R_below (Kd.R_alloc q15X0.out _) gb)
  have N_q15X1 := Aside0.mk (Kd.S_below (Kd.S_alloc q15X1.out _) gb)
  have N_q17X0 := Aside0.mk (Kd.R_below (Kd.R_alloc q17X0.out _) gb)
  have N_q17X1 := Aside0.mk (Kd.S_below (Kd.S_alloc q17X1.out _) gb)
  have N_K1 := Aside0.mk (blk_below (blk_alloc K1.out _) gb)
  have N_K4 := Aside0.mk (blk_below (blk_alloc K4.out _) gb)
  have N_K5 := Aside0.mk (blk_below (blk_alloc K5.out _) gb)
  have K6 := Aside0.mk (show w6.heap[w5.heap.size]? = some (.cells #[.slice q17A0 r9.length q17c0, .slice q17A1 r10.length q17c1, .int .i64 r11, .bool r12] 25 (0, 0)) from by have := blk_below (blk_new _ _) gb; simpa using this)
  clear HB q8X0 q8X1 q14X0 q14X1 q15X0 q15X1 q17X0 q17X1 K1 K4 K5
  have HB := N_HB
  have q8X0 := N_q8X0
  have q8X1 := N_q8X1
  have q14X0 := N_q14X0
  have q14X1 := N_q14X1
  have q15X0 := N_q15X0
  have q15X1 := N_q15X1
  have q17X0 := N_q17X0
  have q17X1 := N_q17X1
  have K1 := N_K1
  have K4 := N_K4
  have K5 := N_K5
  clear N_HB N_q8X0 N_q8X1 N_q14X0 N_q14X1 N_q15X0 N_q15X1 N_q17X0 N_q17X1 N_K1 N_K4 N_K5
  clear gb
  have y5 : w4.heap.size < w6.heap.size := by omega
  have z5_0 : w6.cell? ⟨w4.heap.size, 0, none⟩ = some (.slice q15A0 r3.length q15c0) := (blk_cell K5.out 0).trans rfl
  have z5_1 : w6.cell? ⟨w4.heap.size, 1, none⟩ = some (.slice q15A1 r4.length q15c1) := (blk_cell K5.out 1).trans rfl
  have z5_2 : w6.cell? ⟨w4.heap.size, 2, none⟩ = some (.int .i64 r5) := (blk_cell K5.out 2).trans rfl
  have z5_3 : w6.cell? ⟨w4.heap.size, 3, none⟩ = some (.bool r6) := (blk_cell K5.out 3).trans rfl
  have y1 : w.heap.size < w6.heap.size := by omega
  have z1_0 : w6.cell? ⟨w.heap.size, 0, none⟩ = some (.slice A0_0 l0_0.length c0_0) := (blk_cell K1.out 0).trans rfl
  have z1_1 : w6.cell? ⟨w.heap.size, 1, none⟩ = some (.slice A0_1 l0_1.length c0_1) := (blk_cell K1.out 1).trans rfl
  have z1_2 : w6.cell? ⟨w.heap.size, 2, none⟩ = some (.int .i64 a0_2) := (blk_cell K1.out 2).trans rfl
  have z1_3 : w6.cell? ⟨w.heap.size, 3, none⟩ = some (.bool a0_3) := (blk_cell K1.out 3).trans rfl
  go_wp2_with fail
  go_region_held3 (fun w' => w'.cell? ⟨w4.heap.size, 0, none⟩ = some (.slice q15A0 r3.length q15c0) ∧ w'.cell? ⟨w4.heap.size, 1, none⟩ = some (.slice q15A1 r4.length q15c1) ∧ w'.cell? ⟨w4.heap.size, 2, none⟩ = some (.int .i64 r5) ∧ w'.cell? ⟨w4.heap.size, 3, none⟩ = some (.bool r6) ∧ w'.cell? ⟨w.heap.size, 0, none⟩ = some (.slice A0_0 l0_0.length c0_0) ∧ w'.cell? ⟨w.heap.size, 1, none⟩ = some (.slice A0_1 l0_1.length c0_1) ∧ w'.cell? ⟨w.heap.size, 2, none⟩ = some (.int .i64 a0_2) ∧ w'.cell? ⟨w.heap.size, 3, none⟩ = some (.bool a0_3)) (go_keep) (first | (go_at_call 17; (refine (laws_toDisk.calls k_E7 _ _ l0_0 _ _ l0_1 a0_2 a0_3 r3 r4 r5 r6 _ (Kd.C_below HR0_0.out (below_drew HB.out)) HC0_0.out (Kd.C_below HR0_1.out (below_drew HB.out)) HC0_1.out H_E7.out).mono ?_); (rintro e w7 ⟨q19u0, q19u1, rfl, q19g0, q19g1, gb⟩); (have q19X0 := Aside0.mk (R_iv q19g0 w.heap.size (w6.heap.size) (by have := HB.out.size; first | (simp; done) | (simp; omega) | omega) (by simp))); (clear q19g0); (obtain ⟨q19A0, q19c0, rfl⟩ := Kd.R_slice q19X0.out); (have q19X1 := Aside0.mk (S_iv q19g1 w.heap.size (w6.heap.size) (by have := HB.out.size; first | (simp; done) | (simp; omega) | omega) (by simp))); (clear q19g1); (obtain ⟨q19A1, q19c1, rfl⟩ := Kd.S_slice q19X1.out); (have hz7 : w6.heap.size + 0 ≤ w7.heap.size := by have := gb.size; first | omega | (simp at this; omega)); (have N_HB := Aside0.mk (below_step (below_drew HB.out) gb)); (have N_q8X0 := Aside0.mk (Kd.R_below (Kd.R_drew q8X0.out) gb)); (have N_q8X1 := Aside0.mk (Kd.S_below (Kd.S_drew q8X1.out) gb)); (have N_q14X0 := Aside0.mk (Kd.R_below (Kd.R_drew q14X0.out) gb)); (have N_q14X1 := Aside0.mk (Kd.S_below (Kd.S_drew q14X1.out) gb)); (have N_q15X0 := Aside0.mk (Kd.R_below (Kd.R_drew q15X0.out) gb)); (have N_q15X1 := Aside0.mk (Kd.S_below (Kd.S_drew q15X1.out) gb)); (have N_q17X0 := Aside0.mk (Kd.R_below (Kd.R_drew q17X0.out) gb)); (have N_q17X1 := Aside0.mk (Kd.S_below (Kd.S_drew q17X1.out) gb)); (have N_K1 := Aside0.mk (blk_below (blk_drew K1.out) gb)); (have N_K4 := Aside0.mk (blk_below (blk_drew K4.out) gb)); (have N_K5 := Aside0.mk (blk_below (blk_drew K5.out) gb)); (have N_K6 := Aside0.mk (blk_below (blk_drew K6.out) gb)); (clear HB q8X0 q8X1 q14X0 q14X1 q15X0 q15X1 q17X0 q17X1 K1 K4 K5 K6); (have HB := N_HB); (have q8X0 := N_q8X0); (have q8X1 := N_q8X1); (have q14X0 := N_q14X0); (have q14X1 := N_q14X1); (have q15X0 := N_q15X0); (have q15X1 := N_q15X1); (have q17X0 := N_q17X0); (have q17X1 := N_q17X1); (have K1 := N_K1); (have K4 := N_K4); (have K5 := N_K5); (have K6 := N_K6); (clear N_HB N_q8X0 N_q8X1 N_q14X0 N_q14X1 N_q15X0 N_q15X1 N_q17X0 N_q17X1 N_K1 N_K4 N_K5 N_K6); (clear gb); (clear y5 z5_0 z5_1 z5_2 z5_3 y1 z1_0 z1_1 z1_2 z1_3); (have y5 : w4.heap.size < w7.heap.size := by omega); (have z5_0 : w7.cell? ⟨w4.heap.size, 0, none⟩ = some (.slice q15A0 r3.length q15c0) := (blk_cell K5.out 0).trans rfl); (have z5_1 : w7.cell? ⟨w4.heap.size, 1, none⟩ = some (.slice q15A1 r4.length q15c1) := (blk_cell K5.out 1).trans rfl); (have z5_2 : w7.cell? ⟨w4.heap.size, 2, none⟩ = some (.int .i64 r5) := (blk_cell K5.out 2).trans rfl); (have z5_3 : w7.cell? ⟨w4.heap.size, 3, none⟩ = some (.bool r6) := (blk_cell K5.out 3).trans rfl); (have y1 : w.heap.size < w7.heap.size := by omega); (have z1_0 : w7.cell? ⟨w.heap.size, 0, none⟩ = some (.slice A0_0 l0_0.length c0_0) := (blk_cell K1.out 0).trans rfl); (have z1_1 : w7.cell? ⟨w.heap.size, 1, none⟩ = some (.slice A0_1 l0_1.length c0_1) := (blk_cell K1.out 1).trans rfl); (have z1_2 : w7.cell? ⟨w.heap.size, 2, none⟩ = some (.int .i64 a0_2) := (blk_cell K1.out 2).trans rfl); (have z1_3 : w7.cell? ⟨w.heap.size, 3, none⟩ = some (.bool a0_3) := (blk_cell K1.out 3).trans rfl)) | (go_at_call 12; (refine (laws_eqDisk.calls k_E20 _ _ r3 _ _ r4 r5 r6 _ _ r3 _ _ r4 r5 r6 true _ (Kd.R_reads' q15X0.out).2.2 (Kd.R_reads' q15X0.out).2.1 (Kd.S_reads' q15X1.out).2.2 (Kd.S_reads' q15X1.out).2.1 (Kd.R_reads' q19X0.out).2.2 (Kd.R_reads' q19X0.out).2.1 (Kd.S_reads' q19X1.out).2.2 (Kd.S_reads' q19X1.out).2.1 H_E20.out).mono ?_); (rintro e w8 ⟨rfl, gb⟩); (have hz8 : w7.heap.size + 0 ≤ w8.heap.size := by have := gb.size; first | omega | (simp at this; omega)); (have N_HB := Aside0.mk (below_step HB.out gb)); (have N_q8X0 := Aside0.mk (Kd.R_below q8X0.out gb)); (have N_q8X1 := Aside0.mk (Kd.S_below q8X1.out gb)); (have N_q14X0 := Aside0.mk (Kd.R_below q14X0.out gb)); (have N_q14X1 := Aside0.mk (Kd.S_below q14X1.out gb)); (have N_q15X0 := Aside0.mk (Kd.R_below q15X0.out gb)); (have N_q15X1 := Aside0.mk (Kd.S_below q15X1.out gb)); (have N_q17X0 := Aside0.mk (Kd.R_below q17X0.out gb)); (have N_q17X1 := Aside0.mk (Kd.S_below q17X1.out gb)); (have N_q19X0 := Aside0.mk (Kd.R_below q19X0.out gb)); (have N_q19X1 := Aside0.mk (Kd.S_below q19X1.out gb)); (have N_K1 := Aside0.mk (blk_below K1.out gb)); (have N_K4 := Aside0.mk (blk_below K4.out gb)); (have N_K5 := Aside0.mk (blk_below K5.out gb)); (have N_K6 := Aside0.mk (blk_below K6.out gb)); (clear HB q8X0 q8X1 q14X0 q14X1 q15X0 q15X1 q17X0 q17X1 q19X0 q19X1 K1 K4 K5 K6); (have HB := N_HB); (have q8X0 := N_q8X0); (have q8X1 := N_q8X1); (have q14X0 := N_q14X0); (have q14X1 := N_q14X1); (have q15X0 := N_q15X0); (have q15X1 := N_q15X1); (have q17X0 := N_q17X0); (have q17X1 := N_q17X1); (have q19X0 := N_q19X0); (have q19X1 := N_q19X1); (have K1 := N_K1); (have K4 := N_K4); (have K5 := N_K5); (have K6 := N_K6); (clear N_HB N_q8X0 N_q8X1 N_q14X0 N_q14X1 N_q15X0 N_q15X1 N_q17X0 N_q17X1 N_q19X0 N_q19X1 N_K1 N_K4 N_K5 N_K6); (clear gb); (clear y5 z5_0 z5_1 z5_2 z5_3 y1 z1_0 z1_1 z1_2 z1_3); (have y5 : w4.heap.size < w8.heap.size := by omega); (have z5_0 : w8.cell? ⟨w4.heap.size, 0, none⟩ = some (.slice q15A0 r3.length q15c0) := (blk_cell K5.out 0).trans rfl); (have z5_1 : w8.cell? ⟨w4.heap.size, 1, none⟩ = some (.slice q15A1 r4.length q15c1) := (blk_cell K5.out 1).trans rfl); (have z5_2 : w8.cell? ⟨w4.heap.size, 2, none⟩ = some (.int .i64 r5) := (blk_cell K5.out 2).trans rfl); (have z5_3 : w8.cell? ⟨w4.heap.size, 3, none⟩ = some (.bool r6) := (blk_cell K5.out 3).trans rfl); (have y1 : w.heap.size < w8.heap.size := by omega); (have z1_0 : w8.cell? ⟨w.heap.size, 0, none⟩ = some (.slice A0_0 l0_0.length c0_0) := (blk_cell K1.out 0).trans rfl); (have z1_1 : w8.cell? ⟨w.heap.size, 1, none⟩ = some (.slice A0_1 l0_1.length c0_1) := (blk_cell K1.out 1).trans rfl); (have z1_2 : w8.cell? ⟨w.heap.size, 2, none⟩ = some (.int .i64 a0_2) := (blk_cell K1.out 2).trans rfl); (have z1_3 : w8.cell? ⟨w.heap.size, 3, none⟩ = some (.bool a0_3) := (blk_cell K1.out 3).trans rfl)))
  clear y5 z5_0 z5_1 z5_2 z5_3 y1 z1_0 z1_1 z1_2 z1_3
  have y5 : w4.heap.size < w8.heap.size := by omega
  have z5_0 : w8.cell? ⟨w4.heap.size, 0, none⟩ = some (.slice q15A0 r3.length q15c0) := (blk_cell K5.out 0).trans rfl
  have z5_1 : w8.cell? ⟨w4.heap.size, 1, none⟩ = some (.slice q15A1 r4.length q15c1) := (blk_cell K5.out 1).trans rfl
  have z5_2 : w8.cell? ⟨w4.heap.size, 2, none⟩ = some (.int .i64 r5) := (blk_cell K5.out 2).trans rfl
  have z5_3 : w8.cell? ⟨w4.heap.size, 3, none⟩ = some (.bool r6) := (blk_cell K5.out 3).trans rfl
  go_wp2_with fail
  clear y5 z5_0 z5_1 z5_2 z5_3
  refine (laws_markDisk.own k_E23 k_E26 (w3.heap.size + 1) (w4.heap.size) _ _ r5 r6 r3 r4 1 m21 m24 l22 l25 w _ (by have := HB.out.size; omega) HB.out q15X0.out q15X1.out H_E23.out H_E26.out).mono ?_
  rintro e w9 ⟨rfl, g_0, g_1, gB, hk⟩
  have hz9 : w8.heap.size + 0 ≤ w9.heap.size := by have := hk.1; first | omega | (simp at this; omega)
  have N_q8X0 := Aside0.mk (Kd.R_kept q8X0.out hk (fun k hk1 hk2 => by have := hk1.1; omega))
  have N_q8X1 := Aside0.mk (Kd.S_kept q8X1.out hk (fun k hk1 hk2 => by have := hk1.1; omega))
  have N_q14X0 := Aside0.mk (Kd.R_kept q14X0.out hk (fun k hk1 hk2 => by have := hk1.1; omega))
  have N_q14X1 := Aside0.mk (Kd.S_kept q14X1.out hk (fun k hk1 hk2 => by have := hk1.1; omega))
  have N_q17X0 := Aside0.mk (Kd.R_kept q17X0.out hk (fun k hk1 hk2 => by have := hk1.1; omega))
  have N_q17X1 := Aside0.mk (Kd.S_kept q17X1.out hk (fun k hk1 hk2 => by have := hk1.1; omega))
  have N_q19X0 := Aside0.mk (Kd.R_kept q19X0.out hk (fun k hk1 hk2 => by have := hk1.1; omega))
  have N_q19X1 := Aside0.mk (Kd.S_kept q19X1.out hk (fun k hk1 hk2 => by have := hk1.1; omega))
  have N_K1 := Aside0.mk (blk_kept K1.out hk (fun hk2 => by omega))
  have N_K4 := Aside0.mk (blk_kept K4.out hk (fun hk2 => by omega))
  have N_K5 := Aside0.mk (blk_kept K5.out hk (fun hk2 => by omega))
  have N_K6 := Aside0.mk (blk_kept K6.out hk (fun hk2 => by omega))
  clear q8X0 q8X1 q14X0 q14X1 q17X0 q17X1 q19X0 q19X1 K1 K4 K5 K6
  have q8X0 := N_q8X0
  have q8X1 := N_q8X1
  have q14X0 := N_q14X0
  have q14X1 := N_q14X1
  have q17X0 := N_q17X0
  have q17X1 := N_q17X1
  have q19X0 := N_q19X0
  have q19X1 := N_q19X1
  have K1 := N_K1
  have K4 := N_K4
  have K5 := N_K5
  have K6 := N_K6
  clear N_q8X0 N_q8X1 N_q14X0 N_q14X1 N_q17X0 N_q17X1 N_q19X0 N_q19X1 N_K1 N_K4 N_K5 N_K6
  clear HB hk
  have HB := Aside0.mk gB
  clear gB
  clear q15X0
  have q15X0 := Aside0.mk g_0
  clear g_0
  clear q15X1
  have q15X1 := Aside0.mk g_1
  clear g_1
  have ev_ : (.slice q15A0 r3.length q15c0 : Value) = .slice q15A0 l22.length q15c0 := by rw [(Kd.R_reads' q15X0.out).1]
  try rw [ev_] at q15X0
  try rw [ev_] at q15X1
  try rw [ev_] at K5
  try rw [ev_]
  clear ev_
  have ev_ : (.slice q15A1 r4.length q15c1 : Value) = .slice q15A1 l25.length q15c1 := by rw [(Kd.S_reads' q15X1.out).1]
  try rw [ev_] at q15X0
  try rw [ev_] at q15X1
  try rw [ev_] at K5
  try rw [ev_]
  clear ev_
  clear q15X0 q15X1 K5
  have y6 : w5.heap.size < w9.heap.size := by omega
  have z6_0 : w9.cell? ⟨w5.heap.size, 0, none⟩ = some (.slice q17A0 r9.length q17c0) := (blk_cell K6.out 0).trans rfl
  have z6_1 : w9.cell? ⟨w5.heap.size, 1, none⟩ = some (.slice q17A1 r10.length q17c1) := (blk_cell K6.out 1).trans rfl
  have z6_2 : w9.cell? ⟨w5.heap.size, 2, none⟩ = some (.int .i64 r11) := (blk_cell K6.out 2).trans rfl
  have z6_3 : w9.cell? ⟨w5.heap.size, 3, none⟩ = some (.bool r12) := (blk_cell K6.out 3).trans rfl
  have y4 : w3.heap.size < w9.heap.size := by omega
  have z4_0 : w9.cell? ⟨w3.heap.size, 0, none⟩ = some (.slice q14A0 r9.length q14c0) := (blk_cell K4.out 0).trans rfl
  have z4_1 : w9.cell? ⟨w3.heap.size, 1, none⟩ = some (.slice q14A1 r10.length q14c1) := (blk_cell K4.out 1).trans rfl
  have z4_2 : w9.cell? ⟨w3.heap.size, 2, none⟩ = some (.int .i64 r11) := (blk_cell K4.out 2).trans rfl
  have z4_3 : w9.cell? ⟨w3.heap.size, 3, none⟩ = some (.bool r12) := (blk_cell K4.out 3).trans rfl
  go_wp2_with fail
  clear y6 z6_0 z6_1 z6_2 z6_3 y4 z4_0 z4_1 z4_2 z4_3
  refine (laws_eqDisk.calls k_E18 _ _ r9 _ _ r10 r11 r12 _ _ r9 _ _ r10 r11 r12 true _ (Kd.R_reads' q17X0.out).2.2 (Kd.R_reads' q17X0.out).2.1 (Kd.S_reads' q17X1.out).2.2 (Kd.S_reads' q17X1.out).2.1 (Kd.R_reads' q14X0.out).2.2 (Kd.R_reads' q14X0.out).2.1 (Kd.S_reads' q14X1.out).2.2 (Kd.S_reads' q14X1.out).2.1 H_E18.out).mono ?_
  rintro e w10 ⟨rfl, gb⟩
  have hz10 : w9.heap.size + 0 ≤ w10.heap.size := by have := gb.size; first | omega | (simp at this; omega)
  have N_HB := Aside0.mk (below_step HB.out gb)
  have N_q8X0 := Aside0.mk (Kd.R_below q8X0.out gb)
  have N_q8X1 := Aside0.mk (Kd.S_below q8X1.out gb)
  have N_q14X0 := Aside0.mk (Kd.R_below q14X0.out gb)
  have N_q14X1 := Aside0.mk (Kd.S_below q14X1.out gb)
  have N_q17X0 := Aside0.mk (Kd.R_below q17X0.out gb)
  have N_q17X1 := Aside0.mk (Kd.S_below q17X1.out gb)
  have N_q19X0 := Aside0.mk (Kd.R_below q19X0.out gb)
  have N_q19X1 := Aside0.mk (Kd.S_below q19X1.out gb)
  have N_K1 := Aside0.mk (blk_below K1.out gb)
  have N_K4 := Aside0.mk (blk_below K4.out gb)
  have N_K6 := Aside0.mk (blk_below K6.out gb)
  clear HB q8X0 q8X1 q14X0 q14X1 q17X0 q17X1 q19X0 q19X1 K1 K4 K6
  have HB := N_HB
  have q8X0 := N_q8X0
  have q8X1 := N_q8X1
  have q14X0 := N_q14X0
  have q14X1 := N_q14X1
  have q17X0 := N_q17X0
  have q17X1 := N_q17X1
  have q19X0 := N_q19X0
  have q19X1 := N_q19X1
  have K1 := N_K1
  have K4 := N_K4
  have K6 := N_K6
  clear N_HB N_q8X0 N_q8X1 N_q14X0 N_q14X1 N_q17X0 N_q17X1 N_q19X0 N_q19X1 N_K1 N_K4 N_K6
  clear gb
  have y6 : w5.heap.size < w10.heap.size := by omega
  have z6_0 : w10.cell? ⟨w5.heap.size, 0, none⟩ = some (.slice q17A0 r9.length q17c0) := (blk_cell K6.out 0).trans rfl
  have z6_1 : w10.cell? ⟨w5.heap.size, 1, none⟩ = some (.slice q17A1 r10.length q17c1) := (blk_cell K6.out 1).trans rfl
  have z6_2 : w10.cell? ⟨w5.heap.size, 2, none⟩ = some (.int .i64 r11) := (blk_cell K6.out 2).trans rfl
  have z6_3 : w10.cell? ⟨w5.heap.size, 3, none⟩ = some (.bool r12) := (blk_cell K6.out 3).trans rfl
  go_wp2_with fail
  clear y6 z6_0 z6_1 z6_2 z6_3
  refine (laws_markDisk.own k_E29 k_E32 (w4.heap.size + 1) (w5.heap.size) _ _ r11 r12 r9 r10 1 m27 m30 l28 l31 w _ (by have := HB.out.size; omega) HB.out q17X0.out q17X1.out H_E29.out H_E32.out).mono ?_
  rintro e w11 ⟨rfl, g_0, g_1, gB, hk⟩
  have hz11 : w10.heap.size + 0 ≤ w11.heap.size := by have := hk.1; first | omega | (simp at this; omega)
  have N_q8X0 := Aside0.mk (Kd.R_kept q8X0.out hk (fun k hk1 hk2 => by have := hk1.1; omega))
  have N_q8X1 := Aside0.mk (Kd.S_kept q8X1.out hk (fun k hk1 hk2 => by have := hk1.1; omega))
  have N_q14X0 := Aside0.mk (Kd.R_kept q14X0.out hk (fun k hk1 hk2 => by have := hk1.1; omega))
  have N_q14X1 := Aside0.mk (Kd.S_kept q14X1.out hk (fun k hk1 hk2 => by have := hk1.1; omega))
  have N_q19X0 := Aside0.mk (Kd.R_kept q19X0.out hk (fun k hk1 hk2 => by have := hk1.1; omega))
  have N_q19X1 := Aside0.mk (Kd.S_kept q19X1.out hk (fun k hk1 hk2 => by have := hk1.1; omega))
  have N_K1 := Aside0.mk (blk_kept K1.out hk (fun hk2 => by omega))
  have N_K4 := Aside0.mk (blk_kept K4.out hk (fun hk2 => by omega))
  have N_K6 := Aside0.mk (blk_kept K6.out hk (fun hk2 => by omega))
  clear q8X0 q8X1 q14X0 q14X1 q19X0 q19X1 K1 K4 K6
  have q8X0 := N_q8X0
  have q8X1 := N_q8X1
  have q14X0 := N_q14X0
  have q14X1 := N_q14X1
  have q19X0 := N_q19X0
  have q19X1 := N_q19X1
  have K1 := N_K1
  have K4 := N_K4
  have K6 := N_K6
  clear N_q8X0 N_q8X1 N_q14X0 N_q14X1 N_q19X0 N_q19X1 N_K1 N_K4 N_K6
  clear HB hk
  have HB := Aside0.mk gB
  clear gB
  clear q17X0
  have q17X0 := Aside0.mk g_0
  clear g_0
  clear q17X1
  have q17X1 := Aside0.mk g_1
  clear g_1
  have ev_ : (.slice q17A0 r9.length q17c0 : Value) = .slice q17A0 l28.length q17c0 := by rw [(Kd.R_reads' q17X0.out).1]
  try rw [ev_] at q17X0
  try rw [ev_] at q17X1
  try rw [ev_] at K6
  try rw [ev_]
  clear ev_
  have ev_ : (.slice q17A1 r10.length q17c1 : Value) = .slice q17A1 l31.length q17c1 := by rw [(Kd.S_reads' q17X1.out).1]
  try rw [ev_] at q17X0
  try rw [ev_] at q17X1
  try rw [ev_] at K6
  try rw [ev_]
  clear ev_
  have y6 : w5.heap.size < w11.heap.size := by omega
  have z6_0 : w11.cell? ⟨w5.heap.size, 0, none⟩ = some (.slice q17A0 l28.length q17c0) := (blk_cell K6.out 0).trans rfl
  have z6_1 : w11.cell? ⟨w5.heap.size, 1, none⟩ = some (.slice q17A1 l31.length q17c1) := (blk_cell K6.out 1).trans rfl
  have z6_2 : w11.cell? ⟨w5.heap.size, 2, none⟩ = some (.int .i64 r11) := (blk_cell K6.out 2).trans rfl
  have z6_3 : w11.cell? ⟨w5.heap.size, 3, none⟩ = some (.bool r12) := (blk_cell K6.out 3).trans rfl
  go_wp2_with fail
  clear y6 z6_0 z6_1 z6_2 z6_3
  refine (laws_heldDisk.calls k_E33 _ _ l28 _ _ l31 r11 r12 1 m30 _ (Kd.R_reads' q17X0.out).2.2 (Kd.R_reads' q17X0.out).2.1 (Kd.S_reads' q17X1.out).2.2 (Kd.S_reads' q17X1.out).2.1 H_E33.out).mono ?_
  rintro e w12 ⟨rfl, gb⟩
  have hz12 : w11.heap.size + 0 ≤ w12.heap.size := by have := gb.size; first | omega | (simp at this; omega)
  have N_HB := Aside0.mk (below_step HB.out gb)
  have N_q8X0 := Aside0.mk (Kd.R_below q8X0.out gb)
  have N_q8X1 := Aside0.mk (Kd.S_below q8X1.out gb)
  have N_q14X0 := Aside0.mk (Kd.R_below q14X0.out gb)
  have N_q14X1 := Aside0.mk (Kd.S_below q14X1.out gb)
  have N_q17X0 := Aside0.mk (Kd.R_below q17X0.out gb)
  have N_q17X1 := Aside0.mk (Kd.S_below q17X1.out gb)
  have N_q19X0 := Aside0.mk (Kd.R_below q19X0.out gb)
  have N_q19X1 := Aside0.mk (Kd.S_below q19X1.out gb)
  have N_K1 := Aside0.mk (blk_below K1.out gb)
  have N_K4 := Aside0.mk (blk_below K4.out gb)
  have N_K6 := Aside0.mk (blk_below K6.out gb)
  clear HB q8X0 q8X1 q14X0 q14X1 q17X0 q17X1 q19X0 q19X1 K1 K4 K6
  have HB := N_HB
  have q8X0 := N_q8X0
  have q8X1 := N_q8X1
  have q14X0 := N_q14X0
  have q14X1 := N_q14X1
  have q17X0 := N_q17X0
  have q17X1 := N_q17X1
  have q19X0 := N_q19X0
  have q19X1 := N_q19X1
  have K1 := N_K1
  have K4 := N_K4
  have K6 := N_K6
  clear N_HB N_q8X0 N_q8X1 N_q14X0 N_q14X1 N_q17X0 N_q17X1 N_q19X0 N_q19X1 N_K1 N_K4 N_K6
  clear gb
  have y1 : w.heap.size < w12.heap.size := by omega
  have z1_0 : w12.cell? ⟨w.heap.size, 0, none⟩ = some (.slice A0_0 l0_0.length c0_0) := (blk_cell K1.out 0).trans rfl
  have z1_1 : w12.cell? ⟨w.heap.size, 1, none⟩ = some (.slice A0_1 l0_1.length c0_1) := (blk_cell K1.out 1).trans rfl
  have z1_2 : w12.cell? ⟨w.heap.size, 2, none⟩ = some (.int .i64 a0_2) := (blk_cell K1.out 2).trans rfl
  have z1_3 : w12.cell? ⟨w.heap.size, 3, none⟩ = some (.bool a0_3) := (blk_cell K1.out 3).trans rfl
  go_wp2_with fail
  clear y1 z1_0 z1_1 z1_2 z1_3
  refine (laws_toDisk.calls k_E7 _ _ l0_0 _ _ l0_1 a0_2 a0_3 r3 r4 r5 r6 _ (Kd.C_below HR0_0.out HB.out) HC0_0.out (Kd.C_below HR0_1.out HB.out) HC0_1.out H_E7.out).mono ?_
  rintro e w13 ⟨q34u0, q34u1, rfl, q34g0, q34g1, gb⟩
  have q34X0 := Aside0.mk (R_iv q34g0 w.heap.size (w12.heap.size) (by have := HB.out.size; first | (simp; done) | (simp; omega) | omega) (by simp))
  clear q34g0
  obtain ⟨q34A0, q34c0, rfl⟩ := Kd.R_slice q34X0.out
  have q34X1 := Aside0.mk (S_iv q34g1 w.heap.size (w12.heap.size) (by have := HB.out.size; first | (simp; done) | (simp; omega) | omega) (by simp))
  clear q34g1
  obtain ⟨q34A1, q34c1, rfl⟩ := Kd.S_slice q34X1.out
  have hz13 : w12.heap.size + 0 ≤ w13.heap.size := by have := gb.size; first | omega | (simp at this; omega)
  have N_HB := Aside0.mk (below_step HB.out gb)
  have N_q8X0 := Aside0.mk (Kd.R_below q8X0.out gb)
  have N_q8X1 := Aside0.mk (Kd.S_below q8X1.out gb)
  have N_q14X0 := Aside0.mk (Kd.R_below q14X0.out gb)
  have N_q14X1 := Aside0.mk (Kd.S_below q14X1.out gb)
  have N_q17X0 := Aside0.mk (Kd.R_below q17X0.out gb)
  have N_q17X1 := Aside0.mk (Kd.S_below q17X1.out gb)
  have N_q19X0 := Aside0.mk (Kd.R_below q19X0.out gb)
  have N_q19X1 := Aside0.mk (Kd.S_below q19X1.out gb)
  have N_K1 := Aside0.mk (blk_below K1.out gb)
  have N_K4 := Aside0.mk (blk_below K4.out gb)
  have N_K6 := Aside0.mk (blk_below K6.out gb)
  clear HB q8X0 q8X1 q14X0 q14X1 q17X0 q17X1 q19X0 q19X1 K1 K4 K6
  have HB := N_HB
  have q8X0 := N_q8X0
  have q8X1 := N_q8X1
  have q14X0 := N_q14X0
  have q14X1 := N_q14X1
  have q17X0 := N_q17X0
  have q17X1 := N_q17X1
  have q19X0 := N_q19X0
  have q19X1 := N_q19X1
  have K1 := N_K1
  have K4 := N_K4
  have K6 := N_K6
  clear N_HB N_q8X0 N_q8X1 N_q14X0 N_q14X1 N_q17X0 N_q17X1 N_q19X0 N_q19X1 N_K1 N_K4 N_K6
  clear gb
  have y1 : w.heap.size < w13.heap.size := by omega
  have z1_0 : w13.cell? ⟨w.heap.size, 0, none⟩ = some (.slice A0_0 l0_0.length c0_0) := (blk_cell K1.out 0).trans rfl
  have z1_1 : w13.cell? ⟨w.heap.size, 1, none⟩ = some (.slice A0_1 l0_1.length c0_1) := (blk_cell K1.out 1).trans rfl
  have z1_2 : w13.cell? ⟨w.heap.size, 2, none⟩ = some (.int .i64 a0_2) := (blk_cell K1.out 2).trans rfl
  have z1_3 : w13.cell? ⟨w.heap.size, 3, none⟩ = some (.bool a0_3) := (blk_cell K1.out 3).trans rfl
  go_wp2_with fail
  clear y1 z1_0 z1_1 z1_2 z1_3
  refine (impl_DiskSync.calls _ _ r3 _ _ r4 r5 r6 r9 r10 r11 r12 _ (Kd.R_reads' q34X0.out).2.2 (Kd.R_reads' q34X0.out).2.1 (Kd.S_reads' q34X1.out).2.2 (Kd.S_reads' q34X1.out).2.1 H_E16.out).mono ?_
  rintro e w14 ⟨q35u0, q35u1, rfl, q35g0, q35g1, gb⟩
  have q35X0 := Aside0.mk (R_iv q35g0 w.heap.size (w13.heap.size) (by have := HB.out.size; first | (simp; done) | (simp; omega) | omega) (by simp))
  clear q35g0
  obtain ⟨q35A0, q35c0, rfl⟩ := Kd.R_slice q35X0.out
  have q35X1 := Aside0.mk (S_iv q35g1 w.heap.size (w13.heap.size) (by have := HB.out.size; first | (simp; done) | (simp; omega) | omega) (by simp))
  clear q35g1
  obtain ⟨q35A1, q35c1, rfl⟩ := Kd.S_slice q35X1.out
  have hz14 : w13.heap.size + 0 ≤ w14.heap.size := by have := gb.size; first | omega | (simp at this; omega)
  have N_HB := Aside0.mk (below_step HB.out gb)
  have N_q8X0 := Aside0.mk (Kd.R_below q8X0.out gb)
  have N_q8X1 := Aside0.mk (Kd.S_below q8X1.out gb)
  have N_q14X0 := Aside0.mk (Kd.R_below q14X0.out gb)
  have N_q14X1 := Aside0.mk (Kd.S_below q14X1.out gb)
  have N_q17X0 := Aside0.mk (Kd.R_below q17X0.out gb)
  have N_q17X1 := Aside0.mk (Kd.S_below q17X1.out gb)
  have N_q19X0 := Aside0.mk (Kd.R_below q19X0.out gb)
  have N_q19X1 := Aside0.mk (Kd.S_below q19X1.out gb)
  have N_q34X0 := Aside0.mk (Kd.R_below q34X0.out gb)
  have N_q34X1 := Aside0.mk (Kd.S_below q34X1.out gb)
  have N_K1 := Aside0.mk (blk_below K1.out gb)
  have N_K4 := Aside0.mk (blk_below K4.out gb)
  have N_K6 := Aside0.mk (blk_below K6.out gb)
  clear HB q8X0 q8X1 q14X0 q14X1 q17X0 q17X1 q19X0 q19X1 q34X0 q34X1 K1 K4 K6
  have HB := N_HB
  have q8X0 := N_q8X0
  have q8X1 := N_q8X1
  have q14X0 := N_q14X0
  have q14X1 := N_q14X1
  have q17X0 := N_q17X0
  have q17X1 := N_q17X1
  have q19X0 := N_q19X0
  have q19X1 := N_q19X1
  have q34X0 := N_q34X0
  have q34X1 := N_q34X1
  have K1 := N_K1
  have K4 := N_K4
  have K6 := N_K6
  clear N_HB N_q8X0 N_q8X1 N_q14X0 N_q14X1 N_q17X0 N_q17X1 N_q19X0 N_q19X1 N_q34X0 N_q34X1 N_K1 N_K4 N_K6
  clear gb
  have y4 : w3.heap.size < w14.heap.size := by omega
  have z4_0 : w14.cell? ⟨w3.heap.size, 0, none⟩ = some (.slice q14A0 r9.length q14c0) := (blk_cell K4.out 0).trans rfl
  have z4_1 : w14.cell? ⟨w3.heap.size, 1, none⟩ = some (.slice q14A1 r10.length q14c1) := (blk_cell K4.out 1).trans rfl
  have z4_2 : w14.cell? ⟨w3.heap.size, 2, none⟩ = some (.int .i64 r11) := (blk_cell K4.out 2).trans rfl
  have z4_3 : w14.cell? ⟨w3.heap.size, 3, none⟩ = some (.bool r12) := (blk_cell K4.out 3).trans rfl
  go_wp2_with fail
  clear y4 z4_0 z4_1 z4_2 z4_3
  refine (laws_eqDisk.calls k_E18 _ _ r9 _ _ r10 r11 r12 _ _ r9 _ _ r10 r11 r12 true _ (Kd.C_alloc (Kd.R_reads' q35X0.out).2.2 _) (Kd.R_reads' q35X0.out).2.1 (Kd.C_alloc (Kd.S_reads' q35X1.out).2.2 _) (Kd.S_reads' q35X1.out).2.1 (Kd.C_alloc (Kd.R_reads' q14X0.out).2.2 _) (Kd.R_reads' q14X0.out).2.1 (Kd.C_alloc (Kd.S_reads' q14X1.out).2.2 _) (Kd.S_reads' q14X1.out).2.1 H_E18.out).mono ?_
  rintro e w15 ⟨rfl, gb⟩
  have hz15 : w14.heap.size + 1 ≤ w15.heap.size := by have := gb.size; first | omega | (simp at this; omega)
  have N_HB := Aside0.mk (below_step (below_alloc HB.out _) gb)
  have N_q8X0 := Aside0.mk (Kd.R_below (Kd.R_alloc q8X0.out _) gb)
  have N_q8X1 := Aside0.mk (Kd.S_below (Kd.S_alloc q8X1.out _) gb)
  have N_q14X0 := Aside0.mk (Kd.R_below (Kd.R_alloc q14X0.out _) gb)
  have N_q14X1 := Aside0.mk (Kd.S_below (Kd.S_alloc q14X1.out _) gb)
  have N_q17X0 := Aside0.mk (Kd.R_below (Kd.R_alloc q17X0.out _) gb)
  have N_q17X1 := Aside0.mk (Kd.S_below (Kd.S_alloc q17X1.out _) gb)
  have N_q19X0 := Aside0.mk (Kd.R_below (Kd.R_alloc q19X0.out _) gb)
  have N_q19X1 := Aside0.mk (Kd.S_below (Kd.S_alloc q19X1.out _) gb)
  have N_q34X0 := Aside0.mk (Kd.R_below (Kd.R_alloc q34X0.out _) gb)
  have N_q34X1 := Aside0.mk (Kd.S_below (Kd.S_alloc q34X1.out _) gb)
  have N_q35X0 := Aside0.mk (Kd.R_below (Kd.R_alloc q35X0.out _) gb)
  have N_q35X1 := Aside0.mk (Kd.S_below (Kd.S_alloc q35X1.out _) gb)
  have N_K1 := Aside0.mk (blk_below (blk_alloc K1.out _) gb)
  have N_K4 := Aside0.mk (blk_below (blk_alloc K4.out _) gb)
  have N_K6 := Aside0.mk (blk_below (blk_alloc K6.out _) gb)
  have K10 := Aside0.mk (show w15.heap[w14.heap.size]? = some (.cells #[.slice q35A0 r9.length q35c0, .slice q35A1 r10.length q35c1, .int .i64 r11, .bool r12] 25 (0, 0)) from by have := blk_below (blk_new _ _) gb; simpa using this)
  clear HB q8X0 q8X1 q14X0 q14X1 q17X0 q17X1 q19X0 q19X1 q34X0 q34X1 q35X0 q35X1 K1 K4 K6
  have HB := N_HB
  have q8X0 := N_q8X0
  have q8X1 := N_q8X1
  have q14X0 := N_q14X0
  have q14X1 := N_q14X1
  have q17X0 := N_q17X0
  have q17X1 := N_q17X1
  have q19X0 := N_q19X0
  have q19X1 := N_q19X1
  have q34X0 := N_q34X0
  have q34X1 := N_q34X1
  have q35X0 := N_q35X0
  have q35X1 := N_q35X1
  have K1 := N_K1
  have K4 := N_K4
  have K6 := N_K6
  clear N_HB N_q8X0 N_q8X1 N_q14X0 N_q14X1 N_q17X0 N_q17X1 N_q19X0 N_q19X1 N_q34X0 N_q34X1 N_q35X0 N_q35X1 N_K1 N_K4 N_K6
  clear gb
  go_wp2
  go_ret
  exact ⟨rfl, by first | exact HB.out | exact below_alloc HB.out _ | exact below_alloc (below_alloc HB.out _) _ | exact below_alloc (below_alloc (below_alloc HB.out _) _) _⟩

/-! ### zmain_DiskSync: a text by hand -/
-- needs spec_DiskSync.f m_DiskSync.f laws_heldDisk.f
theorem dSync_ok (l0 : List Int) (l1 : List S60) (a2 : Int) (a3 : Bool) (h0 : l0.length ≤ 1048576) (ok : okPendS l1) : (dSync l0 l1 a2 a3).1.length ≤ 1048576 ∧ okPendS (dSync l0 l1 a2 a3).2.1 := by
  unfold dSync
  split
  · rename_i hv
    rw [Bool.and_eq_true] at hv
    obtain ⟨f1, f2, f3, f4, f5, f6, f7⟩ := vD_facts hv.1
    split
    · exact ⟨h0, ok⟩
    · exact ⟨by rw [syF_len l0 l1 f7 _ (Nat.le_refl _)]; exact h0, ⟨by simp, by simp⟩⟩
  · exact ⟨h0, ok⟩
theorem main_DiskSync (A0 : Option Addr) (c0 : Nat) (l0 : List Int) (A1 : Option Addr) (c1 : Nat) (l1 : List S78) (a2 : Int) (a3 : Bool)
    (F : (l0.length ≤ maxLen ∧ ∀ x ∈ l0, (Lit.int .u8 x).wf = true) ∧ (l1.length ≤ maxLen ∧ ∀ x ∈ l1, (Lit.int .i64 x.f0).wf = true ∧ (x.f1.length ≤ maxLen ∧ ∀ y ∈ x.f1, (Lit.int .u8 y).wf = true)) ∧ (Lit.int .i64 a2).wf = true ∧ True)
    (w : World) (hr0 : Kd.C (Kd.int .u8) w A0 l0.length l0) (hc0 : l0.length ≤ c0) (hr1 : Kd.C k78 w A1 l1.length l1) (hc1 : l1.length ≤ c1) :
    Calls Try.prog 7 #[.agg #[.slice A0 l0.length c0, .slice A1 l1.length c1, .int .i64 a2, .bool a3]] w fun e w' => e = .returned (.bool true) ∧ Below w.heap.size w w' := by
  obtain ⟨r, hr, hok⟩ := szDisk_ev l0 l1 a2 a3 F.1.1 F.2.1.1 (fun x hx => (F.2.1.2 x hx).2.1)
  by_cases c : r < 0
  · exact guard1_FnExactDiskSync A0 c0 l0 A1 c1 l1 a2 a3 r w hr0 hc0 hr1 hc1 hr c
  obtain ⟨h0, ok⟩ := hok (by omega)
  have hT := toDisk_ev l0 l1 a2 a3 h0 ok
  generalize cvPend l1 = l1' at hT ok
  have hs := specSync_ev l0 l1' a2 a3 h0 ok
  have hi : m_DiskSync.f l0 l1' a2 a3 = some (dSync l0 l1' a2 a3) := if_pos ⟨h0, ok.1, List.all_eq_true.2 (fun x hx => decide_eq_true (ok.2 x hx))⟩
  have hlen := dSync_ok l0 l1' a2 a3 h0 ok
  generalize dSync l0 l1' a2 a3 = g at hs hi hlen
  obtain ⟨r1, r2, r3, r4⟩ := g
  obtain ⟨hl1, ok2⟩ := hlen
  simp only at hl1 ok2
  have hb := mkP_bd l1' ok.2 (1 + l0.length)
  have o1 := ok.1
  have hb2 := mkP_bd r2 ok2.2 (1 + r1.length)
  have o2 := ok2.1
  exact walk_FnExactDiskSync A0 c0 l0 A1 c1 l1 a2 a3 r l0 l1' a2 a3 r1 r2 r3 r4 (1 + l0.length) (mkB 1 l0) _ _ (1 + r1.length) (mkB 1 r1) _ _ w hr0 hc0 hr1 hc1 hr (by omega) hT hs hi (eqDisk_ev r1 r2 r3 r4 hl1 ok2) (eqDisk_ev l0 l1' a2 a3 h0 ok)
    (markByteS_ev l0 1 (by omega) (by omega)) (markPendS_ev l1' ok.2 _ (by omega) (by omega)) (by omega) (markByteS_ev r1 1 (by omega) (by omega)) (markPendS_ev r2 ok2.2 _ (by omega) (by omega)) (by omega) (heldDisk_ev r1 r2 r3 r4 hl1 ok2)
end Go.Proofs.Ytbimdcekcemcoaa.PD
