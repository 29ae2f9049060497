-- Made by this session's programs out of the translation and of its own texts.
import Derived.Test.YteddpdonmhiplaaMFnCrashg
namespace Go.Proofs.Yteddpdonmhiplaa.PR
open Go.RowKit Go.Proofs.YteddpdonmhiplaaW.PrintWords Go.Proofs.YteddpdonmhiplaaW.PrintLast Go.Proofs.YteddpdonmhiplaaW.PrintMore
attribute [local go_sem] max2_int min2_int max_two min_two max_three min_three max_four min_four   -- for this text's walks alone
set_option linter.unusedVariables false
set_option linter.unusedSimpArgs false

/-! ### zl_draw6: a text by hand -/
-- import Derived.Laws.ResultCell
-- uses Stp.blk Cur.far4 RD SB.of
theorem results_two {P : Program} {fn : Func} {p u : Tmp} {ty : TypeId} (h : fn.results = #[.cell p ty, .tmp u]) (tmps : Array Value) (w : World) (g : Nat) (t : TypeId) (cs : Array Value) (fr : Nat × Nat) (d : TypeDesc)
  (hp : tmps.getD p undef = .pointer (some ⟨g, 0, none⟩)) (hg : w.heap[g]? = some (.cells cs t fr))
  (hu : P.underlying ty = some d) (hd : (match d with | .struct _ | .array _ _ => true | _ => false) = true) (hi : (P.info? ty).map (·.size) = some cs.size) :
  (results fn tmps).run P w = .ok (.tuple #[.agg cs, tmps.getD u undef]) w := by
 rw [results_cell_tmp h, hp]
 simp [asAddr, run_loadVar_row w g t ty cs fr d hg hu hd hi]
set_option maxHeartbeats 4000000 in
set_option maxRecDepth 100000 in
theorem drawCrash_any {c : Nat} {A : Option Addr} {xs : List Int} {w : World} (hr : Kd.C (Kd.int .u8) w A xs.length xs) (hc : xs.length ≤ c) (hs : ∀ y ∈ xs, 0 ≤ y ∧ y < 256) (hl : xs.length ≤ 1048576) :
  Calls Try.prog 10 #[.slice A xs.length c] w fun e W' => ∃ (A2 B2 : Option Addr) (c2 d2 : Nat) (r0 : List Int) (r1 : List S79) (r2 : Int) (r3 : Bool) (v : Value) (ks : List Bool), e = .returned (.tuple #[.agg #[.slice A2 r0.length c2, .slice B2 r1.length d2, .int .i64 r2, .bool r3], v]) ∧ RD w.heap.size W' (.slice A2 r0.length c2) (.slice B2 r1.length d2) r0 r1 ∧ Kd.R Kd.bool 4 W' w.heap.size (fun _ => True) v ks ∧ ks.length ≤ 2003 ∧ Below w.heap.size w W' := by
 have hb0 : Below w.heap.size w (w.alloc (.cells #[.slice none 0 0, .slice none 0 0, .int .i64 0, .bool false] 25)) := below_alloc (Below.refl _ _) _
 have HR := Aside0.mk (Kd.C_below hr hb0)
 have K2 := Aside0.mk (blk_new w (.cells #[.slice none 0 0, .slice none 0 0, .int .i64 0, .bool false] 25))
 have HZ := Aside0.mk (show (w.alloc (.cells #[.slice none 0 0, .slice none 0 0, .int .i64 0, .bool false] 25)).heap.size = w.heap.size + 1 by simp)
 have HB := Aside0.mk hb0
 have HL := Aside0.mk (And.intro hc (And.intro hs hl))
 have hu25 := Try.underlying25
 clear hb0 hr hc hs hl
 go_enter Try.func10, Try.ntmps10
 go_wp2_with fail
 generalize (w.alloc (.cells #[.slice none 0 0, .slice none 0 0, .int .i64 0, .bool false] 25)) = W0 at *
 obtain ⟨n0, hn0⟩ : ∃ n0, n0 = w.heap.size := ⟨_, rfl⟩
 rw [← hn0] at K2 HZ HB ⊢
 have HN := Aside0.mk hn0
 clear hn0
 refine (l1New_any HR.out HL.out.1 HL.out.2.1 HL.out.2.2).mono ?_
 rintro e W1 ⟨p, rfl, hC, hb⟩
 rw [HZ.out] at hC
 have HC := Aside0.mk hC
 have HP := Aside0.mk hC.l
 replace K2 := Aside0.mk (blk_below K2.out hb)
 replace HB := Aside0.mk (Below.trans_lo HB.out hb (by rw [HZ.out]; exact Nat.le_succ _))
 clear hC hb HR
 go_wp2_with fail
 refine (l1AnyDisk_any HC.out).mono ?_
 rintro e W2 ⟨A2, B2, c2, d2, r0, r1, r2, r3, rfl, hD, hC, hS⟩
 have hb1 := below_alloc (Below.refl _ W2) (.cells #[.slice A2 r0.length c2, .slice B2 r1.length d2, .int .i64 r2, .bool r3] 25)
 have HPL := Aside0.mk HC.out.lt
 have HD := Aside0.mk (hD.same (fun k _ hk => hb1.block k hk))
 have HO := Aside0.mk (blk_new W2 (.cells #[.slice A2 r0.length c2, .slice B2 r1.length d2, .int .i64 r2, .bool r3] 25))
 replace K2 := Aside0.mk (blk_below (hS.blk K2.out (by have := HP.out; omega)) hb1)
 replace HB := Aside0.mk (Below.trans_lo (Below.trans_same HB.out ⟨hS.b.os, hS.b.tape, hS.b.output, hS.b.size, fun k hk => hS.b.block k (by omega)⟩) hb1 (by have h1 := hS.b.size; have h2 := HC.out.lt; have h3 := HP.out; omega))
 have HPW := Aside0.mk (show p < W2.heap.size by have h1 := hS.b.size; have h2 := HC.out.lt; omega)
 have HW12 := Aside0.mk hS.b.size
 replace HC := Aside0.mk (hC.below hb1)
 clear hD hC hS hb1
 obtain ⟨z0, z1, z2, z3, y0, y1, y2, y3⟩ := blk_cells4 HO.out
 go_wp2_with fail
 have hn1 := HD.out.n1
 refine (l1Keep_any (r1.length : Int) (by omega) (by omega) HC.out).mono ?_
 rintro e W3 ⟨v, ks, rfl, hR, hk, hC, hS⟩
 have HR := Aside0.mk hR
 have HK := Aside0.mk hk
 have hpw := HPW.out
 have hpl := HPL.out
 have hp := HP.out
 have h12 := HW12.out
 have hz : (W2.alloc (.cells #[.slice A2 r0.length c2, .slice B2 r1.length d2, .int .i64 r2, .bool r3] 25)).heap.size = W2.heap.size + 1 := by simp
 replace HD := Aside0.mk (HD.out.same (fun k hk1 hk2 => hS.k.2 k hk2 (by omega)))
 replace K2 := Aside0.mk (hS.blk K2.out (by omega))
 replace HO := Aside0.mk (hS.blk HO.out (by omega))
 replace HB := Aside0.mk (Below.trans_same HB.out ⟨hS.b.os, hS.b.tape, hS.b.output, hS.b.size, fun k hk => hS.b.block k (by omega)⟩)
 clear hR hk hC hS hn1 z0 z1 z2 z3 y0 y1 y2 y3
 obtain ⟨z0, z1, z2, z3, y0, y1, y2, y3⟩ := blk_cells4 HO.out
 obtain ⟨x0, x1, x2, x3, u0, u1, u2, u3⟩ := blk_cells4 K2.out
 have ul := blk_lt K2.out
 obtain ⟨EA, ec, rfl⟩ := Kd.R_slice HR.out
 go_wp2_with fail
 refine bodyPost_ret (results_two rfl _ _ n0 25 _ (0, 0) _ rfl (blk_set4 K2.out) hu25 rfl (by kernel_rfl)) rfl ?_
 rw [← HN.out]
 exact ⟨_, _, _, _, _, _, _, _, _, ks, rfl, (HD.out.same (fun k hk _ => set4_other _ _ _ _ (by omega))).lower (by omega), Kd.R_lower (R_farB (R_farB (R_farB (R_farB HR.out (by omega) _ _) (by omega) _ _) (by omega) _ _) (by omega) _ _) (by omega), HK.out, below_setB (below_setB (below_setB (below_setB HB.out (Nat.le_refl _) _ _) (Nat.le_refl _) _ _) (Nat.le_refl _) _ _) (Nat.le_refl _) _ _⟩

/-! ### zl_lawcrash: a text by hand -/
-- uses RD.c0
def lawCrash.gT11 : Bool × List (List Nat × List Nat) := (true, [([], []), ([], []), ([0, 1], [0, 1]), ([], []), ([], []), ([3, 4, 2], [3, 4]), ([2, 5, 5], [2, 5]), ([6], [6])])
def lawCrash.gB11 : List Nat := [0, 0, 3, 0, 0, 31, 63, 127]
theorem lawCrash.gtab11 : rtab .any (opsOf Try.f3 11) = lawCrash.gT11 := by kernel_rfl
theorem lawCrash.gbits11 : waitsOk lawCrash.gT11.2 lawCrash.gB11 = true := by kernel_rfl
def lawCrash.gT18 : Bool × List (List Nat × List Nat) := (true, [([], []), ([], []), ([0, 1], [0, 1]), ([2], [2]), ([], []), ([4], [4]), ([3, 5, 2], [3, 5]), ([6, 6], [6]), ([7], [7]), ([8, 7], [7, 8]), ([9, 7, 7], [7, 9]), ([10], [10]), ([11, 10], [10, 11]), ([12, 10], [10, 12]), ([10, 13, 7], [7, 10, 13]), ([14, 10, 7], [7, 14]), ([15], [15]), ([15], [15]), ([16, 17, 15, 15], [15, 16, 17]), ([18, 15], [15, 18]), ([15], [15]), ([20, 18, 15], [15, 20]), ([21, 15], [15, 21]), ([19, 22, 21, 15], [15, 19, 22]), ([15, 23, 7], [7, 15, 23]), ([7, 24], [7, 24]), ([25, 23, 0, 1, 2, 3, 4, 5, 6, 7, 8, 9, 10, 11, 12, 13, 14, 15, 16, 17, 18, 19, 20, 21, 22, 23, 24, 25], [25])])
def lawCrash.gB18 : List Nat := [0, 0, 3, 7, 0, 16, 63, 127, 255, 511, 1023, 2047, 4095, 8191, 16383, 32767, 65535, 65535, 262143, 524287, 65535, 1572863, 3670015, 8388607, 16777215, 33554431, 67108863]
theorem lawCrash.gtab18 : rtab .any (opsOf Try.f3 18) = lawCrash.gT18 := by kernel_rfl
theorem lawCrash.gbits18 : waitsOk lawCrash.gT18.2 lawCrash.gB18 = true := by kernel_rfl
theorem crF_none (l0 : List Int) (l1 : List S79) : ∀ i, crF l0 l1 [] i = l0
 | 0 => rfl
 | i + 1 => by rw [crF, if_neg (fun h => by have := h.1; simp at this; omega), crF_none l0 l1 i]
theorem crF_all (l0 : List Int) (l1 : List S79) (n : Nat) : ∀ i, i ≤ n → crF l0 l1 (List.replicate n true) i = syF l0 l1 i
 | 0, _ => rfl
 | i + 1, hi => by
   rw [crF, if_pos ⟨by rw [List.length_replicate]; omega, by unfold rdOf; rw [Int.toNat_natCast, List.getD_eq_getElem?_getD, List.getElem?_replicate, if_pos (by omega)]; rfl⟩, crF_all l0 l1 n i (by omega)]
   rfl
set_option maxRecDepth 100000 in
theorem field0 (a b c d : Value) (W : World) : (Instr.field 25 (.agg #[a, b, c, d]) 0).run Try.prog W = .ok a W := by
 simp [Instr.field, go_sem, Try.underlying25]
 try rfl
set_option maxRecDepth 100000 in
theorem lw_same (A A' : Option Addr) (c c' : Nat) (l : List Int) (w : World) (h : Kd.C (Kd.int .u8) w A l.length l) (h' : Kd.C (Kd.int .u8) w A' l.length l) :
  Calls Try.prog 15 #[.slice A l.length c, .slice A' l.length c'] w fun e w' => e = .returned (.bool true) ∧ w' = w := by
 have hcv1 := Kd.C_string (P := Try.prog) (c := c) Try.underlying22 Try.underlying5 Try.underlying9 h
 have hcv2 := Kd.C_string (P := Try.prog) (c := c') Try.underlying22 Try.underlying5 Try.underlying9 h'
 clear h h'
 go_enter Try.func15, Try.ntmps15
 go_wp2_with fail
 go_ret
 exact ⟨by first | rfl | simp, rfl⟩
set_option maxHeartbeats 4000000 in
set_option maxRecDepth 100000 in
theorem main_FnCrash (A0 : Option Addr) (c0 : Nat) (xs : List Int) (F : xs.length ≤ maxLen ∧ ∀ x ∈ xs, (Lit.int .u8 x).wf = true) (w : World) (hr0 : Kd.C (Kd.int .u8) w A0 xs.length xs) (hc0 : xs.length ≤ c0) :
  Calls Try.prog 3 #[.slice A0 xs.length c0] w fun e w' => e = .returned (.bool true) ∧ Below w.heap.size w w' := by
 have hu25 := Try.underlying25
 have hfl : ∀ (a b c d : Value) (W : World), (Instr.field 25 (.agg #[a, b, c, d]) 0).run Try.prog W = .ok a W := field0
 go_enter Try.func3, Try.ntmps3
 by_cases cg : 1048576 < xs.length
 ·have g1 : decide (1048576 < xs.length) = true := decide_eq_true cg
  have g2 : decide ((1048576 : Int) < (xs.length : Int)) = true := decide_eq_true (by omega)
  clear F
  go_wp2_with fail
  go_ret
  exact ⟨rfl, Below.refl _ _⟩
 have g1 : decide (1048576 < xs.length) = false := decide_eq_false cg
 have g2 : decide ((1048576 : Int) < (xs.length : Int)) = false := decide_eq_false (by omega)
 have hby : ∀ x ∈ xs, 0 ≤ x ∧ x < 256 := fun x hx => by
  have := F.2 x hx
  simp [Lit.wf] at this
  have h1 : IntKind.u8.min = 0 := by kernel_rfl
  have h2 : IntKind.u8.max = 255 := by kernel_rfl
  omega
 have HY := Aside0.mk (And.intro hr0 (And.intro hc0 (And.intro hby (show xs.length ≤ 1048576 by omega))))
 clear F hby cg hr0 hc0
 go_wp2_with fail
 refine (drawCrash_any HY.out.1 HY.out.2.1 HY.out.2.2.1 HY.out.2.2.2).mono ?_
 rintro e W1 ⟨A2, B2, c2, d2, r0, r1, r2, r3, v, ks, rfl, hD, hK, hkl, hb⟩
 obtain ⟨EK, ek, rfl⟩ := Kd.R_slice hK
 have HN := Aside0.mk (And.intro hD.c0.1 (And.intro hD.c1.1 (And.intro (Kd.R_reads' hK).2.1 hkl)))
 have HD := Aside0.mk (And.intro hD.n (And.intro hD.ok hD.n1))
 have F0 := Aside0.mk hD.c0.2
 have F1 := Aside0.mk hD.c1.2
 have FK := Aside0.mk (Kd.R_reads' hK).2.2
 have HB := Aside0.mk hb
 clear hD hK hkl hb g1 g2 HY
 obtain ⟨kv, hv⟩ := (specValid_ev r0 r1 r2 r3 HD.out.1 HD.out.2.1.1).rounds
 obtain ⟨ki, hi⟩ := (implValid_ev r0 r1 r2 r3 HD.out.1 HD.out.2.1.1).rounds
 have HV := Aside0.mk hv
 have HI := Aside0.mk hi
 clear hv hi
 have K3 := Aside0.mk (blk_new W1 (.cells #[.slice A2 r0.length c2, .slice B2 r1.length d2, .int .i64 r2, .bool r3] 25))
 have hb3 := below_alloc (Below.refl _ W1) (.cells #[.slice A2 r0.length c2, .slice B2 r1.length d2, .int .i64 r2, .bool r3] 25)
 replace F0 := Aside0.mk (Kd.C_below F0.out hb3)
 replace F1 := Aside0.mk (Kd.C_below F1.out hb3)
 replace FK := Aside0.mk (Kd.C_below FK.out hb3)
 replace HB := Aside0.mk (below_step HB.out hb3)
 clear hb3
 go_wp2_with fail
 generalize (W1.alloc (.cells #[.slice A2 r0.length c2, .slice B2 r1.length d2, .int .i64 r2, .bool r3] 25)) = W2 at *
 generalize W1.heap.size = g3 at *
 refine (spec_ValidDisk.calls kv _ _ r0 _ _ r1 r2 r3 _ _ F0.out HN.out.1 F1.out HN.out.2.1 HV.out).mono ?_
 rintro e W3 ⟨rfl, hb⟩
 have hb_ := hb
 replace K3 := Aside0.mk (blk_below K3.out hb_)
 replace F0 := Aside0.mk (Kd.C_below F0.out hb_)
 replace F1 := Aside0.mk (Kd.C_below F1.out hb_)
 replace FK := Aside0.mk (Kd.C_below FK.out hb_)
 replace HB := Aside0.mk (below_step HB.out hb_)
 clear hb_
 clear hb
 obtain ⟨z0, z1, z2, z3, y0, y1, y2, y3⟩ := blk_cells4 K3.out
 have hcr := fun (ks' : List Bool) (h : ks'.length ≤ 2003) => (show m_DiskCrash.f r0 r1 r2 r3 ks' = some (dCrash r0 r1 r2 ks') from if_pos ⟨HD.out.1, HD.out.2.1.1, by omega⟩)
 have HCR := Aside0.mk hcr
 clear hcr
 by_cases cv : vD r0 r1 r2 = true
 case neg =>
  have cv' : vD r0 r1 r2 = false := by simpa using cv
  rw [cv'] at HI ⊢
  have hq : dCrash r0 r1 r2 ks = ([], [], 0, false) := by unfold dCrash; rw [if_neg cv]
  have hq2 := HCR.out ks HN.out.2.2.2
  rw [hq] at hq2
  have HQ := Aside0.mk hq2
  clear cv cv' hq hq2
  go_wp2_with fail
  refine (impl_DiskCrash.calls A2 c2 r0 B2 d2 r1 r2 r3 EK ek ks [] [] 0 false _ F0.out HN.out.1 F1.out HN.out.2.1 FK.out HN.out.2.2.1 HQ.out).mono ?_
  rintro e W4 ⟨v0, v1, rfl, hR, hS, hb⟩
  obtain ⟨A4, c4, rfl⟩ := Kd.R_slice hR
  have hb_ := hb
  replace K3 := Aside0.mk (blk_below K3.out hb_)
  replace F0 := Aside0.mk (Kd.C_below F0.out hb_)
  replace F1 := Aside0.mk (Kd.C_below F1.out hb_)
  replace FK := Aside0.mk (Kd.C_below FK.out hb_)
  replace HB := Aside0.mk (below_step HB.out hb_)
  clear hb_
  clear hb hR hS z0 z1 z2 z3 y0 y1 y2 y3
  obtain ⟨z0, z1, z2, z3, y0, y1, y2, y3⟩ := blk_cells4 K3.out
  go_wp2_with fail
  refine (impl_ValidDisk.calls ki _ _ r0 _ _ r1 r2 r3 _ _ F0.out HN.out.1 F1.out HN.out.2.1 HI.out).mono ?_
  rintro e W5 ⟨rfl, hb⟩
  replace HB := Aside0.mk (below_step HB.out hb)
  clear hb
  go_wp2_with fail
  go_ret
  exact ⟨rfl, HB.out⟩
 rw [cv]
 have HVF := Aside0.mk (vD_facts cv)
 have HCV := Aside0.mk cv
 clear cv
 obtain ⟨q, hq⟩ : ∃ q, q = dCrash r0 r1 r2 ks := ⟨_, rfl⟩
 have hqn : q.1.length ≤ 1048576 ∧ q.2.1.length ≤ 1048576 := by
  rw [hq]
  unfold dCrash
  rw [if_pos HCV.out]
  exact ⟨by rw [crF_len r0 r1 ks HVF.out.2.2.2.2.2.2 _ (Nat.le_refl _)]; exact HD.out.1, by simp⟩
 have hq2 := HCR.out ks HN.out.2.2.2
 rw [← hq] at hq2
 have HQ := Aside0.mk hq2
 obtain ⟨kc, hkc⟩ := (specCrash_ev r0 r1 r2 r3 ks HD.out.1 HD.out.2.1.1).rounds
 rw [← hq] at hkc
 have HKC := Aside0.mk hkc
 have HQN := Aside0.mk hqn
 clear hq hqn hq2 hkc
 go_wp2_with fail
 refine (impl_DiskCrash.calls A2 c2 r0 B2 d2 r1 r2 r3 EK ek ks q.1 q.2.1 q.2.2.1 q.2.2.2 _ F0.out HN.out.1 F1.out HN.out.2.1 FK.out HN.out.2.2.1 HQ.out).mono ?_
 rintro e W4 ⟨v0, v1, rfl, hR, hS, hb⟩
 obtain ⟨A5, c5, rfl⟩ := Kd.R_slice hR
 obtain ⟨B5, d5, rfl⟩ := Kd.S_slice hS
 have G0 := Aside0.mk (Kd.R_reads' hR).2.2
 have G1 := Aside0.mk (Kd.R_reads' (Kd.S_R hS)).2.2
 have HN5 := Aside0.mk (And.intro (Kd.R_reads' hR).2.1 (Kd.R_reads' (Kd.S_R hS)).2.1)
 clear hR hS z0 z1 z2 z3 y0 y1 y2 y3
 have hb_ := hb
 replace K3 := Aside0.mk (blk_below K3.out hb_)
 replace F0 := Aside0.mk (Kd.C_below F0.out hb_)
 replace F1 := Aside0.mk (Kd.C_below F1.out hb_)
 replace FK := Aside0.mk (Kd.C_below FK.out hb_)
 replace HB := Aside0.mk (below_step HB.out hb_)
 clear hb_
 clear hb
 go_upto_region 7 with (fail)
 have K5 := Aside0.mk (blk_new W4 (.cells #[.slice A5 q.1.length c5, .slice B5 q.2.1.length d5, .int .i64 q.2.2.1, .bool q.2.2.2] 25))
 have hb5 := below_alloc (Below.refl _ W4) (.cells #[.slice A5 q.1.length c5, .slice B5 q.2.1.length d5, .int .i64 q.2.2.1, .bool q.2.2.2] 25)
 have hb_ := hb5
 replace K3 := Aside0.mk (blk_below K3.out hb_)
 replace F0 := Aside0.mk (Kd.C_below F0.out hb_)
 replace F1 := Aside0.mk (Kd.C_below F1.out hb_)
 replace FK := Aside0.mk (Kd.C_below FK.out hb_)
 replace G0 := Aside0.mk (Kd.C_below G0.out hb_)
 replace G1 := Aside0.mk (Kd.C_below G1.out hb_)
 replace HB := Aside0.mk (below_step HB.out hb_)
 clear hb_
 clear hb5
 generalize (W4.alloc (.cells #[.slice A5 q.1.length c5, .slice B5 q.2.1.length d5, .int .i64 q.2.2.1, .bool q.2.2.2] 25)) = W5 at *
 generalize W4.heap.size = g5 at *
 obtain ⟨z0, z1, z2, z3, y0, y1, y2, y3⟩ := blk_cells4 K3.out
 go_wp2_with fail
 refine (spec_DiskCrash.calls kc A2 c2 r0 B2 d2 r1 r2 r3 EK ek ks q.1 q.2.1 q.2.2.1 q.2.2.2 _ F0.out HN.out.1 F1.out HN.out.2.1 FK.out HN.out.2.2.1 HKC.out).mono ?_
 rintro e W6 ⟨v0, v1, rfl, hR, hS, hb⟩
 obtain ⟨A6, c6, rfl⟩ := Kd.R_slice hR
 obtain ⟨B6, d6, rfl⟩ := Kd.S_slice hS
 have M0 := Aside0.mk (Kd.R_reads' hR).2.2
 have M1 := Aside0.mk (Kd.R_reads' (Kd.S_R hS)).2.2
 have HN6 := Aside0.mk (And.intro (Kd.R_reads' hR).2.1 (Kd.R_reads' (Kd.S_R hS)).2.1)
 clear hR hS
 have hb_ := hb
 replace K3 := Aside0.mk (blk_below K3.out hb_)
 replace K5 := Aside0.mk (blk_below K5.out hb_)
 replace F0 := Aside0.mk (Kd.C_below F0.out hb_)
 replace F1 := Aside0.mk (Kd.C_below F1.out hb_)
 replace FK := Aside0.mk (Kd.C_below FK.out hb_)
 replace G0 := Aside0.mk (Kd.C_below G0.out hb_)
 replace G1 := Aside0.mk (Kd.C_below G1.out hb_)
 replace HB := Aside0.mk (below_step HB.out hb_)
 clear hb_
 clear hb z0 z1 z2 z3 y0 y1 y2 y3
 go_upto_region 8 with (fail)
 have K6 := Aside0.mk (blk_new W6 (.cells #[.slice A6 q.1.length c6, .slice B6 q.2.1.length d6, .int .i64 q.2.2.1, .bool q.2.2.2] 25))
 have hb6 := below_alloc (Below.refl _ W6) (.cells #[.slice A6 q.1.length c6, .slice B6 q.2.1.length d6, .int .i64 q.2.2.1, .bool q.2.2.2] 25)
 have hb_ := hb6
 replace K3 := Aside0.mk (blk_below K3.out hb_)
 replace K5 := Aside0.mk (blk_below K5.out hb_)
 replace F0 := Aside0.mk (Kd.C_below F0.out hb_)
 replace F1 := Aside0.mk (Kd.C_below F1.out hb_)
 replace FK := Aside0.mk (Kd.C_below FK.out hb_)
 replace G0 := Aside0.mk (Kd.C_below G0.out hb_)
 replace G1 := Aside0.mk (Kd.C_below G1.out hb_)
 replace M0 := Aside0.mk (Kd.C_below M0.out hb_)
 replace M1 := Aside0.mk (Kd.C_below M1.out hb_)
 replace HB := Aside0.mk (below_step HB.out hb_)
 clear hb_
 clear hb6
 generalize (W6.alloc (.cells #[.slice A6 q.1.length c6, .slice B6 q.2.1.length d6, .int .i64 q.2.2.1, .bool q.2.2.2] 25)) = W7 at *
 generalize W6.heap.size = g6 at *
 go_wp2_with fail
 go_loopg [7] r0.length (fun kq v7 w' => ∃ s : Nat, v7 = .int .i64 s ∧ Aside0 (s ≤ r0.length ∧ r0.length ≤ kq + s) ∧ Aside0 (Below W7.heap.size W7 w'))
 case atStart => exact ⟨0, rfl, ⟨by omega, by omega⟩, ⟨Below.refl _ _⟩⟩
 case round =>
  obtain ⟨s, rfl, HS, HW⟩ := hrel
  have K3' := Aside0.mk (blk_below K3.out HW.out)
  obtain ⟨z0, z1, z2, z3, y0, y1, y2, y3⟩ := blk_cells4 K3'.out
  have HW6 := Aside0.mk (show wrap64 (64 * (s : Int)) = ((64 * s : Nat) : Int) by have := HS.out; have := HD.out.1; unfold wrap64; omega)
  by_cases ci : 64 * s < r0.length
  ·have cib : decide (wrap64 (64 * (s : Int)) < (r0.length : Int)) = true := decide_eq_true (by rw [HW6.out]; omega)
   have HIN := Aside0.mk ci
   clear ci
   cases gk with
   | zero => exact absurd HS.out (by have := HIN.out; omega)
   | succ m =>
     go_upto_region 11 with (fail)
     clear z0 z1 z2 z3 y0 y1 y2 y3
     have k5 := Aside0.mk (blk_below K5.out HW.out)
     have k6 := Aside0.mk (blk_below K6.out HW.out)
     have HW1 := Aside0.mk (show wrap64 ((s : Int) + 1) = ((s + 1 : Nat) : Int) by have := HS.out; have := HD.out.1; unfold wrap64; omega)
     obtain ⟨T, hT⟩ : ∃ T, T = (if (vD q.1 q.2.1 q.2.2.1 && inD q.1 (s : Int)) = true then dRd q.1 q.2.1 (s : Int) else []) := ⟨_, rfl⟩
     have HMR := Aside0.mk (show m_DiskRead.f q.1 q.2.1 q.2.2.1 q.2.2.2 (s : Int) = some T from by rw [hT]; exact if_pos ⟨HQN.out.1, HQN.out.2⟩)
     obtain ⟨kr, hkr⟩ := (specRead_ev q.1 q.2.1 q.2.2.1 q.2.2.2 (s : Int) HQN.out.1 HQN.out.2).rounds
     rw [← hT] at hkr
     have HKR := Aside0.mk hkr
     clear hT hkr
     refine start_ (n := 8) (S := fun w' => w'.heap[g5]? = some (.cells #[.slice A5 q.1.length c5, .slice B5 q.2.1.length d5, .int .i64 q.2.2.1, .bool q.2.2.2] 25 (0, 0)) ∧ w'.heap[g6]? = some (.cells #[.slice A6 q.1.length c6, .slice B6 q.2.1.length d6, .int .i64 q.2.2.1, .bool q.2.2.2] 25 (0, 0))) (ds := []) #[false, false, false, false, false, false, false, false] (by kernel_rfl) rfl rfl ⟨k5.out, k6.out⟩ (fun hHeld => ?_); refine with_tabW lawCrash.gtab11 lawCrash.gbits11 (fun HT_ HW_ => ?_)
     have hb_ : Below wr.heap.size wr wr.drew := below_drew (Below.refl _ _)
     replace k5 := Aside0.mk (blk_below k5.out hb_)
     replace k6 := Aside0.mk (blk_below k6.out hb_)
     replace HW := Aside0.mk (below_step HW.out hb_)
     clear hb_
     generalize wr.drew = Wd at *
     refine take_ (i := 0) (N := some 46) (v := ?_) (a' := ?_) #[true, false, false, false, false, false, false, false] rfl rfl (take_ofW HT_.out HW_.out (by kernel_rfl)) (fun _ _ _ h => h) (Or.inl ⟨by rfl, ?_⟩) hHeld ?_ ?_
     rotate_left
     ·rintro w' ⟨s0, s1⟩
      obtain ⟨z0, z1, z2, z3, y0, y1, y2, y3⟩ := blk_cells4 s0
      go_simp
      with_reducible rfl
     rotate_left
     ·simp only [Act.put, List.setIfInBounds_toArray, List.set_cons_zero, List.set_cons_succ, i64_w, i32_w]
      rfl
     refine pure_ (i := 1) (N := some 47) (v := ?_) (a' := ?_) #[true, true, false, false, false, false, false, false] rfl rfl (any_of HT_.out (by kernel_rfl)) (fun _ _ _ h => h) (Or.inl ⟨by rfl, ?_⟩) ?_ ?_
     rotate_left
     ·intro w'
      go_simp
      with_reducible rfl
     rotate_left
     ·simp only [Act.put, List.setIfInBounds_toArray, List.set_cons_zero, List.set_cons_succ, i64_w, i32_w]
      rfl
     refine take_ (i := 3) (N := some 49) (v := ?_) (a' := ?_) #[true, true, false, true, false, false, false, false] rfl rfl (take_ofW HT_.out HW_.out (by kernel_rfl)) (fun _ _ _ h => h) (Or.inl ⟨by rfl, ?_⟩) hHeld ?_ ?_
     rotate_left
     ·rintro w' ⟨s0, s1⟩
      obtain ⟨z0, z1, z2, z3, y0, y1, y2, y3⟩ := blk_cells4 s1
      go_simp
      with_reducible rfl
     rotate_left
     ·simp only [Act.put, List.setIfInBounds_toArray, List.set_cons_zero, List.set_cons_succ, i64_w, i32_w]
      rfl
     refine pure_ (i := 4) (N := some 50) (v := ?_) (a' := ?_) #[true, true, false, true, true, false, false, false] rfl rfl (any_of HT_.out (by kernel_rfl)) (fun _ _ _ h => h) (Or.inl ⟨by rfl, ?_⟩) ?_ ?_
     rotate_left
     ·intro w'
      go_simp
      with_reducible rfl
     rotate_left
     ·simp only [Act.put, List.setIfInBounds_toArray, List.set_cons_zero, List.set_cons_succ, i64_w, i32_w]
      rfl
     refine one_ (i := 2) (N := some 48) #[true, true, true, true, true, false, false, false] rfl rfl (one_of HT_.out (by kernel_rfl)) (by decide) (fun K hK => ?_)
     refine goes_ Try.func16 (by kernel_rfl) rfl #[.agg #[.slice A5 q.1.length c5, .slice B5 q.2.1.length d5, .int .i64 q.2.2.1, .bool q.2.2.2], .int .i64 s] (by rfl) rfl rfl (by (try simp only [List.map_toArray, List.map_cons, List.map_nil]); first | done | rfl) ?_
     refine (impl_DiskRead.calls A5 c5 q.1 B5 d5 q.2.1 q.2.2.1 q.2.2.2 (s : Int) T _ (Kd.C_below G0.out HW.out) HN5.out.1 (Kd.C_below G1.out HW.out) HN5.out.2 HMR.out).mono ?_
     rintro e We ⟨va, rfl, hR, hb⟩
     obtain ⟨Aa, ca, rfl⟩ := Kd.R_slice hR
     refine ⟨_, rfl, ?_⟩
     have RA := Aside0.mk (Kd.R_reads' hR).2.2
     replace k5 := Aside0.mk (blk_below k5.out hb)
     replace k6 := Aside0.mk (blk_below k6.out hb)
     replace HW := Aside0.mk (below_step HW.out hb)
     clear hR hb
     refine hK.out _ _ ⟨k5.out, k6.out⟩ (fun hHeld => ?_)
     clear hK K
     refine norm_ (a' := ?_) ?_ ?_
     rotate_left
     ·show Act.put _ (some 48) _ = _
      simp only [Act.put, List.setIfInBounds_toArray, List.set_cons_zero, List.set_cons_succ, i64_w, i32_w]
      rfl
     refine one_ (i := 5) (N := some 51) #[true, true, true, true, true, true, false, false] rfl rfl (one_of HT_.out (by kernel_rfl)) (by decide) (fun K hK => ?_)
     refine goes_ Try.func17 (by kernel_rfl) rfl #[.agg #[.slice A6 q.1.length c6, .slice B6 q.2.1.length d6, .int .i64 q.2.2.1, .bool q.2.2.2], .int .i64 s] (by rfl) rfl rfl (by (try simp only [List.map_toArray, List.map_cons, List.map_nil]); first | done | rfl) ?_
     refine (spec_DiskRead.calls kr A6 c6 q.1 B6 d6 q.2.1 q.2.2.1 q.2.2.2 (s : Int) T _ (Kd.C_below M0.out HW.out) HN6.out.1 (Kd.C_below M1.out HW.out) HN6.out.2 HKR.out).mono ?_
     rintro e Wf ⟨va, rfl, hR, hb⟩
     obtain ⟨Ab, cb, rfl⟩ := Kd.R_slice hR
     refine ⟨_, rfl, ?_⟩
     have RB := Aside0.mk (Kd.R_reads' hR).2.2
     replace RA := Aside0.mk (Kd.C_below RA.out hb)
     replace k5 := Aside0.mk (blk_below k5.out hb)
     replace k6 := Aside0.mk (blk_below k6.out hb)
     replace HW := Aside0.mk (below_step HW.out hb)
     clear hR hb
     refine hK.out _ _ ⟨k5.out, k6.out⟩ (fun hHeld => ?_)
     clear hK K
     refine norm_ (a' := ?_) ?_ ?_
     rotate_left
     ·show Act.put _ (some 51) _ = _
      simp only [Act.put, List.setIfInBounds_toArray, List.set_cons_zero, List.set_cons_succ, i64_w, i32_w]
      rfl
     refine one_ (i := 6) (N := some 52) #[true, true, true, true, true, true, true, false] rfl rfl (one_of HT_.out (by kernel_rfl)) (by decide) (fun K hK => ?_)
     refine goes_ Try.func15 (by kernel_rfl) rfl #[.slice Aa T.length ca, .slice Ab T.length cb] (by rfl) rfl rfl (by (try simp only [List.map_toArray, List.map_cons, List.map_nil]); first | done | rfl) ?_
     refine (lw_same Aa Ab ca cb T _ RA.out RB.out).mono ?_
     rintro e Wg ⟨rfl, rfl⟩
     refine ⟨_, rfl, ?_⟩
     refine hK.out _ _ ⟨k5.out, k6.out⟩ (fun hHeld => ?_)
     clear hK K
     refine norm_ (a' := ?_) ?_ ?_
     rotate_left
     ·show Act.put _ (some 52) _ = _
      simp only [Act.put, List.setIfInBounds_toArray, List.set_cons_zero, List.set_cons_succ, i64_w, i32_w]
      rfl
     refine pure_ (i := 7) (N := some 53) (v := ?_) (a' := ?_) #[true, true, true, true, true, true, true, true] rfl rfl (any_of HT_.out (by kernel_rfl)) (fun _ _ _ h => h) (Or.inl ⟨by rfl, ?_⟩) ?_ ?_
     rotate_left
     ·intro w'
      go_simp
      with_reducible rfl
     rotate_left
     ·simp only [Act.put, List.setIfInBounds_toArray, List.set_cons_zero, List.set_cons_succ, i64_w, i32_w]
      rfl
     refine done_ (done_of HT_.out (by kernel_rfl)) ?_
     clear hHeld
     go_wp2_with fail
     go_roundg m
     case measure => omega
     case rel => exact ⟨s + 1, by rw [HW1.out], ⟨by have := HS.out; have := HIN.out; omega⟩, HW⟩
  ·have cib : decide (wrap64 (64 * (s : Int)) < (r0.length : Int)) = false := decide_eq_false (by rw [HW6.out]; omega)
   clear ci
   replace F0 := Aside0.mk (Kd.C_below F0.out HW.out)
   replace F1 := Aside0.mk (Kd.C_below F1.out HW.out)
   replace HB := Aside0.mk (below_step HB.out HW.out)
   clear K3 K5 K6 G0 G1 M0 M1 FK HQ HKC HN5 HN6 HQN HV HI HS HW
   obtain ⟨K3, hK3⟩ : ∃ K3, K3 = K3' := ⟨_, rfl⟩
   clear hK3 K3'
   obtain ⟨W8, rfl⟩ : ∃ W8, W8 = wr := ⟨_, rfl⟩
   obtain ⟨n8, hn8⟩ : ∃ n8, n8 = W8.heap.size := ⟨_, rfl⟩
   have HN8 := Aside0.mk hn8
   clear hn8
   go_wp2_with (first | ((with_reducible refine gate_dst (N := 54) rfl ?_); refine Kd.R_lit Kd.bool _ 4 ?hg (N := 54) ?hd (xs := ([] : List Bool)) (inner := []) (ok := fun _ => True) (okp := fun _ => True) ?hr ?hp (fun _ hk => hk) trivial (Below.refl _ _) (Nat.le_refl _) (by simp) ?_; (case hd => rfl); (case hg => rfl); (case hr => first | (go_simp; done) | (go_simp; rfl)); (case hp => exact (Reps.none _ _)); intro v54 w2 ho3 hb hg_ hnew_; clear hg_ hnew_ z0 z1 z2 z3 y0 y1 y2 y3; rw [← HN8.out] at ho3 hb; have HO := Aside0.mk ho3; have HW := Aside0.mk hb; clear hb ho3))
   go_loopg [8, 9] r1.length (fun kq v8 v9 w' => ∃ i : Nat, v9 = .int .i64 i ∧ Aside0 (i ≤ r1.length ∧ r1.length ≤ kq + i) ∧ Aside0 (Kd.R Kd.bool 4 w' n8 (fun _ => True) v8 (List.replicate i true)) ∧ Aside0 (Below n8 W8 w'))
   case atStart => exact ⟨0, rfl, ⟨by omega, by omega⟩, HO, HW⟩
   case round =>
     clear HO HW
     obtain ⟨i, rfl, HI, HO, HW⟩ := hrel
     have HM := Aside0.mk (show r1.length ≤ 2000 from HVF.out.2.2.2.1)
     have K3' := Aside0.mk (blk_below K3.out (by rw [← HN8.out]; exact HW.out))
     obtain ⟨z0, z1, z2, z3, y0, y1, y2, y3⟩ := blk_cells4 K3'.out
     have HZ := Aside0.mk (show n8 ≤ wr.heap.size by rw [HN8.out]; exact HW.out.size)
     by_cases ci : i < r1.length
     ·have cib : decide (i < r1.length) = true := decide_eq_true ci
      have HIN := Aside0.mk ci
      clear ci
      cases gk with
      | zero => exact absurd HI.out (by have := HIN.out; omega)
      | succ mm =>
        have HW1 := Aside0.mk (show wrap64 ((i : Int) + 1) = ((i + 1 : Nat) : Int) by have := HIN.out; have := HM.out; unfold wrap64; omega)
        go_wp2_with (first | ((with_reducible refine gate_builtin (b := .append) (xs := #[.tmp 62, .tmp 63]) rfl ?_); at_builtin; refine Kd.R_append Kd.bool (w0 := wr) n8 rfl (.tmp 62) (.tmp 63) 26 4 (.bool false) 1 rfl Try.underlying26 (by kernel_rfl) rfl (by decide) (by omega) u8 (List.replicate i true) true [.bool true] (fun _ => True) (fun _ => False) rfl rfl ?aP (fun _ hk => hk.elim) ?aF ?aO ?aB ?aS ?aL ?_; (case aP => exact rfl); (case aB => exact ⟨rfl, rfl, rfl, Nat.le_refl _, fun _ _ => rfl⟩); (case aF => exact (fun _ _ => trivial)); (case aO => exact HO.out); (case aS => exact HZ.out); (case aL => have := HI.out; have := HIN.out; have := HM.out; simp; omega); intro v14 w6 ho hb hg hat; have HO5 := Aside0.mk ho; have HW5 := Aside0.mk (Below.trans_same HW.out hb); clear ho hb hg hat HO HW))
        go_roundg mm
        case measure => omega
        case rel => exact ⟨i + 1, by rw [HW1.out], ⟨by have := HI.out; have := HIN.out; omega⟩, by rw [List.replicate_succ']; exact HO5, HW5⟩
     ·have cib : decide (i < r1.length) = false := decide_eq_false ci
      go_upto_region 18 with (fail)
      have hi : i = r1.length := by have := HI.out; omega
      subst hi
      clear ci cib HI K3 z0 z1 z2 z3 y0 y1 y2 y3
      replace HO := HO.out
      obtain ⟨EA, ea, rfl⟩ := Kd.R_slice HO
      have FA := Aside0.mk (Kd.R_reads' HO).2.2
      have HNA := Aside0.mk (Kd.R_reads' HO).2.1
      clear HO
      rw [HN8.out] at HW
      replace F0 := Aside0.mk (Kd.C_below F0.out HW.out)
      replace F1 := Aside0.mk (Kd.C_below F1.out HW.out)
      replace HB := Aside0.mk (below_step HB.out HW.out)
      clear HW HN8 HZ
      obtain ⟨K3, hK3⟩ : ∃ K3, K3 = K3' := ⟨_, rfl⟩
      clear hK3 K3'
      have hq0 := HCR.out [] (by simp)
      unfold dCrash at hq0
      rw [if_pos HCV.out, crF_none] at hq0
      have HQ0 := Aside0.mk hq0
      have hq1 := HCR.out (List.replicate r1.length true) (by have := HM.out; simp; omega)
      unfold dCrash at hq1
      rw [if_pos HCV.out, crF_all r0 r1 r1.length r1.length (Nat.le_refl _)] at hq1
      have HQ1 := Aside0.mk hq1
      clear hq0 hq1 HCR
      have hqs : r3 = false → r2 ≠ 0 → m_DiskSync.f r0 r1 r2 r3 = some (syF r0 r1 r1.length, [], fuelD r2, false) := fun h3 h2 => by
        unfold m_DiskSync.f dSync
        rw [if_pos ⟨HD.out.1, HD.out.2.1.1, List.all_eq_true.2 fun x hx => decide_eq_true (HD.out.2.1.2 x hx)⟩, if_pos (by rw [HCV.out, h3]; rfl), if_neg h2, h3]
      have HQS := Aside0.mk hqs
      clear hqs
      generalize syF r0 r1 r1.length = SY at *
      generalize hrA : List.replicate r1.length true = rA at *
      clear hrA
      obtain rfl | ⟨rfl, rfl⟩ | ⟨rfl, h2⟩ : r3 = true ∨ (r3 = false ∧ r2 = 0) ∨ (r3 = false ∧ r2 ≠ 0) := by
        cases r3
        ·by_cases h : r2 = 0
         ·exact Or.inr (Or.inl ⟨rfl, h⟩)
         ·exact Or.inr (Or.inr ⟨rfl, h⟩)
        ·exact Or.inl rfl
      · skip
        refine start_ (n := 27) (S := fun w' => w'.heap[g3]? = some (.cells #[.slice A2 r0.length c2, .slice B2 r1.length d2, .int .i64 r2, .bool true] 25 (0, 0))) (ds := []) #[false, false, false, false, false, false, false, false, false, false, false, false, false, false, false, false, false, false, false, false, false, false, false, false, false, false, false] (by kernel_rfl) rfl rfl K3.out (fun hHeld => ?_); refine with_tabW lawCrash.gtab18 lawCrash.gbits18 (fun HT_ HW_ => ?_)
        have hb_ : Below wr.heap.size wr wr.drew := below_drew (Below.refl _ _)
        replace K3 := Aside0.mk (blk_below K3.out hb_)
        replace F0 := Aside0.mk (Kd.C_below F0.out hb_)
        replace F1 := Aside0.mk (Kd.C_below F1.out hb_)
        replace FA := Aside0.mk (Kd.C_below FA.out hb_)
        replace HB := Aside0.mk (below_step HB.out hb_)
        clear hb_
        generalize wr.drew = Wd at *
        refine take_ (i := 0) (N := some 65) (v := ?_) (a' := ?_) #[true, false, false, false, false, false, false, false, false, false, false, false, false, false, false, false, false, false, false, false, false, false, false, false, false, false, false] rfl rfl (take_ofW HT_.out HW_.out (by kernel_rfl)) (fun _ _ _ h => h) (Or.inl ⟨by rfl, ?_⟩) hHeld ?_ ?_
        rotate_left
        ·rintro w' s0
         obtain ⟨z0, z1, z2, z3, y0, y1, y2, y3⟩ := blk_cells4 s0
         go_simp
         with_reducible rfl
        rotate_left
        ·simp only [Act.put, List.setIfInBounds_toArray, List.set_cons_zero, List.set_cons_succ, i64_w, i32_w]
         rfl
        refine pure_ (i := 4) (N := some 69) (v := ?_) (a' := ?_) #[true, false, false, false, true, false, false, false, false, false, false, false, false, false, false, false, false, false, false, false, false, false, false, false, false, false, false] rfl rfl (any_of HT_.out (by kernel_rfl)) (fun _ _ _ h => h) (Or.inl ⟨by rfl, ?_⟩) ?_ ?_
        rotate_left
        ·intro w'
         go_simp
         with_reducible rfl
        rotate_left
        ·simp only [Act.put, List.setIfInBounds_toArray, List.set_cons_zero, List.set_cons_succ, i64_w, i32_w]
         rfl
        refine take_ (i := 5) (N := some 70) (v := ?_) (a' := ?_) #[true, false, false, false, true, true, false, false, false, false, false, false, false, false, false, false, false, false, false, false, false, false, false, false, false, false, false] rfl rfl (take_ofW HT_.out HW_.out (by kernel_rfl)) (fun _ _ _ h => h) (Or.inl ⟨by rfl, ?_⟩) hHeld ?_ ?_
        rotate_left
        ·rintro w' s0
         obtain ⟨z0, z1, z2, z3, y0, y1, y2, y3⟩ := blk_cells4 s0
         go_simp
         with_reducible rfl
        rotate_left
        ·simp only [Act.put, List.setIfInBounds_toArray, List.set_cons_zero, List.set_cons_succ, i64_w, i32_w]
         rfl
        refine one_ (i := 1) (N := some 66) #[true, true, false, false, true, true, false, false, false, false, false, false, false, false, false, false, false, false, false, false, false, false, false, false, false, false, false] rfl rfl (one_of HT_.out (by kernel_rfl)) (by decide) (fun K hK => ?_)
        refine Kd.R_lit_step Kd.bool (w0 := Wd) (W := Wd) Wd.heap.size 4 (by rfl) (N := 66) rfl (xs := ([] : List Bool)) (inner := []) (ok := fun _ => True) (okp := fun _ => True) ?hr (Reps.none _ _) (fun _ hk => hk) trivial (Below.refl _ _) (Nat.le_refl _) (by simp) ?_
        case hr => first | (go_simp; done) | (go_simp; rfl)
        intro v66 Wn ho hb hg hnew
        obtain ⟨E7, e7, rfl⟩ := Kd.R_slice ho
        have F7 := Aside0.mk (Kd.R_reads' ho).2.2
        have N7 := Aside0.mk (Kd.R_reads' ho).2.1
        replace K3 := Aside0.mk (blk_below K3.out hb)
        replace F0 := Aside0.mk (Kd.C_below F0.out hb)
        replace F1 := Aside0.mk (Kd.C_below F1.out hb)
        replace FA := Aside0.mk (Kd.C_below FA.out hb)
        replace HB := Aside0.mk (below_step HB.out hb)
        clear ho hb hg hnew
        refine hK.out _ _ K3.out (fun hHeld => ?_)
        clear hK K
        refine norm_ (a' := ?_) ?_ ?_
        rotate_left
        ·show Act.put _ (some 66) _ = _
         simp only [Act.put, List.setIfInBounds_toArray, List.set_cons_zero, List.set_cons_succ, i64_w, i32_w]
         rfl
        refine one_ (i := 2) (N := some 67) #[true, true, true, false, true, true, false, false, false, false, false, false, false, false, false, false, false, false, false, false, false, false, false, false, false, false, false] rfl rfl (one_of HT_.out (by kernel_rfl)) (by decide) (fun K hK => ?_)
        refine goes_ Try.func12 (by kernel_rfl) rfl #[.agg #[.slice A2 r0.length c2, .slice B2 r1.length d2, .int .i64 r2, .bool true], .slice E7 ([] : List Bool).length e7] (by rfl) rfl rfl (by (try simp only [List.map_toArray, List.map_cons, List.map_nil]); first | done | rfl) ?_
        refine (impl_DiskCrash.calls A2 c2 r0 B2 d2 r1 r2 true E7 e7 [] r0 [] (-1) false _ F0.out HN.out.1 F1.out HN.out.2.1 F7.out N7.out HQ0.out).mono ?_
        rintro e We ⟨v0, v1, rfl, hR, hS, hb⟩
        obtain ⟨A8, c8, rfl⟩ := Kd.R_slice hR
        refine ⟨_, rfl, ?_⟩
        have F8 := Aside0.mk (Kd.R_reads' hR).2.2
        replace K3 := Aside0.mk (blk_below K3.out hb)
        replace F0 := Aside0.mk (Kd.C_below F0.out hb)
        replace F1 := Aside0.mk (Kd.C_below F1.out hb)
        replace FA := Aside0.mk (Kd.C_below FA.out hb)
        replace HB := Aside0.mk (below_step HB.out hb)
        clear hR hS hb
        refine hK.out _ _ K3.out (fun hHeld => ?_)
        clear hK K
        refine norm_ (a' := ?_) ?_ ?_
        rotate_left
        ·show Act.put _ (some 67) _ = _
         simp only [Act.put, List.setIfInBounds_toArray, List.set_cons_zero, List.set_cons_succ, i64_w, i32_w]
         rfl
        refine pure_ (i := 3) (N := some 68) (v := ?_) (a' := ?_) #[true, true, true, true, true, true, false, false, false, false, false, false, false, false, false, false, false, false, false, false, false, false, false, false, false, false, false] rfl rfl (any_of HT_.out (by kernel_rfl)) (fun _ _ _ h => h) (Or.inl ⟨by rfl, ?_⟩) ?_ ?_
        rotate_left
        ·intro w'
         go_simp
         with_reducible rfl
        rotate_left
        ·simp only [Act.put, List.setIfInBounds_toArray, List.set_cons_zero, List.set_cons_succ, i64_w, i32_w]
         rfl
        refine one_ (i := 6) (N := some 71) #[true, true, true, true, true, true, true, false, false, false, false, false, false, false, false, false, false, false, false, false, false, false, false, false, false, false, false] rfl rfl (one_of HT_.out (by kernel_rfl)) (by decide) (fun K hK => ?_)
        refine goes_ Try.func15 (by kernel_rfl) rfl #[.slice A8 r0.length c8, .slice A2 r0.length c2] (by rfl) rfl rfl (by (try simp only [List.map_toArray, List.map_cons, List.map_nil]); first | done | rfl) ?_
        refine (lw_same A8 A2 c8 c2 r0 _ F8.out F0.out).mono ?_
        rintro e Wg ⟨rfl, rfl⟩
        refine ⟨_, rfl, ?_⟩
        refine hK.out _ _ K3.out (fun hHeld => ?_)
        clear hK K
        refine norm_ (a' := ?_) ?_ ?_
        rotate_left
        ·show Act.put _ (some 71) _ = _
         simp only [Act.put, List.setIfInBounds_toArray, List.set_cons_zero, List.set_cons_succ, i64_w, i32_w]
         rfl
        refine pure_ (i := 7) (N := some 72) (v := ?_) (a' := ?_) #[true, true, true, true, true, true, true, true, false, false, false, false, false, false, false, false, false, false, false, false, false, false, false, false, false, false, false] rfl rfl (any_of HT_.out (by kernel_rfl)) (fun _ _ _ h => h) (Or.inl ⟨by rfl, ?_⟩) ?_ ?_
        rotate_left
        ·intro w'
         go_simp
         with_reducible rfl
        rotate_left
        ·simp only [Act.put, List.setIfInBounds_toArray, List.set_cons_zero, List.set_cons_succ, i64_w, i32_w]
         rfl
        refine pure_ (i := 8) (N := some 73) (v := ?_) (a' := ?_) #[true, true, true, true, true, true, true, true, true, false, false, false, false, false, false, false, false, false, false, false, false, false, false, false, false, false, false] rfl rfl (any_of HT_.out (by kernel_rfl)) (fun _ _ _ h => h) (Or.inl ⟨by rfl, ?_⟩) ?_ ?_
        rotate_left
        ·intro w'
         go_simp
         with_reducible rfl
        rotate_left
        ·simp only [Act.put, List.setIfInBounds_toArray, List.set_cons_zero, List.set_cons_succ, i64_w, i32_w]
         rfl
        refine take_ (i := 9) (N := some 74) (v := ?_) (a' := ?_) #[true, true, true, true, true, true, true, true, true, true, false, false, false, false, false, false, false, false, false, false, false, false, false, false, false, false, false] rfl rfl (take_ofW HT_.out HW_.out (by kernel_rfl)) (fun _ _ _ h => h) (Or.inl ⟨by rfl, ?_⟩) hHeld ?_ ?_
        rotate_left
        ·rintro w' s0
         obtain ⟨z0, z1, z2, z3, y0, y1, y2, y3⟩ := blk_cells4 s0
         go_simp
         with_reducible rfl
        rotate_left
        ·simp only [Act.put, List.setIfInBounds_toArray, List.set_cons_zero, List.set_cons_succ, i64_w, i32_w]
         rfl
        refine pure_ (i := 10) (N := some 75) (v := ?_) (a' := ?_) #[true, true, true, true, true, true, true, true, true, true, true, false, false, false, false, false, false, false, false, false, false, false, false, false, false, false, false] rfl rfl (any_of HT_.out (by kernel_rfl)) (fun _ _ _ h => h) (Or.inl ⟨by rfl, ?_⟩) ?_ ?_
        rotate_left
        ·intro w'
         go_simp
         with_reducible rfl
        rotate_left
        ·simp only [Act.put, List.setIfInBounds_toArray, List.set_cons_zero, List.set_cons_succ, i64_w, i32_w]
         rfl
        refine pure_ (i := 11) (N := some 76) (v := undef) (a' := ?_) #[true, true, true, true, true, true, true, true, true, true, true, true, false, false, false, false, false, false, false, false, false, false, false, false, false, false, false] rfl rfl (any_of HT_.out (by kernel_rfl)) (fun _ _ _ h => h) (Or.inr ⟨by rfl, rfl⟩) ?_ ?_
        rotate_left
        ·simp only [Act.put, List.setIfInBounds_toArray, List.set_cons_zero, List.set_cons_succ, i64_w, i32_w]
         rfl
        refine pure_ (i := 12) (N := some 77) (v := undef) (a' := ?_) #[true, true, true, true, true, true, true, true, true, true, true, true, true, false, false, false, false, false, false, false, false, false, false, false, false, false, false] rfl rfl (any_of HT_.out (by kernel_rfl)) (fun _ _ _ h => h) (Or.inr ⟨by rfl, rfl⟩) ?_ ?_
        rotate_left
        ·simp only [Act.put, List.setIfInBounds_toArray, List.set_cons_zero, List.set_cons_succ, i64_w, i32_w]
         rfl
        refine pure_ (i := 13) (N := some 78) (v := undef) (a' := ?_) #[true, true, true, true, true, true, true, true, true, true, true, true, true, true, false, false, false, false, false, false, false, false, false, false, false, false, false] rfl rfl (any_of HT_.out (by kernel_rfl)) (fun _ _ _ h => h) (Or.inr ⟨by rfl, rfl⟩) ?_ ?_
        rotate_left
        ·simp only [Act.put, List.setIfInBounds_toArray, List.set_cons_zero, List.set_cons_succ, i64_w, i32_w]
         rfl
        refine pure_ (i := 14) (N := some 79) (v := ?_) (a' := ?_) #[true, true, true, true, true, true, true, true, true, true, true, true, true, true, true, false, false, false, false, false, false, false, false, false, false, false, false] rfl rfl (any_of HT_.out (by kernel_rfl)) (fun _ _ _ h => h) (Or.inl ⟨by rfl, ?_⟩) ?_ ?_
        rotate_left
        ·intro w'
         go_simp
         with_reducible rfl
        rotate_left
        ·simp only [Act.put, List.setIfInBounds_toArray, List.set_cons_zero, List.set_cons_succ, i64_w, i32_w]
         rfl
        refine pure_ (i := 15) (N := some 80) (v := ?_) (a' := ?_) #[true, true, true, true, true, true, true, true, true, true, true, true, true, true, true, true, false, false, false, false, false, false, false, false, false, false, false] rfl rfl (any_of HT_.out (by kernel_rfl)) (fun _ _ _ h => h) (Or.inl ⟨by rfl, ?_⟩) ?_ ?_
        rotate_left
        ·intro w'
         go_simp
         with_reducible rfl
        rotate_left
        ·simp only [Act.put, List.setIfInBounds_toArray, List.set_cons_zero, List.set_cons_succ, i64_w, i32_w]
         rfl
        refine pure_ (i := 16) (N := some 81) (v := undef) (a' := ?_) #[true, true, true, true, true, true, true, true, true, true, true, true, true, true, true, true, true, false, false, false, false, false, false, false, false, false, false] rfl rfl (any_of HT_.out (by kernel_rfl)) (fun _ _ _ h => h) (Or.inr ⟨by rfl, rfl⟩) ?_ ?_
        rotate_left
        ·simp only [Act.put, List.setIfInBounds_toArray, List.set_cons_zero, List.set_cons_succ, i64_w, i32_w]
         rfl
        refine pure_ (i := 17) (N := some 82) (v := undef) (a' := ?_) #[true, true, true, true, true, true, true, true, true, true, true, true, true, true, true, true, true, true, false, false, false, false, false, false, false, false, false] rfl rfl (any_of HT_.out (by kernel_rfl)) (fun _ _ _ h => h) (Or.inr ⟨by rfl, rfl⟩) ?_ ?_
        rotate_left
        ·simp only [Act.put, List.setIfInBounds_toArray, List.set_cons_zero, List.set_cons_succ, i64_w, i32_w]
         rfl
        refine pure_ (i := 20) (N := some 85) (v := undef) (a' := ?_) #[true, true, true, true, true, true, true, true, true, true, true, true, true, true, true, true, true, true, false, false, true, false, false, false, false, false, false] rfl rfl (any_of HT_.out (by kernel_rfl)) (fun _ _ _ h => h) (Or.inr ⟨by rfl, rfl⟩) ?_ ?_
        rotate_left
        ·simp only [Act.put, List.setIfInBounds_toArray, List.set_cons_zero, List.set_cons_succ, i64_w, i32_w]
         rfl
        refine pure_ (i := 18) (N := some 83) (v := undef) (a' := ?_) #[true, true, true, true, true, true, true, true, true, true, true, true, true, true, true, true, true, true, true, false, true, false, false, false, false, false, false] rfl rfl (any_of HT_.out (by kernel_rfl)) (fun _ _ _ h => h) (Or.inr ⟨by rfl, rfl⟩) ?_ ?_
        rotate_left
        ·simp only [Act.put, List.setIfInBounds_toArray, List.set_cons_zero, List.set_cons_succ, i64_w, i32_w]
         rfl
        refine pure_ (i := 19) (N := some 84) (v := undef) (a' := ?_) #[true, true, true, true, true, true, true, true, true, true, true, true, true, true, true, true, true, true, true, true, true, false, false, false, false, false, false] rfl rfl (any_of HT_.out (by kernel_rfl)) (fun _ _ _ h => h) (Or.inr ⟨by rfl, rfl⟩) ?_ ?_
        rotate_left
        ·simp only [Act.put, List.setIfInBounds_toArray, List.set_cons_zero, List.set_cons_succ, i64_w, i32_w]
         rfl
        refine pure_ (i := 21) (N := some 86) (v := undef) (a' := ?_) #[true, true, true, true, true, true, true, true, true, true, true, true, true, true, true, true, true, true, true, true, true, true, false, false, false, false, false] rfl rfl (any_of HT_.out (by kernel_rfl)) (fun _ _ _ h => h) (Or.inr ⟨by rfl, rfl⟩) ?_ ?_
        rotate_left
        ·simp only [Act.put, List.setIfInBounds_toArray, List.set_cons_zero, List.set_cons_succ, i64_w, i32_w]
         rfl
        refine pure_ (i := 22) (N := some 87) (v := undef) (a' := ?_) #[true, true, true, true, true, true, true, true, true, true, true, true, true, true, true, true, true, true, true, true, true, true, true, false, false, false, false] rfl rfl (any_of HT_.out (by kernel_rfl)) (fun _ _ _ h => h) (Or.inr ⟨by rfl, rfl⟩) ?_ ?_
        rotate_left
        ·simp only [Act.put, List.setIfInBounds_toArray, List.set_cons_zero, List.set_cons_succ, i64_w, i32_w]
         rfl
        refine pure_ (i := 23) (N := some 88) (v := undef) (a' := ?_) #[true, true, true, true, true, true, true, true, true, true, true, true, true, true, true, true, true, true, true, true, true, true, true, true, false, false, false] rfl rfl (any_of HT_.out (by kernel_rfl)) (fun _ _ _ h => h) (Or.inr ⟨by rfl, rfl⟩) ?_ ?_
        rotate_left
        ·simp only [Act.put, List.setIfInBounds_toArray, List.set_cons_zero, List.set_cons_succ, i64_w, i32_w]
         rfl
        refine pure_ (i := 24) (N := some 89) (v := ?_) (a' := ?_) #[true, true, true, true, true, true, true, true, true, true, true, true, true, true, true, true, true, true, true, true, true, true, true, true, true, false, false] rfl rfl (any_of HT_.out (by kernel_rfl)) (fun _ _ _ h => h) (Or.inl ⟨by rfl, ?_⟩) ?_ ?_
        rotate_left
        ·intro w'
         go_simp
         with_reducible rfl
        rotate_left
        ·simp only [Act.put, List.setIfInBounds_toArray, List.set_cons_zero, List.set_cons_succ, i64_w, i32_w]
         rfl
        refine pure_ (i := 25) (N := some 90) (v := ?_) (a' := ?_) #[true, true, true, true, true, true, true, true, true, true, true, true, true, true, true, true, true, true, true, true, true, true, true, true, true, true, false] rfl rfl (any_of HT_.out (by kernel_rfl)) (fun _ _ _ h => h) (Or.inl ⟨by rfl, ?_⟩) ?_ ?_
        rotate_left
        ·intro w'
         go_simp
         with_reducible rfl
        rotate_left
        ·simp only [Act.put, List.setIfInBounds_toArray, List.set_cons_zero, List.set_cons_succ, i64_w, i32_w]
         rfl
        refine pure_ (i := 26) (N := some 2) (v := ?_) (a' := ?_) #[true, true, true, true, true, true, true, true, true, true, true, true, true, true, true, true, true, true, true, true, true, true, true, true, true, true, true] rfl rfl (any_of HT_.out (by kernel_rfl)) (fun _ _ _ h => h) (Or.inl ⟨by rfl, ?_⟩) ?_ ?_
        rotate_left
        ·intro w'
         go_simp
         with_reducible rfl
        rotate_left
        ·simp only [Act.put, List.setIfInBounds_toArray, List.set_cons_zero, List.set_cons_succ, i64_w, i32_w]
         rfl
        refine done_ (done_of HT_.out (by kernel_rfl)) ?_
        clear hHeld
        go_wp2_with fail
        go_ret
        exact ⟨rfl, HB.out⟩
      · skip
        refine start_ (n := 27) (S := fun w' => w'.heap[g3]? = some (.cells #[.slice A2 r0.length c2, .slice B2 r1.length d2, .int .i64 0, .bool false] 25 (0, 0))) (ds := []) #[false, false, false, false, false, false, false, false, false, false, false, false, false, false, false, false, false, false, false, false, false, false, false, false, false, false, false] (by kernel_rfl) rfl rfl K3.out (fun hHeld => ?_); refine with_tabW lawCrash.gtab18 lawCrash.gbits18 (fun HT_ HW_ => ?_)
        have hb_ : Below wr.heap.size wr wr.drew := below_drew (Below.refl _ _)
        replace K3 := Aside0.mk (blk_below K3.out hb_)
        replace F0 := Aside0.mk (Kd.C_below F0.out hb_)
        replace F1 := Aside0.mk (Kd.C_below F1.out hb_)
        replace FA := Aside0.mk (Kd.C_below FA.out hb_)
        replace HB := Aside0.mk (below_step HB.out hb_)
        clear hb_
        generalize wr.drew = Wd at *
        refine take_ (i := 0) (N := some 65) (v := ?_) (a' := ?_) #[true, false, false, false, false, false, false, false, false, false, false, false, false, false, false, false, false, false, false, false, false, false, false, false, false, false, false] rfl rfl (take_ofW HT_.out HW_.out (by kernel_rfl)) (fun _ _ _ h => h) (Or.inl ⟨by rfl, ?_⟩) hHeld ?_ ?_
        rotate_left
        ·rintro w' s0
         obtain ⟨z0, z1, z2, z3, y0, y1, y2, y3⟩ := blk_cells4 s0
         go_simp
         with_reducible rfl
        rotate_left
        ·simp only [Act.put, List.setIfInBounds_toArray, List.set_cons_zero, List.set_cons_succ, i64_w, i32_w]
         rfl
        refine pure_ (i := 4) (N := some 69) (v := ?_) (a' := ?_) #[true, false, false, false, true, false, false, false, false, false, false, false, false, false, false, false, false, false, false, false, false, false, false, false, false, false, false] rfl rfl (any_of HT_.out (by kernel_rfl)) (fun _ _ _ h => h) (Or.inl ⟨by rfl, ?_⟩) ?_ ?_
        rotate_left
        ·intro w'
         go_simp
         with_reducible rfl
        rotate_left
        ·simp only [Act.put, List.setIfInBounds_toArray, List.set_cons_zero, List.set_cons_succ, i64_w, i32_w]
         rfl
        refine take_ (i := 5) (N := some 70) (v := ?_) (a' := ?_) #[true, false, false, false, true, true, false, false, false, false, false, false, false, false, false, false, false, false, false, false, false, false, false, false, false, false, false] rfl rfl (take_ofW HT_.out HW_.out (by kernel_rfl)) (fun _ _ _ h => h) (Or.inl ⟨by rfl, ?_⟩) hHeld ?_ ?_
        rotate_left
        ·rintro w' s0
         obtain ⟨z0, z1, z2, z3, y0, y1, y2, y3⟩ := blk_cells4 s0
         go_simp
         with_reducible rfl
        rotate_left
        ·simp only [Act.put, List.setIfInBounds_toArray, List.set_cons_zero, List.set_cons_succ, i64_w, i32_w]
         rfl
        refine one_ (i := 1) (N := some 66) #[true, true, false, false, true, true, false, false, false, false, false, false, false, false, false, false, false, false, false, false, false, false, false, false, false, false, false] rfl rfl (one_of HT_.out (by kernel_rfl)) (by decide) (fun K hK => ?_)
        refine Kd.R_lit_step Kd.bool (w0 := Wd) (W := Wd) Wd.heap.size 4 (by rfl) (N := 66) rfl (xs := ([] : List Bool)) (inner := []) (ok := fun _ => True) (okp := fun _ => True) ?hr (Reps.none _ _) (fun _ hk => hk) trivial (Below.refl _ _) (Nat.le_refl _) (by simp) ?_
        case hr => first | (go_simp; done) | (go_simp; rfl)
        intro v66 Wn ho hb hg hnew
        obtain ⟨E7, e7, rfl⟩ := Kd.R_slice ho
        have F7 := Aside0.mk (Kd.R_reads' ho).2.2
        have N7 := Aside0.mk (Kd.R_reads' ho).2.1
        replace K3 := Aside0.mk (blk_below K3.out hb)
        replace F0 := Aside0.mk (Kd.C_below F0.out hb)
        replace F1 := Aside0.mk (Kd.C_below F1.out hb)
        replace FA := Aside0.mk (Kd.C_below FA.out hb)
        replace HB := Aside0.mk (below_step HB.out hb)
        clear ho hb hg hnew
        refine hK.out _ _ K3.out (fun hHeld => ?_)
        clear hK K
        refine norm_ (a' := ?_) ?_ ?_
        rotate_left
        ·show Act.put _ (some 66) _ = _
         simp only [Act.put, List.setIfInBounds_toArray, List.set_cons_zero, List.set_cons_succ, i64_w, i32_w]
         rfl
        refine one_ (i := 2) (N := some 67) #[true, true, true, false, true, true, false, false, false, false, false, false, false, false, false, false, false, false, false, false, false, false, false, false, false, false, false] rfl rfl (one_of HT_.out (by kernel_rfl)) (by decide) (fun K hK => ?_)
        refine goes_ Try.func12 (by kernel_rfl) rfl #[.agg #[.slice A2 r0.length c2, .slice B2 r1.length d2, .int .i64 0, .bool false], .slice E7 ([] : List Bool).length e7] (by rfl) rfl rfl (by (try simp only [List.map_toArray, List.map_cons, List.map_nil]); first | done | rfl) ?_
        refine (impl_DiskCrash.calls A2 c2 r0 B2 d2 r1 0 false E7 e7 [] r0 [] (-1) false _ F0.out HN.out.1 F1.out HN.out.2.1 F7.out N7.out HQ0.out).mono ?_
        rintro e We ⟨v0, v1, rfl, hR, hS, hb⟩
        obtain ⟨A8, c8, rfl⟩ := Kd.R_slice hR
        refine ⟨_, rfl, ?_⟩
        have F8 := Aside0.mk (Kd.R_reads' hR).2.2
        replace K3 := Aside0.mk (blk_below K3.out hb)
        replace F0 := Aside0.mk (Kd.C_below F0.out hb)
        replace F1 := Aside0.mk (Kd.C_below F1.out hb)
        replace FA := Aside0.mk (Kd.C_below FA.out hb)
        replace HB := Aside0.mk (below_step HB.out hb)
        clear hR hS hb
        refine hK.out _ _ K3.out (fun hHeld => ?_)
        clear hK K
        refine norm_ (a' := ?_) ?_ ?_
        rotate_left
        ·show Act.put _ (some 67) _ = _
         simp only [Act.put, List.setIfInBounds_toArray, List.set_cons_zero, List.set_cons_succ, i64_w, i32_w]
         rfl
        refine pure_ (i := 3) (N := some 68) (v := ?_) (a' := ?_) #[true, true, true, true, true, true, false, false, false, false, false, false, false, false, false, false, false, false, false, false, false, false, false, false, false, false, false] rfl rfl (any_of HT_.out (by kernel_rfl)) (fun _ _ _ h => h) (Or.inl ⟨by rfl, ?_⟩) ?_ ?_
        rotate_left
        ·intro w'
         go_simp
         with_reducible rfl
        rotate_left
        ·simp only [Act.put, List.setIfInBounds_toArray, List.set_cons_zero, List.set_cons_succ, i64_w, i32_w]
         rfl
        refine one_ (i := 6) (N := some 71) #[true, true, true, true, true, true, true, false, false, false, false, false, false, false, false, false, false, false, false, false, false, false, false, false, false, false, false] rfl rfl (one_of HT_.out (by kernel_rfl)) (by decide) (fun K hK => ?_)
        refine goes_ Try.func15 (by kernel_rfl) rfl #[.slice A8 r0.length c8, .slice A2 r0.length c2] (by rfl) rfl rfl (by (try simp only [List.map_toArray, List.map_cons, List.map_nil]); first | done | rfl) ?_
        refine (lw_same A8 A2 c8 c2 r0 _ F8.out F0.out).mono ?_
        rintro e Wg ⟨rfl, rfl⟩
        refine ⟨_, rfl, ?_⟩
        refine hK.out _ _ K3.out (fun hHeld => ?_)
        clear hK K
        refine norm_ (a' := ?_) ?_ ?_
        rotate_left
        ·show Act.put _ (some 71) _ = _
         simp only [Act.put, List.setIfInBounds_toArray, List.set_cons_zero, List.set_cons_succ, i64_w, i32_w]
         rfl
        refine pure_ (i := 7) (N := some 72) (v := ?_) (a' := ?_) #[true, true, true, true, true, true, true, true, false, false, false, false, false, false, false, false, false, false, false, false, false, false, false, false, false, false, false] rfl rfl (any_of HT_.out (by kernel_rfl)) (fun _ _ _ h => h) (Or.inl ⟨by rfl, ?_⟩) ?_ ?_
        rotate_left
        ·intro w'
         go_simp
         with_reducible rfl
        rotate_left
        ·simp only [Act.put, List.setIfInBounds_toArray, List.set_cons_zero, List.set_cons_succ, i64_w, i32_w]
         rfl
        refine pure_ (i := 8) (N := some 73) (v := ?_) (a' := ?_) #[true, true, true, true, true, true, true, true, true, false, false, false, false, false, false, false, false, false, false, false, false, false, false, false, false, false, false] rfl rfl (any_of HT_.out (by kernel_rfl)) (fun _ _ _ h => h) (Or.inl ⟨by rfl, ?_⟩) ?_ ?_
        rotate_left
        ·intro w'
         go_simp
         with_reducible rfl
        rotate_left
        ·simp only [Act.put, List.setIfInBounds_toArray, List.set_cons_zero, List.set_cons_succ, i64_w, i32_w]
         rfl
        refine take_ (i := 9) (N := some 74) (v := ?_) (a' := ?_) #[true, true, true, true, true, true, true, true, true, true, false, false, false, false, false, false, false, false, false, false, false, false, false, false, false, false, false] rfl rfl (take_ofW HT_.out HW_.out (by kernel_rfl)) (fun _ _ _ h => h) (Or.inl ⟨by rfl, ?_⟩) hHeld ?_ ?_
        rotate_left
        ·rintro w' s0
         obtain ⟨z0, z1, z2, z3, y0, y1, y2, y3⟩ := blk_cells4 s0
         go_simp
         with_reducible rfl
        rotate_left
        ·simp only [Act.put, List.setIfInBounds_toArray, List.set_cons_zero, List.set_cons_succ, i64_w, i32_w]
         rfl
        refine pure_ (i := 10) (N := some 75) (v := ?_) (a' := ?_) #[true, true, true, true, true, true, true, true, true, true, true, false, false, false, false, false, false, false, false, false, false, false, false, false, false, false, false] rfl rfl (any_of HT_.out (by kernel_rfl)) (fun _ _ _ h => h) (Or.inl ⟨by rfl, ?_⟩) ?_ ?_
        rotate_left
        ·intro w'
         go_simp
         with_reducible rfl
        rotate_left
        ·simp only [Act.put, List.setIfInBounds_toArray, List.set_cons_zero, List.set_cons_succ, i64_w, i32_w]
         rfl
        refine pure_ (i := 11) (N := some 76) (v := ?_) (a' := ?_) #[true, true, true, true, true, true, true, true, true, true, true, true, false, false, false, false, false, false, false, false, false, false, false, false, false, false, false] rfl rfl (any_of HT_.out (by kernel_rfl)) (fun _ _ _ h => h) (Or.inl ⟨by rfl, ?_⟩) ?_ ?_
        rotate_left
        ·intro w'
         go_simp
         with_reducible rfl
        rotate_left
        ·simp only [Act.put, List.setIfInBounds_toArray, List.set_cons_zero, List.set_cons_succ, i64_w, i32_w]
         rfl
        refine take_ (i := 12) (N := some 77) (v := ?_) (a' := ?_) #[true, true, true, true, true, true, true, true, true, true, true, true, true, false, false, false, false, false, false, false, false, false, false, false, false, false, false] rfl rfl (take_ofW HT_.out HW_.out (by kernel_rfl)) (fun _ _ _ h => h) (Or.inl ⟨by rfl, ?_⟩) hHeld ?_ ?_
        rotate_left
        ·rintro w' s0
         obtain ⟨z0, z1, z2, z3, y0, y1, y2, y3⟩ := blk_cells4 s0
         go_simp
         with_reducible rfl
        rotate_left
        ·simp only [Act.put, List.setIfInBounds_toArray, List.set_cons_zero, List.set_cons_succ, i64_w, i32_w]
         rfl
        refine pure_ (i := 13) (N := some 78) (v := ?_) (a' := ?_) #[true, true, true, true, true, true, true, true, true, true, true, true, true, true, false, false, false, false, false, false, false, false, false, false, false, false, false] rfl rfl (any_of HT_.out (by kernel_rfl)) (fun _ _ _ h => h) (Or.inl ⟨by rfl, ?_⟩) ?_ ?_
        rotate_left
        ·intro w'
         go_simp
         with_reducible rfl
        rotate_left
        ·simp only [Act.put, List.setIfInBounds_toArray, List.set_cons_zero, List.set_cons_succ, i64_w, i32_w]
         rfl
        refine pure_ (i := 14) (N := some 79) (v := ?_) (a' := ?_) #[true, true, true, true, true, true, true, true, true, true, true, true, true, true, true, false, false, false, false, false, false, false, false, false, false, false, false] rfl rfl (any_of HT_.out (by kernel_rfl)) (fun _ _ _ h => h) (Or.inl ⟨by rfl, ?_⟩) ?_ ?_
        rotate_left
        ·intro w'
         go_simp
         with_reducible rfl
        rotate_left
        ·simp only [Act.put, List.setIfInBounds_toArray, List.set_cons_zero, List.set_cons_succ, i64_w, i32_w]
         rfl
        refine pure_ (i := 15) (N := some 80) (v := ?_) (a' := ?_) #[true, true, true, true, true, true, true, true, true, true, true, true, true, true, true, true, false, false, false, false, false, false, false, false, false, false, false] rfl rfl (any_of HT_.out (by kernel_rfl)) (fun _ _ _ h => h) (Or.inl ⟨by rfl, ?_⟩) ?_ ?_
        rotate_left
        ·intro w'
         go_simp
         with_reducible rfl
        rotate_left
        ·simp only [Act.put, List.setIfInBounds_toArray, List.set_cons_zero, List.set_cons_succ, i64_w, i32_w]
         rfl
        refine pure_ (i := 16) (N := some 81) (v := undef) (a' := ?_) #[true, true, true, true, true, true, true, true, true, true, true, true, true, true, true, true, true, false, false, false, false, false, false, false, false, false, false] rfl rfl (any_of HT_.out (by kernel_rfl)) (fun _ _ _ h => h) (Or.inr ⟨by rfl, rfl⟩) ?_ ?_
        rotate_left
        ·simp only [Act.put, List.setIfInBounds_toArray, List.set_cons_zero, List.set_cons_succ, i64_w, i32_w]
         rfl
        refine pure_ (i := 17) (N := some 82) (v := undef) (a' := ?_) #[true, true, true, true, true, true, true, true, true, true, true, true, true, true, true, true, true, true, false, false, false, false, false, false, false, false, false] rfl rfl (any_of HT_.out (by kernel_rfl)) (fun _ _ _ h => h) (Or.inr ⟨by rfl, rfl⟩) ?_ ?_
        rotate_left
        ·simp only [Act.put, List.setIfInBounds_toArray, List.set_cons_zero, List.set_cons_succ, i64_w, i32_w]
         rfl
        refine pure_ (i := 20) (N := some 85) (v := undef) (a' := ?_) #[true, true, true, true, true, true, true, true, true, true, true, true, true, true, true, true, true, true, false, false, true, false, false, false, false, false, false] rfl rfl (any_of HT_.out (by kernel_rfl)) (fun _ _ _ h => h) (Or.inr ⟨by rfl, rfl⟩) ?_ ?_
        rotate_left
        ·simp only [Act.put, List.setIfInBounds_toArray, List.set_cons_zero, List.set_cons_succ, i64_w, i32_w]
         rfl
        refine pure_ (i := 18) (N := some 83) (v := undef) (a' := ?_) #[true, true, true, true, true, true, true, true, true, true, true, true, true, true, true, true, true, true, true, false, true, false, false, false, false, false, false] rfl rfl (any_of HT_.out (by kernel_rfl)) (fun _ _ _ h => h) (Or.inr ⟨by rfl, rfl⟩) ?_ ?_
        rotate_left
        ·simp only [Act.put, List.setIfInBounds_toArray, List.set_cons_zero, List.set_cons_succ, i64_w, i32_w]
         rfl
        refine pure_ (i := 19) (N := some 84) (v := undef) (a' := ?_) #[true, true, true, true, true, true, true, true, true, true, true, true, true, true, true, true, true, true, true, true, true, false, false, false, false, false, false] rfl rfl (any_of HT_.out (by kernel_rfl)) (fun _ _ _ h => h) (Or.inr ⟨by rfl, rfl⟩) ?_ ?_
        rotate_left
        ·simp only [Act.put, List.setIfInBounds_toArray, List.set_cons_zero, List.set_cons_succ, i64_w, i32_w]
         rfl
        refine pure_ (i := 21) (N := some 86) (v := undef) (a' := ?_) #[true, true, true, true, true, true, true, true, true, true, true, true, true, true, true, true, true, true, true, true, true, true, false, false, false, false, false] rfl rfl (any_of HT_.out (by kernel_rfl)) (fun _ _ _ h => h) (Or.inr ⟨by rfl, rfl⟩) ?_ ?_
        rotate_left
        ·simp only [Act.put, List.setIfInBounds_toArray, List.set_cons_zero, List.set_cons_succ, i64_w, i32_w]
         rfl
        refine pure_ (i := 22) (N := some 87) (v := undef) (a' := ?_) #[true, true, true, true, true, true, true, true, true, true, true, true, true, true, true, true, true, true, true, true, true, true, true, false, false, false, false] rfl rfl (any_of HT_.out (by kernel_rfl)) (fun _ _ _ h => h) (Or.inr ⟨by rfl, rfl⟩) ?_ ?_
        rotate_left
        ·simp only [Act.put, List.setIfInBounds_toArray, List.set_cons_zero, List.set_cons_succ, i64_w, i32_w]
         rfl
        refine pure_ (i := 23) (N := some 88) (v := undef) (a' := ?_) #[true, true, true, true, true, true, true, true, true, true, true, true, true, true, true, true, true, true, true, true, true, true, true, true, false, false, false] rfl rfl (any_of HT_.out (by kernel_rfl)) (fun _ _ _ h => h) (Or.inr ⟨by rfl, rfl⟩) ?_ ?_
        rotate_left
        ·simp only [Act.put, List.setIfInBounds_toArray, List.set_cons_zero, List.set_cons_succ, i64_w, i32_w]
         rfl
        refine pure_ (i := 24) (N := some 89) (v := ?_) (a' := ?_) #[true, true, true, true, true, true, true, true, true, true, true, true, true, true, true, true, true, true, true, true, true, true, true, true, true, false, false] rfl rfl (any_of HT_.out (by kernel_rfl)) (fun _ _ _ h => h) (Or.inl ⟨by rfl, ?_⟩) ?_ ?_
        rotate_left
        ·intro w'
         go_simp
         with_reducible rfl
        rotate_left
        ·simp only [Act.put, List.setIfInBounds_toArray, List.set_cons_zero, List.set_cons_succ, i64_w, i32_w]
         rfl
        refine pure_ (i := 25) (N := some 90) (v := ?_) (a' := ?_) #[true, true, true, true, true, true, true, true, true, true, true, true, true, true, true, true, true, true, true, true, true, true, true, true, true, true, false] rfl rfl (any_of HT_.out (by kernel_rfl)) (fun _ _ _ h => h) (Or.inl ⟨by rfl, ?_⟩) ?_ ?_
        rotate_left
        ·intro w'
         go_simp
         with_reducible rfl
        rotate_left
        ·simp only [Act.put, List.setIfInBounds_toArray, List.set_cons_zero, List.set_cons_succ, i64_w, i32_w]
         rfl
        refine pure_ (i := 26) (N := some 2) (v := ?_) (a' := ?_) #[true, true, true, true, true, true, true, true, true, true, true, true, true, true, true, true, true, true, true, true, true, true, true, true, true, true, true] rfl rfl (any_of HT_.out (by kernel_rfl)) (fun _ _ _ h => h) (Or.inl ⟨by rfl, ?_⟩) ?_ ?_
        rotate_left
        ·intro w'
         go_simp
         with_reducible rfl
        rotate_left
        ·simp only [Act.put, List.setIfInBounds_toArray, List.set_cons_zero, List.set_cons_succ, i64_w, i32_w]
         rfl
        refine done_ (done_of HT_.out (by kernel_rfl)) ?_
        clear hHeld
        go_wp2_with fail
        go_ret
        exact ⟨rfl, HB.out⟩
      · skip
        have h2b : decide (r2 = 0) = false := decide_eq_false h2
        have h2c : (r2 == 0) = false := by simpa using h2
        have HQD := Aside0.mk (HQS.out rfl h2)
        clear h2 HQS
        refine start_ (n := 27) (S := fun w' => w'.heap[g3]? = some (.cells #[.slice A2 r0.length c2, .slice B2 r1.length d2, .int .i64 r2, .bool false] 25 (0, 0))) (ds := []) #[false, false, false, false, false, false, false, false, false, false, false, false, false, false, false, false, false, false, false, false, false, false, false, false, false, false, false] (by kernel_rfl) rfl rfl K3.out (fun hHeld => ?_); refine with_tabW lawCrash.gtab18 lawCrash.gbits18 (fun HT_ HW_ => ?_)
        have hb_ : Below wr.heap.size wr wr.drew := below_drew (Below.refl _ _)
        replace K3 := Aside0.mk (blk_below K3.out hb_)
        replace F0 := Aside0.mk (Kd.C_below F0.out hb_)
        replace F1 := Aside0.mk (Kd.C_below F1.out hb_)
        replace FA := Aside0.mk (Kd.C_below FA.out hb_)
        replace HB := Aside0.mk (below_step HB.out hb_)
        clear hb_
        generalize wr.drew = Wd at *
        refine take_ (i := 0) (N := some 65) (v := ?_) (a' := ?_) #[true, false, false, false, false, false, false, false, false, false, false, false, false, false, false, false, false, false, false, false, false, false, false, false, false, false, false] rfl rfl (take_ofW HT_.out HW_.out (by kernel_rfl)) (fun _ _ _ h => h) (Or.inl ⟨by rfl, ?_⟩) hHeld ?_ ?_
        rotate_left
        ·rintro w' s0
         obtain ⟨z0, z1, z2, z3, y0, y1, y2, y3⟩ := blk_cells4 s0
         go_simp
         with_reducible rfl
        rotate_left
        ·simp only [Act.put, List.setIfInBounds_toArray, List.set_cons_zero, List.set_cons_succ, i64_w, i32_w]
         rfl
        refine pure_ (i := 4) (N := some 69) (v := ?_) (a' := ?_) #[true, false, false, false, true, false, false, false, false, false, false, false, false, false, false, false, false, false, false, false, false, false, false, false, false, false, false] rfl rfl (any_of HT_.out (by kernel_rfl)) (fun _ _ _ h => h) (Or.inl ⟨by rfl, ?_⟩) ?_ ?_
        rotate_left
        ·intro w'
         go_simp
         with_reducible rfl
        rotate_left
        ·simp only [Act.put, List.setIfInBounds_toArray, List.set_cons_zero, List.set_cons_succ, i64_w, i32_w]
         rfl
        refine take_ (i := 5) (N := some 70) (v := ?_) (a' := ?_) #[true, false, false, false, true, true, false, false, false, false, false, false, false, false, false, false, false, false, false, false, false, false, false, false, false, false, false] rfl rfl (take_ofW HT_.out HW_.out (by kernel_rfl)) (fun _ _ _ h => h) (Or.inl ⟨by rfl, ?_⟩) hHeld ?_ ?_
        rotate_left
        ·rintro w' s0
         obtain ⟨z0, z1, z2, z3, y0, y1, y2, y3⟩ := blk_cells4 s0
         go_simp
         with_reducible rfl
        rotate_left
        ·simp only [Act.put, List.setIfInBounds_toArray, List.set_cons_zero, List.set_cons_succ, i64_w, i32_w]
         rfl
        refine one_ (i := 1) (N := some 66) #[true, true, false, false, true, true, false, false, false, false, false, false, false, false, false, false, false, false, false, false, false, false, false, false, false, false, false] rfl rfl (one_of HT_.out (by kernel_rfl)) (by decide) (fun K hK => ?_)
        refine Kd.R_lit_step Kd.bool (w0 := Wd) (W := Wd) Wd.heap.size 4 (by rfl) (N := 66) rfl (xs := ([] : List Bool)) (inner := []) (ok := fun _ => True) (okp := fun _ => True) ?hr (Reps.none _ _) (fun _ hk => hk) trivial (Below.refl _ _) (Nat.le_refl _) (by simp) ?_
        case hr => first | (go_simp; done) | (go_simp; rfl)
        intro v66 Wn ho hb hg hnew
        obtain ⟨E7, e7, rfl⟩ := Kd.R_slice ho
        have F7 := Aside0.mk (Kd.R_reads' ho).2.2
        have N7 := Aside0.mk (Kd.R_reads' ho).2.1
        replace K3 := Aside0.mk (blk_below K3.out hb)
        replace F0 := Aside0.mk (Kd.C_below F0.out hb)
        replace F1 := Aside0.mk (Kd.C_below F1.out hb)
        replace FA := Aside0.mk (Kd.C_below FA.out hb)
        replace HB := Aside0.mk (below_step HB.out hb)
        clear ho hb hg hnew
        refine hK.out _ _ K3.out (fun hHeld => ?_)
        clear hK K
        refine norm_ (a' := ?_) ?_ ?_
        rotate_left
        ·show Act.put _ (some 66) _ = _
         simp only [Act.put, List.setIfInBounds_toArray, List.set_cons_zero, List.set_cons_succ, i64_w, i32_w]
         rfl
        refine one_ (i := 2) (N := some 67) #[true, true, true, false, true, true, false, false, false, false, false, false, false, false, false, false, false, false, false, false, false, false, false, false, false, false, false] rfl rfl (one_of HT_.out (by kernel_rfl)) (by decide) (fun K hK => ?_)
        refine goes_ Try.func12 (by kernel_rfl) rfl #[.agg #[.slice A2 r0.length c2, .slice B2 r1.length d2, .int .i64 r2, .bool false], .slice E7 ([] : List Bool).length e7] (by rfl) rfl rfl (by (try simp only [List.map_toArray, List.map_cons, List.map_nil]); first | done | rfl) ?_
        refine (impl_DiskCrash.calls A2 c2 r0 B2 d2 r1 r2 false E7 e7 [] r0 [] (-1) false _ F0.out HN.out.1 F1.out HN.out.2.1 F7.out N7.out HQ0.out).mono ?_
        rintro e We ⟨v0, v1, rfl, hR, hS, hb⟩
        obtain ⟨A8, c8, rfl⟩ := Kd.R_slice hR
        refine ⟨_, rfl, ?_⟩
        have F8 := Aside0.mk (Kd.R_reads' hR).2.2
        replace K3 := Aside0.mk (blk_below K3.out hb)
        replace F0 := Aside0.mk (Kd.C_below F0.out hb)
        replace F1 := Aside0.mk (Kd.C_below F1.out hb)
        replace FA := Aside0.mk (Kd.C_below FA.out hb)
        replace HB := Aside0.mk (below_step HB.out hb)
        clear hR hS hb
        refine hK.out _ _ K3.out (fun hHeld => ?_)
        clear hK K
        refine norm_ (a' := ?_) ?_ ?_
        rotate_left
        ·show Act.put _ (some 67) _ = _
         simp only [Act.put, List.setIfInBounds_toArray, List.set_cons_zero, List.set_cons_succ, i64_w, i32_w]
         rfl
        refine pure_ (i := 3) (N := some 68) (v := ?_) (a' := ?_) #[true, true, true, true, true, true, false, false, false, false, false, false, false, false, false, false, false, false, false, false, false, false, false, false, false, false, false] rfl rfl (any_of HT_.out (by kernel_rfl)) (fun _ _ _ h => h) (Or.inl ⟨by rfl, ?_⟩) ?_ ?_
        rotate_left
        ·intro w'
         go_simp
         with_reducible rfl
        rotate_left
        ·simp only [Act.put, List.setIfInBounds_toArray, List.set_cons_zero, List.set_cons_succ, i64_w, i32_w]
         rfl
        refine one_ (i := 6) (N := some 71) #[true, true, true, true, true, true, true, false, false, false, false, false, false, false, false, false, false, false, false, false, false, false, false, false, false, false, false] rfl rfl (one_of HT_.out (by kernel_rfl)) (by decide) (fun K hK => ?_)
        refine goes_ Try.func15 (by kernel_rfl) rfl #[.slice A8 r0.length c8, .slice A2 r0.length c2] (by rfl) rfl rfl (by (try simp only [List.map_toArray, List.map_cons, List.map_nil]); first | done | rfl) ?_
        refine (lw_same A8 A2 c8 c2 r0 _ F8.out F0.out).mono ?_
        rintro e Wg ⟨rfl, rfl⟩
        refine ⟨_, rfl, ?_⟩
        refine hK.out _ _ K3.out (fun hHeld => ?_)
        clear hK K
        refine norm_ (a' := ?_) ?_ ?_
        rotate_left
        ·show Act.put _ (some 71) _ = _
         simp only [Act.put, List.setIfInBounds_toArray, List.set_cons_zero, List.set_cons_succ, i64_w, i32_w]
         rfl
        refine pure_ (i := 7) (N := some 72) (v := ?_) (a' := ?_) #[true, true, true, true, true, true, true, true, false, false, false, false, false, false, false, false, false, false, false, false, false, false, false, false, false, false, false] rfl rfl (any_of HT_.out (by kernel_rfl)) (fun _ _ _ h => h) (Or.inl ⟨by rfl, ?_⟩) ?_ ?_
        rotate_left
        ·intro w'
         go_simp
         with_reducible rfl
        rotate_left
        ·simp only [Act.put, List.setIfInBounds_toArray, List.set_cons_zero, List.set_cons_succ, i64_w, i32_w]
         rfl
        refine pure_ (i := 8) (N := some 73) (v := ?_) (a' := ?_) #[true, true, true, true, true, true, true, true, true, false, false, false, false, false, false, false, false, false, false, false, false, false, false, false, false, false, false] rfl rfl (any_of HT_.out (by kernel_rfl)) (fun _ _ _ h => h) (Or.inl ⟨by rfl, ?_⟩) ?_ ?_
        rotate_left
        ·intro w'
         go_simp
         with_reducible rfl
        rotate_left
        ·simp only [Act.put, List.setIfInBounds_toArray, List.set_cons_zero, List.set_cons_succ, i64_w, i32_w]
         rfl
        refine take_ (i := 9) (N := some 74) (v := ?_) (a' := ?_) #[true, true, true, true, true, true, true, true, true, true, false, false, false, false, false, false, false, false, false, false, false, false, false, false, false, false, false] rfl rfl (take_ofW HT_.out HW_.out (by kernel_rfl)) (fun _ _ _ h => h) (Or.inl ⟨by rfl, ?_⟩) hHeld ?_ ?_
        rotate_left
        ·rintro w' s0
         obtain ⟨z0, z1, z2, z3, y0, y1, y2, y3⟩ := blk_cells4 s0
         go_simp
         with_reducible rfl
        rotate_left
        ·simp only [Act.put, List.setIfInBounds_toArray, List.set_cons_zero, List.set_cons_succ, i64_w, i32_w]
         rfl
        refine pure_ (i := 10) (N := some 75) (v := ?_) (a' := ?_) #[true, true, true, true, true, true, true, true, true, true, true, false, false, false, false, false, false, false, false, false, false, false, false, false, false, false, false] rfl rfl (any_of HT_.out (by kernel_rfl)) (fun _ _ _ h => h) (Or.inl ⟨by rfl, ?_⟩) ?_ ?_
        rotate_left
        ·intro w'
         go_simp
         with_reducible rfl
        rotate_left
        ·simp only [Act.put, List.setIfInBounds_toArray, List.set_cons_zero, List.set_cons_succ, i64_w, i32_w]
         rfl
        refine pure_ (i := 11) (N := some 76) (v := ?_) (a' := ?_) #[true, true, true, true, true, true, true, true, true, true, true, true, false, false, false, false, false, false, false, false, false, false, false, false, false, false, false] rfl rfl (any_of HT_.out (by kernel_rfl)) (fun _ _ _ h => h) (Or.inl ⟨by rfl, ?_⟩) ?_ ?_
        rotate_left
        ·intro w'
         go_simp
         with_reducible rfl
        rotate_left
        ·simp only [Act.put, List.setIfInBounds_toArray, List.set_cons_zero, List.set_cons_succ, i64_w, i32_w]
         rfl
        refine take_ (i := 12) (N := some 77) (v := ?_) (a' := ?_) #[true, true, true, true, true, true, true, true, true, true, true, true, true, false, false, false, false, false, false, false, false, false, false, false, false, false, false] rfl rfl (take_ofW HT_.out HW_.out (by kernel_rfl)) (fun _ _ _ h => h) (Or.inl ⟨by rfl, ?_⟩) hHeld ?_ ?_
        rotate_left
        ·rintro w' s0
         obtain ⟨z0, z1, z2, z3, y0, y1, y2, y3⟩ := blk_cells4 s0
         go_simp
         with_reducible rfl
        rotate_left
        ·simp only [Act.put, List.setIfInBounds_toArray, List.set_cons_zero, List.set_cons_succ, i64_w, i32_w]
         rfl
        refine pure_ (i := 13) (N := some 78) (v := ?_) (a' := ?_) #[true, true, true, true, true, true, true, true, true, true, true, true, true, true, false, false, false, false, false, false, false, false, false, false, false, false, false] rfl rfl (any_of HT_.out (by kernel_rfl)) (fun _ _ _ h => h) (Or.inl ⟨by rfl, ?_⟩) ?_ ?_
        rotate_left
        ·intro w'
         go_simp
         with_reducible rfl
        rotate_left
        ·simp only [Act.put, List.setIfInBounds_toArray, List.set_cons_zero, List.set_cons_succ, i64_w, i32_w]
         rfl
        refine pure_ (i := 14) (N := some 79) (v := ?_) (a' := ?_) #[true, true, true, true, true, true, true, true, true, true, true, true, true, true, true, false, false, false, false, false, false, false, false, false, false, false, false] rfl rfl (any_of HT_.out (by kernel_rfl)) (fun _ _ _ h => h) (Or.inl ⟨by rfl, ?_⟩) ?_ ?_
        rotate_left
        ·intro w'
         go_simp
         with_reducible rfl
        rotate_left
        ·simp only [Act.put, List.setIfInBounds_toArray, List.set_cons_zero, List.set_cons_succ, i64_w, i32_w]
         rfl
        refine pure_ (i := 15) (N := some 80) (v := ?_) (a' := ?_) #[true, true, true, true, true, true, true, true, true, true, true, true, true, true, true, true, false, false, false, false, false, false, false, false, false, false, false] rfl rfl (any_of HT_.out (by kernel_rfl)) (fun _ _ _ h => h) (Or.inl ⟨by rfl, ?_⟩) ?_ ?_
        rotate_left
        ·intro w'
         go_simp
         with_reducible rfl
        rotate_left
        ·simp only [Act.put, List.setIfInBounds_toArray, List.set_cons_zero, List.set_cons_succ, i64_w, i32_w]
         rfl
        refine take_ (i := 16) (N := some 81) (v := ?_) (a' := ?_) #[true, true, true, true, true, true, true, true, true, true, true, true, true, true, true, true, true, false, false, false, false, false, false, false, false, false, false] rfl rfl (take_ofW HT_.out HW_.out (by kernel_rfl)) (fun _ _ _ h => h) (Or.inl ⟨by rfl, ?_⟩) hHeld ?_ ?_
        rotate_left
        ·rintro w' s0
         obtain ⟨z0, z1, z2, z3, y0, y1, y2, y3⟩ := blk_cells4 s0
         go_simp
         with_reducible rfl
        rotate_left
        ·simp only [Act.put, List.setIfInBounds_toArray, List.set_cons_zero, List.set_cons_succ, i64_w, i32_w]
         rfl
        refine pure_ (i := 17) (N := some 82) (v := ?_) (a' := ?_) #[true, true, true, true, true, true, true, true, true, true, true, true, true, true, true, true, true, true, false, false, false, false, false, false, false, false, false] rfl rfl (any_of HT_.out (by kernel_rfl)) (fun _ _ _ h => h) (Or.inl ⟨by rfl, ?_⟩) ?_ ?_
        rotate_left
        ·intro w'
         go_simp
         with_reducible rfl
        rotate_left
        ·simp only [Act.put, List.setIfInBounds_toArray, List.set_cons_zero, List.set_cons_succ, i64_w, i32_w]
         rfl
        refine take_ (i := 20) (N := some 85) (v := ?_) (a' := ?_) #[true, true, true, true, true, true, true, true, true, true, true, true, true, true, true, true, true, true, false, false, true, false, false, false, false, false, false] rfl rfl (take_ofW HT_.out HW_.out (by kernel_rfl)) (fun _ _ _ h => h) (Or.inl ⟨by rfl, ?_⟩) hHeld ?_ ?_
        rotate_left
        ·rintro w' s0
         obtain ⟨z0, z1, z2, z3, y0, y1, y2, y3⟩ := blk_cells4 s0
         go_simp
         with_reducible rfl
        rotate_left
        ·simp only [Act.put, List.setIfInBounds_toArray, List.set_cons_zero, List.set_cons_succ, i64_w, i32_w]
         rfl
        refine one_ (i := 18) (N := some 83) #[true, true, true, true, true, true, true, true, true, true, true, true, true, true, true, true, true, true, true, false, true, false, false, false, false, false, false] rfl rfl (one_of HT_.out (by kernel_rfl)) (by decide) (fun K hK => ?_)
        refine goes_ Try.func12 (by kernel_rfl) rfl #[.agg #[.slice A2 r0.length c2, .slice B2 r1.length d2, .int .i64 r2, .bool false], .slice EA rA.length ea] (by rfl) rfl rfl (by (try simp only [List.map_toArray, List.map_cons, List.map_nil]); first | done | rfl) ?_
        refine (impl_DiskCrash.calls A2 c2 r0 B2 d2 r1 r2 false EA ea rA SY [] (-1) false _ F0.out HN.out.1 F1.out HN.out.2.1 FA.out HNA.out HQ1.out).mono ?_
        rintro e We ⟨v0, v3, rfl, hR, hS, hb⟩
        obtain ⟨A9, c9, rfl⟩ := Kd.R_slice hR
        refine ⟨_, rfl, ?_⟩
        have F9 := Aside0.mk (Kd.R_reads' hR).2.2
        replace K3 := Aside0.mk (blk_below K3.out hb)
        replace F0 := Aside0.mk (Kd.C_below F0.out hb)
        replace F1 := Aside0.mk (Kd.C_below F1.out hb)
        replace HB := Aside0.mk (below_step HB.out hb)
        clear hR hS hb
        refine hK.out _ _ K3.out (fun hHeld => ?_)
        clear hK K
        refine norm_ (a' := ?_) ?_ ?_
        rotate_left
        ·show Act.put _ (some 83) _ = _
         simp only [Act.put, List.setIfInBounds_toArray, List.set_cons_zero, List.set_cons_succ, i64_w, i32_w]
         rfl
        refine pure_ (i := 19) (N := some 84) (v := ?_) (a' := ?_) #[true, true, true, true, true, true, true, true, true, true, true, true, true, true, true, true, true, true, true, true, true, false, false, false, false, false, false] rfl rfl (any_of HT_.out (by kernel_rfl)) (fun _ _ _ h => h) (Or.inl ⟨by rfl, ?_⟩) ?_ ?_
        rotate_left
        ·intro w'
         go_simp
         with_reducible rfl
        rotate_left
        ·simp only [Act.put, List.setIfInBounds_toArray, List.set_cons_zero, List.set_cons_succ, i64_w, i32_w]
         rfl
        refine one_ (i := 21) (N := some 86) #[true, true, true, true, true, true, true, true, true, true, true, true, true, true, true, true, true, true, true, true, true, true, false, false, false, false, false] rfl rfl (one_of HT_.out (by kernel_rfl)) (by decide) (fun K hK => ?_)
        refine goes_ Try.func18 (by kernel_rfl) rfl #[.agg #[.slice A2 r0.length c2, .slice B2 r1.length d2, .int .i64 r2, .bool false]] (by rfl) rfl rfl (by (try simp only [List.map_toArray, List.map_cons, List.map_nil]); first | done | rfl) ?_
        refine (impl_DiskSync.calls A2 c2 r0 B2 d2 r1 r2 false SY [] (fuelD r2) false _ F0.out HN.out.1 F1.out HN.out.2.1 HQD.out).mono ?_
        rintro e We ⟨v0, v4, rfl, hR, hS, hb⟩
        obtain ⟨AX, cx, rfl⟩ := Kd.R_slice hR
        refine ⟨_, rfl, ?_⟩
        have FX := Aside0.mk (Kd.R_reads' hR).2.2
        replace K3 := Aside0.mk (blk_below K3.out hb)
        replace F9 := Aside0.mk (Kd.C_below F9.out hb)
        replace HB := Aside0.mk (below_step HB.out hb)
        clear hR hS hb
        refine hK.out _ _ K3.out (fun hHeld => ?_)
        clear hK K
        refine norm_ (a' := ?_) ?_ ?_
        rotate_left
        ·show Act.put _ (some 86) _ = _
         simp only [Act.put, List.setIfInBounds_toArray, List.set_cons_zero, List.set_cons_succ, i64_w, i32_w]
         rfl
        refine pure_ (i := 22) (N := some 87) (v := ?_) (a' := ?_) #[true, true, true, true, true, true, true, true, true, true, true, true, true, true, true, true, true, true, true, true, true, true, true, false, false, false, false] rfl rfl (any_of HT_.out (by kernel_rfl)) (fun _ _ _ h => h) (Or.inl ⟨by rfl, ?_⟩) ?_ ?_
        rotate_left
        ·intro w'
         go_simp
         with_reducible rfl
        rotate_left
        ·simp only [Act.put, List.setIfInBounds_toArray, List.set_cons_zero, List.set_cons_succ, i64_w, i32_w]
         rfl
        refine one_ (i := 23) (N := some 88) #[true, true, true, true, true, true, true, true, true, true, true, true, true, true, true, true, true, true, true, true, true, true, true, true, false, false, false] rfl rfl (one_of HT_.out (by kernel_rfl)) (by decide) (fun K hK => ?_)
        refine goes_ Try.func15 (by kernel_rfl) rfl #[.slice A9 SY.length c9, .slice AX SY.length cx] (by rfl) rfl rfl (by (try simp only [List.map_toArray, List.map_cons, List.map_nil]); first | done | rfl) ?_
        refine (lw_same A9 AX c9 cx SY _ F9.out FX.out).mono ?_
        rintro e Wg ⟨rfl, rfl⟩
        refine ⟨_, rfl, ?_⟩
        refine hK.out _ _ K3.out (fun hHeld => ?_)
        clear hK K
        refine norm_ (a' := ?_) ?_ ?_
        rotate_left
        ·show Act.put _ (some 88) _ = _
         simp only [Act.put, List.setIfInBounds_toArray, List.set_cons_zero, List.set_cons_succ, i64_w, i32_w]
         rfl
        refine pure_ (i := 24) (N := some 89) (v := ?_) (a' := ?_) #[true, true, true, true, true, true, true, true, true, true, true, true, true, true, true, true, true, true, true, true, true, true, true, true, true, false, false] rfl rfl (any_of HT_.out (by kernel_rfl)) (fun _ _ _ h => h) (Or.inl ⟨by rfl, ?_⟩) ?_ ?_
        rotate_left
        ·intro w'
         go_simp
         with_reducible rfl
        rotate_left
        ·simp only [Act.put, List.setIfInBounds_toArray, List.set_cons_zero, List.set_cons_succ, i64_w, i32_w]
         rfl
        refine pure_ (i := 25) (N := some 90) (v := ?_) (a' := ?_) #[true, true, true, true, true, true, true, true, true, true, true, true, true, true, true, true, true, true, true, true, true, true, true, true, true, true, false] rfl rfl (any_of HT_.out (by kernel_rfl)) (fun _ _ _ h => h) (Or.inl ⟨by rfl, ?_⟩) ?_ ?_
        rotate_left
        ·intro w'
         go_simp
         with_reducible rfl
        rotate_left
        ·simp only [Act.put, List.setIfInBounds_toArray, List.set_cons_zero, List.set_cons_succ, i64_w, i32_w]
         rfl
        refine pure_ (i := 26) (N := some 2) (v := ?_) (a' := ?_) #[true, true, true, true, true, true, true, true, true, true, true, true, true, true, true, true, true, true, true, true, true, true, true, true, true, true, true] rfl rfl (any_of HT_.out (by kernel_rfl)) (fun _ _ _ h => h) (Or.inl ⟨by rfl, ?_⟩) ?_ ?_
        rotate_left
        ·intro w'
         go_simp
         with_reducible rfl
        rotate_left
        ·simp only [Act.put, List.setIfInBounds_toArray, List.set_cons_zero, List.set_cons_succ, i64_w, i32_w]
         rfl
        refine done_ (done_of HT_.out (by kernel_rfl)) ?_
        clear hHeld
        go_wp2_with fail
        go_ret
        exact ⟨rfl, HB.out⟩
end Go.Proofs.Yteddpdonmhiplaa.PR
