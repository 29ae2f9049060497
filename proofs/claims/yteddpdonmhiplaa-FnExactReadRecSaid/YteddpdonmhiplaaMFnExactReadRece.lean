-- Made by this session's programs out of the translation and of its own texts.
import Derived.Test.YteddpdonmhiplaaMFnExactReadRecd
namespace Go.Proofs.Yteddpdonmhiplaa.PR
open Go.RowKit Go.Proofs.YteddpdonmhiplaaW.PrintWords Go.Proofs.YteddpdonmhiplaaW.PrintLast Go.Proofs.YteddpdonmhiplaaW.PrintMore
attribute [local go_sem] max2_int min2_int max_two min_two max_three min_three max_four min_four   -- for this text's walks alone
set_option linter.unusedVariables false
set_option linter.unusedSimpArgs false

/-! ### yimpl_rec: a text by hand -/
-- import Derived.StillTailTactics
-- import Derived.Deep.RegionLaw
/-- A number in two bytes. -/
def getN (t : List Int) (p : Nat) : Int := rd t p + 256 * rd t (p + 1)
def gN (x : Int) : Bool := decide (1 ≤ x) && decide (x ≤ 2000000000)
theorem goodN_eq (x : Int) : impl_goodNumber.f x = some (gN x) := by
  unfold impl_goodNumber.f gN
  by_cases h1 : 1 ≤ x
  · rw [if_pos (by omega), decide_eq_true h1, Bool.true_and]
  · rw [if_neg (by omega), decide_eq_false h1, Bool.false_and]
/-- What of a sector is its record's. -/
def cutN (t : List Int) : List Int := (t.take (12 + (getN t 8).toNat)).drop 12
def rrBad (pc : Int → Int → List Int → List Int) (k i : Int) (s : List Int) : Bool := decide (getN s 8 > 48) || (decide (getN s 8 < 48) && decide (i < k - 1)) || (decide (getN s 8 = 0) && decide (k > 1)) || (s != pc i k (cutN s))
/-- The payload behind i sectors. -/
def rrAcc (pc : Int → Int → List Int → List Int) (l0 : List Int) (l1 : List S79) (at_ k : Int) : Nat → Option (List Int)
  | 0 => some []
  | i + 1 => (rrAcc pc l0 l1 at_ k i).bind fun p => if rrBad pc k i (dRd l0 l1 (at_ + i)) = true then none else some (p ++ cutN (dRd l0 l1 (at_ + i)))
def mRR (pc : Int → Int → List Int → List Int) (l0 : List Int) (l1 : List S79) (a2 at_ seq : Int) : Bool × List Int × Int :=
  if (vD l0 l1 a2 && gN seq && inD l0 at_) = true then
    (if getN (dRd l0 l1 at_) 6 < 1 ∨ getN (dRd l0 l1 at_) 6 > ((l0.length / 64 : Nat) : Int) - at_ then (false, [], 0)
     else match rrAcc pc l0 l1 at_ (getN (dRd l0 l1 at_) 6) (getN (dRd l0 l1 at_) 6).toNat with
       | none => (false, [], 0)
       | some p => if p.length > 30000 then (false, [], 0) else (true, p, getN (dRd l0 l1 at_) 6))
  else (false, [], 0)
theorem iget2 (l : List Int) (hb : byteL l) (hl : l.length = 64) (p : Nat) (hp : p + 2 ≤ 64) : impl_get.f 3 l p 2 = some (getN l p) ∧ 0 ≤ getN l p ∧ getN l p < 65536 := by
  have b0 : 0 ≤ rd l (p : Int) ∧ rd l (p : Int) < 256 := by rw [rd_nat l p (by omega)]; exact hb _ (List.getElem_mem _)
  have b1 : 0 ≤ rd l ((p : Int) + 1) ∧ rd l ((p : Int) + 1) < 256 := by rw [show ((p : Int) + 1) = ((p + 1 : Nat) : Int) by omega, rd_nat l (p + 1) (by omega)]; exact hb _ (List.getElem_mem _)
  refine ⟨?_, by unfold getN; omega, by unfold getN; omega⟩
  unfold impl_get.f
  rw [show wrap64 ((2 : Int) - 1) = ((1 : Nat) : Int) by simp [wrap64]]
  rw [iget_step 2 l p 0 (rd l ((p : Int) + 1)) 1 (by omega) (by omega) (by omega) rfl (by omega) (by omega) b1.1 b1.2, show ((1 : Nat) : Int) - 1 = ((0 : Nat) : Int) by omega, iget_step 1 l p _ (rd l (p : Int)) 0 (by omega) (by omega) (by omega) (by simp) (by omega) (by omega) b0.1 b0.2, show ((0 : Nat) : Int) - 1 = -1 by omega, impl_get.l0, if_neg (by omega)]
  unfold getN
  congr 1
  omega
theorem rr_none {pc : Int → Int → List Int → List Int} {l0 : List Int} {l1 : List S79} {at_ k : Int} {i : Nat} {p : List Int} (h : rrAcc pc l0 l1 at_ k i = some p) (hb : rrBad pc k i (dRd l0 l1 (at_ + i)) = true) : ∀ j : Nat, rrAcc pc l0 l1 at_ k (i + 1 + j) = none
  | 0 => by rw [Nat.add_zero, rrAcc, h, Option.bind_some, if_pos hb]
  | j + 1 => by rw [← Nat.add_assoc, rrAcc, rr_none h hb j]; rfl
theorem rr_more {pc : Int → Int → List Int → List Int} {l0 : List Int} {l1 : List S79} {at_ k : Int} {i : Nat} {p : List Int} (h : rrAcc pc l0 l1 at_ k i = some p) (hb : rrBad pc k i (dRd l0 l1 (at_ + i)) = false) : rrAcc pc l0 l1 at_ k (i + 1) = some (p ++ cutN (dRd l0 l1 (at_ + i))) := by
  rw [rrAcc, h, Option.bind_some, if_neg (by rw [hb]; decide)]
theorem cutN_len (t : List Int) : (cutN t).length ≤ (getN t 8).toNat := by
  unfold cutN
  simp
  omega
theorem rr_len {pc : Int → Int → List Int → List Int} {l0 : List Int} {l1 : List S79} {at_ k : Int} : ∀ (i : Nat) (p : List Int), rrAcc pc l0 l1 at_ k i = some p → p.length ≤ 48 * i
  | 0, p, h => by obtain rfl := Option.some.inj h; simp
  | i + 1, p, h => by
    rw [rrAcc] at h
    obtain ⟨q, hq, h⟩ := Option.bind_eq_some_iff.1 h
    by_cases hb : rrBad pc k i (dRd l0 l1 (at_ + i)) = true
    · rw [if_pos hb] at h; cases h
    · rw [if_neg hb] at h
      obtain rfl := Option.some.inj h
      have h1 := rr_len i q hq
      have h2 := cutN_len (dRd l0 l1 (at_ + i))
      have h3 : getN (dRd l0 l1 (at_ + i)) 8 ≤ 48 := by
        unfold rrBad at hb
        simp only [Bool.or_eq_true, decide_eq_true_eq, not_or] at hb
        omega
      rw [List.length_append]
      omega
theorem add_plain2 (g a j : Nat) : Addr.add ⟨g, a, none⟩ j = ⟨g, a + j, none⟩ := by simp [Addr.add]
def impl_ReadRec.gT13 : Bool × List (List Nat × List Nat) := (true, [([], []), ([0], [0]), ([1], [1]), ([2], [2]), ([3, 2], [2, 3]), ([4, 2, 2], [2, 4]), ([5], [5]), ([5], [5]), ([7, 5], [5, 7]), ([6, 8, 5], [5, 6, 8]), ([5, 9, 2], [2, 5, 9]), ([2, 10], [2, 10]), ([11, 5], [11]), ([12], [12]), ([13, 12], [12, 13]), ([14, 12, 12], [12, 14]), ([15], [15]), ([16, 15], [15, 16]), ([15, 17, 12], [12, 15, 17]), ([12, 18], [12, 18]), ([19, 15], [19]), ([20], [20]), ([20], [20]), ([20], [20]), ([20], [20]), ([20], [20]), ([25, 20], [20, 25]), ([26, 20], [20, 26]), ([22, 23, 24, 27, 20, 20], [20, 22, 23, 24, 27]), ([21, 28, 20], [20, 21, 28]), ([20, 29], [20, 29])])
def impl_ReadRec.gB13 : List Nat := [0, 1, 3, 7, 15, 31, 63, 63, 191, 511, 1023, 2047, 4095, 8191, 16383, 32767, 65535, 131071, 262143, 524287, 1048575, 2097151, 2097151, 2097151, 2097151, 2097151, 35651583, 102760447, 266338303, 536870911, 1073741823]
theorem impl_ReadRec.gtab13 : rtab .any (opsOf Try.f26 13) = impl_ReadRec.gT13 := by kernel_rfl
theorem impl_ReadRec.gbits13 : waitsOk impl_ReadRec.gT13.2 impl_ReadRec.gB13 = true := by kernel_rfl
theorem get_arr2 (t : List Int) (hl : t.length = 64) (hb : byteL t) (p : Nat) (hp : p + 2 ≤ 64) (g : Nat) (X : World) (hX : X.heap[g]? = some (.cells (t.map (Value.int .u8)).toArray 84 (0, 0))) :
    Calls Try.prog 71 #[.slice (some ⟨g, 0, none⟩) 64 64, .int .i64 p, .int .i64 2] X fun e w' => e = .returned (.int .i64 (getN t p)) ∧ Below X.heap.size X w' := by
  have hC : Kd.C (Kd.int .u8) X (some ⟨g, 0, none⟩) t.length t := C_of_cells (by rw [hl]; omega) _ (fun j x hj => by rw [add_plain]; exact (blk_cell hX j).trans (by simp [hj]))
  have := impl_get.calls 3 (some ⟨g, 0, none⟩) 64 t p 2 (getN t p) X hC (by rw [hl]; exact Nat.le_refl _) (iget2 t hb hl p hp).1
  rw [hl] at this
  exact this.mono (fun e w' h => ⟨h.1, h.2.below⟩)
theorem rr_zero {pc : Int → Int → List Int → List Int} {l0 : List Int} {l1 : List S79} {a2 at_ seq : Int} {w W : World} (em : mRR pc l0 l1 a2 at_ seq = (false, [], 0)) (hB : Below w.heap.size w W) :
    ∃ v, Ending.returned (.agg #[.bool false, .slice none 0 0, .int .i64 0]) = Ending.returned (.agg #[.bool (mRR pc l0 l1 a2 at_ seq).1, v, .int .i64 (mRR pc l0 l1 a2 at_ seq).2.2]) ∧ Kd.R (Kd.int .u8) 5 (((W.setCell ⟨w.heap.size + 1, 0, none⟩ (.bool false)).setCell ⟨w.heap.size + 1, 1, none⟩ (.slice none 0 0)).setCell ⟨w.heap.size + 1, 2, none⟩ (.int .i64 0)) w.heap.size (fun _ => True) v (mRR pc l0 l1 a2 at_ seq).2.1 ∧ Below w.heap.size w (((W.setCell ⟨w.heap.size + 1, 0, none⟩ (.bool false)).setCell ⟨w.heap.size + 1, 1, none⟩ (.slice none 0 0)).setCell ⟨w.heap.size + 1, 2, none⟩ (.int .i64 0)) := by
  rw [em]
  exact ⟨_, rfl, Kd.R_nil _ _ _ _ _, below_set (below_set (below_set hB (Nat.le_succ _)) (Nat.le_succ _)) (Nat.le_succ _)⟩
set_option maxHeartbeats 4000000 in
set_option maxRecDepth 100000 in
theorem impl_ReadRec_any (kc : Nat) (pc : Int → Int → List Int → List Int) (A0 : Option Addr) (c0 : Nat) (l0 : List Int) (A1 : Option Addr) (c1 : Nat) (l1 : List S79) (a2 : Int) (a3 : Bool) (at_ seq : Int) (w : World) (hr0 : Kd.C (Kd.int .u8) w A0 l0.length l0) (hc0 : l0.length ≤ c0) (hr1 : Kd.C k79 w A1 l1.length l1) (hc1 : l1.length ≤ c1) (hok : RsOk l0 l1)
    (hpc : gN seq = true → ∀ i : Nat, i < 65536 → (cutN (dRd l0 l1 (at_ + i))).length ≤ 48 → cPiece kc seq i (getN (dRd l0 l1 at_) 6) (cutN (dRd l0 l1 (at_ + i))) = some (pc i (getN (dRd l0 l1 at_) 6) (cutN (dRd l0 l1 (at_ + i))))) :
    Calls Try.prog 26 #[.agg #[.slice A0 l0.length c0, .slice A1 l1.length c1, .int .i64 a2, .bool a3], .int .i64 at_, .int .i64 seq] w fun e w' => ∃ v : Value, e = .returned (.agg #[.bool (mRR pc l0 l1 a2 at_ seq).1, v, .int .i64 (mRR pc l0 l1 a2 at_ seq).2.2]) ∧ Kd.R (Kd.int .u8) 5 w' w.heap.size (fun _ => True) v (mRR pc l0 l1 a2 at_ seq).2.1 ∧ Below w.heap.size w w' := by
  obtain ⟨kv, hv⟩ := (implValid_ev l0 l1 a2 a3 hok.1 hok.2.1.1).rounds
  have hh := has_eq l0 l1 a2 a3 at_ hok.1
  have HV := Aside0.mk hv
  have HH := Aside0.mk hh
  have HR0 := Aside0.mk hr0
  have HC0 := Aside0.mk hc0
  have HR1 := Aside0.mk hr1
  have HC1 := Aside0.mk hc1
  have HOK := Aside0.mk hok
  have HPC := Aside0.mk hpc
  clear hr0 hc0 hr1 hc1 hv hh hok hpc
  have hu25 := Try.underlying25
  have hu49 := Try.underlying49
  have hb0 := below_alloc (below_alloc (Below.refl w.heap.size w) (.cells #[.slice A0 l0.length c0, .slice A1 l1.length c1, .int .i64 a2, .bool a3] 25)) (.cells #[.bool false, .slice none 0 0, .int .i64 0] 49)
  have K3 := Aside0.mk (blk_alloc (blk_new w (.cells #[.slice A0 l0.length c0, .slice A1 l1.length c1, .int .i64 a2, .bool a3] 25)) (.cells #[.bool false, .slice none 0 0, .int .i64 0] 49))
  have K6 := Aside0.mk (blk_new (w.alloc (.cells #[.slice A0 l0.length c0, .slice A1 l1.length c1, .int .i64 a2, .bool a3] 25)) (.cells #[.bool false, .slice none 0 0, .int .i64 0] 49))
  simp only [World.size_alloc] at K6
  have HB := Aside0.mk hb0
  clear hb0
  go_enter Try.func26, Try.ntmps26
  go_wp2_with fail
  generalize ((w.alloc (.cells #[.slice A0 l0.length c0, .slice A1 l1.length c1, .int .i64 a2, .bool a3] 25)).alloc (.cells #[.bool false, .slice none 0 0, .int .i64 0] 49)) = W0 at *
  refine (impl_ValidDisk.calls kv _ _ l0 _ _ l1 a2 a3 _ _ (Kd.C_below HR0.out HB.out) HC0.out (Kd.C_below HR1.out HB.out) HC1.out HV.out).mono ?_
  rintro e W1 ⟨rfl, hb⟩
  replace K3 := Aside0.mk (blk_below K3.out hb)
  replace K6 := Aside0.mk (blk_below K6.out hb)
  replace HB := Aside0.mk (below_step HB.out hb)
  clear hb
  obtain ⟨x0, x1, x2, x3, _, _, _, _⟩ := blk_cells4 K3.out
  have z0 : W1.cell? ⟨w.heap.size + 1, 0, none⟩ = some (.bool false) := (blk_cell K6.out 0).trans rfl
  have z1 : W1.cell? ⟨w.heap.size + 1, 1, none⟩ = some (.slice none 0 0) := (blk_cell K6.out 1).trans rfl
  have z2 : W1.cell? ⟨w.heap.size + 1, 2, none⟩ = some (.int .i64 0) := (blk_cell K6.out 2).trans rfl
  have y0 := blk_frozen K6.out 0
  have y1 := blk_frozen K6.out 1
  have y2 := blk_frozen K6.out 2
  by_cases cv : vD l0 l1 a2 = true
  case neg =>
    have cv' : vD l0 l1 a2 = false := by simpa using cv
    rw [cv']
    have em := Aside0.mk (show mRR pc l0 l1 a2 at_ seq = (false, [], 0) by unfold mRR; rw [cv', if_neg (by simp)])
    go_wp2_with fail
    refine bodyPost_ret (results_cell_row rfl _ _ (w.heap.size + 1) 49 #[.bool false, .slice none 0 0, .int .i64 0] (0, 0) _ rfl (blk_put (cs := #[.bool false, .slice none 0 0, .int .i64 0]) (blk_put (cs := #[.bool false, .slice none 0 0, .int .i64 0]) (blk_put (cs := #[.bool false, .slice none 0 0, .int .i64 0]) K6.out 0 _ rfl) 1 _ rfl) 2 _ rfl) hu49 rfl (by kernel_rfl)) rfl ?_
    exact rr_zero em.out HB.out
  rw [cv]
  have CV := Aside0.mk cv
  clear cv
  go_wp2_with fail
  refine (impl_goodNumber.calls seq (gN seq) _ (goodN_eq seq)).mono ?_
  rintro e W2 ⟨rfl, hd⟩
  have hb := hd.below
  clear hd
  clear x0 x1 x2 x3 z0 z1 z2 y0 y1 y2
  replace K3 := Aside0.mk (blk_below K3.out hb)
  replace K6 := Aside0.mk (blk_below K6.out hb)
  replace HB := Aside0.mk (below_step HB.out hb)
  clear hb
  obtain ⟨x0, x1, x2, x3, _, _, _, _⟩ := blk_cells4 K3.out
  have z0 : W2.cell? ⟨w.heap.size + 1, 0, none⟩ = some (.bool false) := (blk_cell K6.out 0).trans rfl
  have z1 : W2.cell? ⟨w.heap.size + 1, 1, none⟩ = some (.slice none 0 0) := (blk_cell K6.out 1).trans rfl
  have z2 : W2.cell? ⟨w.heap.size + 1, 2, none⟩ = some (.int .i64 0) := (blk_cell K6.out 2).trans rfl
  have y0 := blk_frozen K6.out 0
  have y1 := blk_frozen K6.out 1
  have y2 := blk_frozen K6.out 2
  by_cases cg : gN seq = true
  case neg =>
    have cg' : gN seq = false := by simpa using cg
    rw [cg']
    have em := Aside0.mk (show mRR pc l0 l1 a2 at_ seq = (false, [], 0) by unfold mRR; rw [cg', if_neg (by simp)])
    go_wp2_with fail
    refine bodyPost_ret (results_cell_row rfl _ _ (w.heap.size + 1) 49 #[.bool false, .slice none 0 0, .int .i64 0] (0, 0) _ rfl (blk_put (cs := #[.bool false, .slice none 0 0, .int .i64 0]) (blk_put (cs := #[.bool false, .slice none 0 0, .int .i64 0]) (blk_put (cs := #[.bool false, .slice none 0 0, .int .i64 0]) K6.out 0 _ rfl) 1 _ rfl) 2 _ rfl) hu49 rfl (by kernel_rfl)) rfl ?_
    exact rr_zero em.out HB.out
  rw [cg]
  replace HPC := Aside0.mk (HPC.out cg)
  have CG := Aside0.mk cg
  clear cg
  go_wp2_with fail
  refine (impl_Disk_has.calls _ _ l0 _ _ l1 a2 a3 at_ _ _ (Kd.C_below HR0.out HB.out) HC0.out (Kd.C_below HR1.out HB.out) HC1.out HH.out).mono ?_
  rintro e W3 ⟨rfl, hb⟩
  clear x0 x1 x2 x3 z0 z1 z2 y0 y1 y2
  replace K3 := Aside0.mk (blk_below K3.out hb)
  replace K6 := Aside0.mk (blk_below K6.out hb)
  replace HB := Aside0.mk (below_step HB.out hb)
  clear hb
  obtain ⟨x0, x1, x2, x3, _, _, _, _⟩ := blk_cells4 K3.out
  have z0 : W3.cell? ⟨w.heap.size + 1, 0, none⟩ = some (.bool false) := (blk_cell K6.out 0).trans rfl
  have z1 : W3.cell? ⟨w.heap.size + 1, 1, none⟩ = some (.slice none 0 0) := (blk_cell K6.out 1).trans rfl
  have z2 : W3.cell? ⟨w.heap.size + 1, 2, none⟩ = some (.int .i64 0) := (blk_cell K6.out 2).trans rfl
  have y0 := blk_frozen K6.out 0
  have y1 := blk_frozen K6.out 1
  have y2 := blk_frozen K6.out 2
  by_cases ci : inD l0 at_ = true
  case neg =>
    have ci' : inD l0 at_ = false := by simpa using ci
    rw [ci']
    have em := Aside0.mk (show mRR pc l0 l1 a2 at_ seq = (false, [], 0) by unfold mRR; rw [ci', if_neg (by simp)])
    go_wp2_with fail
    refine bodyPost_ret (results_cell_row rfl _ _ (w.heap.size + 1) 49 #[.bool false, .slice none 0 0, .int .i64 0] (0, 0) _ rfl (blk_put (cs := #[.bool false, .slice none 0 0, .int .i64 0]) (blk_put (cs := #[.bool false, .slice none 0 0, .int .i64 0]) (blk_put (cs := #[.bool false, .slice none 0 0, .int .i64 0]) K6.out 0 _ rfl) 1 _ rfl) 2 _ rfl) hu49 rfl (by kernel_rfl)) rfl ?_
    exact rr_zero em.out HB.out
  rw [ci]
  have CI := Aside0.mk ci
  have hin : 0 ≤ at_ ∧ at_ * 64 + 64 ≤ l0.length := by
    unfold inD at ci
    simp at ci
    omega
  obtain ⟨f1, f2, f3, f4, f5, f6, f7⟩ := vD_facts CV.out
  have f8 : ∀ x ∈ l1, x.f1.length = 64 := fun x hx => (f7 x hx).2.2
  have HIN := Aside0.mk hin
  have HF := Aside0.mk (And.intro f3 (And.intro f4 f8))
  clear ci hin f1 f2 f3 f4 f5 f6 f7 f8
  go_wp2_with fail
  refine (impl_Disk_read.calls A0 c0 l0 A1 c1 l1 a2 a3 at_ _ (Kd.C_below HR0.out HB.out) HC0.out (Kd.C_below HR1.out HB.out) HC1.out HIN.out.1 HIN.out.2 HF.out.1 HF.out.2.1 HF.out.2.2).mono ?_
  rintro e W4 ⟨rfl, hb⟩
  clear x0 x1 x2 x3 z0 z1 z2 y0 y1 y2
  replace K3 := Aside0.mk (blk_below K3.out hb)
  replace K6 := Aside0.mk (blk_below K6.out hb)
  replace HB := Aside0.mk (below_step HB.out hb)
  clear hb
  obtain ⟨t0, ht0⟩ : ∃ t0, t0 = dRd l0 l1 at_ := ⟨_, rfl⟩
  rw [← ht0]
  have HT0 := Aside0.mk ht0
  have hl0 : t0.length = 64 := by rw [ht0]; exact dRd_len l0 l1 at_ HIN.out.1 HIN.out.2 HF.out.1 HF.out.2.2
  have hby0 : byteL t0 := by rw [ht0]; exact dRd_bytes l0 l1 at_ HOK.out.2.2.1 HOK.out.2.2.2
  have HL0 := Aside0.mk hl0
  have HBY0 := Aside0.mk hby0
  clear ht0 hl0 hby0
  have yz : (W4.alloc (.cells (Array.replicate 64 (.int .u8 0)) 84)).heap[W4.heap.size]? = some (.cells (Array.replicate 64 (.int .u8 0)) 84 (0, 0)) := blk_new _ _
  have hst := Aside0.mk (store_arr (P := Try.prog) (W4.alloc (.cells (Array.replicate 64 (.int .u8 0)) 84)) W4.heap.size 84 84 _ (t0.map (Value.int .u8)).toArray yz (by rw [List.size_toArray, List.length_map, HL0.out]; kernel_rfl) (by simp [HL0.out]) (by simp [Value.oneCell']))
  have YZ := Aside0.mk yz
  clear yz
  go_wp2_with (first | ((with_reducible refine gate_store (t := 84) (p := 7) rfl ?_); refine store_event rfl rfl rfl (exec_store _ _ _ rfl rfl rfl hst.out) ?_; intro W5 hw5; have HW5 := Aside0.mk hw5; clear hw5))
  have hl3 := HB.out.size
  have hk6 := blk_lt K6.out
  have K7 := Aside0.mk (show W5.heap[W4.heap.size]? = some (.cells (t0.map (Value.int .u8)).toArray 84 (0, 0)) by rw [HW5.out]; exact setRow_heap _ _ _ _ _ _ YZ.out)
  replace K3 := Aside0.mk (show W5.heap[w.heap.size]? = some (.cells #[.slice A0 l0.length c0, .slice A1 l1.length c1, .int .i64 a2, .bool a3] 25 (0, 0)) by rw [HW5.out]; exact (setRow_other _ _ _ _ (by omega)).trans (blk_alloc K3.out _))
  replace K6 := Aside0.mk (show W5.heap[w.heap.size + 1]? = some (.cells #[.bool false, .slice none 0 0, .int .i64 0] 49 (0, 0)) by rw [HW5.out]; exact (setRow_other _ _ _ _ (by omega)).trans (blk_alloc K6.out _))
  replace HB := Aside0.mk (show Below w.heap.size w W5 by rw [HW5.out]; exact below_setRow (g := W4.heap.size) (below_alloc HB.out _) hl3 _)
  clear hst YZ HW5 hl3 hk6
  generalize W4.heap.size = g7 at *
  refine (get_arr2 t0 HL0.out HBY0.out 6 (by omega) g7 W5 K7.out).mono ?_
  rintro e W6 ⟨rfl, hb⟩
  replace K3 := Aside0.mk (blk_below K3.out hb)
  replace K6 := Aside0.mk (blk_below K6.out hb)
  replace HB := Aside0.mk (below_step HB.out hb)
  clear hb
  obtain ⟨k, hk⟩ : ∃ k, k = getN t0 6 := ⟨_, rfl⟩
  have hk0 := (iget2 t0 HBY0.out HL0.out 6 (by omega)).2
  rw [← hk] at hk0
  rw [← hk]
  have HK := Aside0.mk (show k = getN (dRd l0 l1 at_) 6 by rw [hk, HT0.out])
  have HK0 := Aside0.mk hk0
  clear hk hk0 K7 HL0 HBY0
  obtain ⟨x0, x1, x2, x3, _, _, _, _⟩ := blk_cells4 K3.out
  have z0 : W6.cell? ⟨w.heap.size + 1, 0, none⟩ = some (.bool false) := (blk_cell K6.out 0).trans rfl
  have z1 : W6.cell? ⟨w.heap.size + 1, 1, none⟩ = some (.slice none 0 0) := (blk_cell K6.out 1).trans rfl
  have z2 : W6.cell? ⟨w.heap.size + 1, 2, none⟩ = some (.int .i64 0) := (blk_cell K6.out 2).trans rfl
  have y0 := blk_frozen K6.out 0
  have y1 := blk_frozen K6.out 1
  have y2 := blk_frozen K6.out 2
  have hvg : (vD l0 l1 a2 && gN seq && inD l0 at_) = true := by rw [CV.out, CG.out, CI.out]; rfl
  by_cases c1 : k < 1
  · have em := Aside0.mk (show mRR pc l0 l1 a2 at_ seq = (false, [], 0) by unfold mRR; rw [if_pos hvg, if_pos (Or.inl (by rw [← HK.out]; exact c1))])
    clear hvg
    go_wp2_with fail
    refine bodyPost_ret (results_cell_row rfl _ _ (w.heap.size + 1) 49 #[.bool false, .slice none 0 0, .int .i64 0] (0, 0) _ rfl (blk_put (cs := #[.bool false, .slice none 0 0, .int .i64 0]) (blk_put (cs := #[.bool false, .slice none 0 0, .int .i64 0]) (blk_put (cs := #[.bool false, .slice none 0 0, .int .i64 0]) K6.out 0 _ rfl) 1 _ rfl) 2 _ rfl) hu49 rfl (by kernel_rfl)) rfl ?_
    exact rr_zero em.out HB.out
  have HVG := Aside0.mk hvg
  have C1 := Aside0.mk c1
  clear hvg
  obtain ⟨sc, hsc⟩ : ∃ sc : Int, sc = ((l0.length / 64 : Nat) : Int) := ⟨_, rfl⟩
  have hsec : impl_Disk_sectors.f l0 l1 a2 a3 = some sc := by unfold impl_Disk_sectors.f; rw [sectors_at l0 HOK.out.1, hsc]
  have HSC := Aside0.mk hsc
  clear hsc
  have HSEC := Aside0.mk hsec
  clear hsec
  go_wp2_with fail
  refine (impl_Disk_sectors.calls _ _ l0 _ _ l1 a2 a3 _ _ (Kd.C_below HR0.out HB.out) HC0.out (Kd.C_below HR1.out HB.out) HC1.out HSEC.out).mono ?_
  rintro e W7 ⟨rfl, hb⟩
  clear x0 x1 x2 x3 z0 z1 z2 y0 y1 y2
  replace K3 := Aside0.mk (blk_below K3.out hb)
  replace K6 := Aside0.mk (blk_below K6.out hb)
  replace HB := Aside0.mk (below_step HB.out hb)
  clear hb
  obtain ⟨x0, x1, x2, x3, _, _, _, _⟩ := blk_cells4 K3.out
  have z0 : W7.cell? ⟨w.heap.size + 1, 0, none⟩ = some (.bool false) := (blk_cell K6.out 0).trans rfl
  have z1 : W7.cell? ⟨w.heap.size + 1, 1, none⟩ = some (.slice none 0 0) := (blk_cell K6.out 1).trans rfl
  have z2 : W7.cell? ⟨w.heap.size + 1, 2, none⟩ = some (.int .i64 0) := (blk_cell K6.out 2).trans rfl
  have y0 := blk_frozen K6.out 0
  have y1 := blk_frozen K6.out 1
  have y2 := blk_frozen K6.out 2
  have hw : wrap64 (sc - at_) = sc - at_ := by
    have h1 := HIN.out
    have h2 := HF.out.1
    have h3 := HSC.out
    unfold wrap64
    omega
  by_cases c2 : k > sc - at_
  · have em := Aside0.mk (show mRR pc l0 l1 a2 at_ seq = (false, [], 0) by unfold mRR; rw [if_pos HVG.out, if_pos (Or.inr (by rw [← HK.out, ← HSC.out]; exact c2))])
    have c2' : wrap64 (sc - at_) < k := by rw [hw]; exact c2
    go_wp2_with fail
    refine bodyPost_ret (results_cell_row rfl _ _ (w.heap.size + 1) 49 #[.bool false, .slice none 0 0, .int .i64 0] (0, 0) _ rfl (blk_put (cs := #[.bool false, .slice none 0 0, .int .i64 0]) (blk_put (cs := #[.bool false, .slice none 0 0, .int .i64 0]) (blk_put (cs := #[.bool false, .slice none 0 0, .int .i64 0]) K6.out 0 _ rfl) 1 _ rfl) 2 _ rfl) hu49 rfl (by kernel_rfl)) rfl ?_
    exact rr_zero em.out HB.out
  have c2' : ¬ wrap64 (sc - at_) < k := by rw [hw]; exact c2
  have C2 := Aside0.mk c2
  have hmr : mRR pc l0 l1 a2 at_ seq = (match rrAcc pc l0 l1 at_ k k.toNat with
       | none => (false, [], 0)
       | some p => if p.length > 30000 then (false, [], 0) else (true, p, k)) := by
    unfold mRR
    rw [if_pos HVG.out, ← HK.out, if_neg (fun h => h.elim (fun h1 => by have := C1.out; omega) (fun h => C2.out (by rw [HSC.out]; exact h)))]
  have HMR := Aside0.mk hmr
  clear hmr c2 hw
  go_wp2_with fail
  have L9 := Aside0.mk (blk_lt K6.out)
  have K9 := Aside0.mk (blk_new W7 (.cells #[.bool true, .slice none 0 0, .int .i64 k] 49))
  replace K3 := Aside0.mk (blk_alloc K3.out (.cells #[.bool true, .slice none 0 0, .int .i64 k] 49))
  replace K6 := Aside0.mk (blk_alloc K6.out (.cells #[.bool true, .slice none 0 0, .int .i64 k] 49))
  replace HB := Aside0.mk (below_alloc HB.out (.cells #[.bool true, .slice none 0 0, .int .i64 k] 49))
  clear x0 x1 x2 x3 z0 z1 z2 y0 y1 y2 c1 c2'
  generalize W7.alloc (.cells #[.bool true, .slice none 0 0, .int .i64 k] 49) = W8 at *
  generalize W7.heap.size = g9 at *
  go_loopg [47] k.toNat (fun kq v47 w' => ∃ (i : Nat) (p : List Int) (v : Value), v47 = .int .i64 i ∧ Aside0 ((i : Int) ≤ k ∧ kq = k.toNat - i) ∧ Aside0 (rrAcc pc l0 l1 at_ k i = some p) ∧
    Aside0 (w'.heap[w.heap.size]? = some (.cells #[.slice A0 l0.length c0, .slice A1 l1.length c1, .int .i64 a2, .bool a3] 25 (0, 0))) ∧ Aside0 (w'.heap[w.heap.size + 1]? = some (.cells #[.bool false, .slice none 0 0, .int .i64 0] 49 (0, 0))) ∧ Aside0 (w'.heap[g9]? = some (.cells #[.bool true, v, .int .i64 k] 49 (0, 0))) ∧
    Aside0 (Kd.R (Kd.int .u8) 5 w' w.heap.size (fun _ => True) v p) ∧ Aside0 (Below w.heap.size w w'))
  case atStart => exact ⟨0, [], .slice none 0 0, rfl, ⟨by have := C1.out; omega, rfl⟩, ⟨rfl⟩, K3, K6, K9, ⟨Kd.R_nil _ _ _ _ _⟩, HB⟩
  case round =>
    clear K3 K6 K9 HB
    obtain ⟨i, p, v, rfl, HI, HP, K3, K6, K9, HR, HB⟩ := hrel
    by_cases ck : (i : Int) < k
    · have e1 : wrap64 (at_ + (i : Int)) = at_ + i := by
        have h1 := HIN.out
        have h2 := HF.out.1
        have h3 := HK0.out
        unfold wrap64
        omega
      have hin : 0 ≤ at_ + (i : Int) ∧ (at_ + (i : Int)) * 64 + 64 ≤ l0.length := by
        have h1 := HIN.out
        have h2 := HSC.out
        have h3 := C2.out
        omega
      have HIN2 := Aside0.mk hin
      have CK := Aside0.mk ck
      clear hin
      obtain ⟨x0, x1, x2, x3, _, _, _, _⟩ := blk_cells4 K3.out
      go_wp2_with fail
      refine (impl_Disk_read.calls A0 c0 l0 A1 c1 l1 a2 a3 (at_ + (i : Int)) _ (Kd.C_below HR0.out HB.out) HC0.out (Kd.C_below HR1.out HB.out) HC1.out HIN2.out.1 HIN2.out.2 HF.out.1 HF.out.2.1 HF.out.2.2).mono ?_
      rintro e Wa ⟨rfl, hb⟩
      replace K3 := Aside0.mk (blk_below K3.out hb)
      replace K6 := Aside0.mk (blk_below K6.out hb)
      replace K9 := Aside0.mk (blk_below K9.out hb)
      replace HR := Aside0.mk (Kd.R_below HR.out hb)
      replace HB := Aside0.mk (below_step HB.out hb)
      clear hb x0 x1 x2 x3 e1
      obtain ⟨t, ht⟩ : ∃ t, t = dRd l0 l1 (at_ + (i : Int)) := ⟨_, rfl⟩
      rw [← ht]
      have hl0 : t.length = 64 := by rw [ht]; exact dRd_len l0 l1 _ HIN2.out.1 HIN2.out.2 HF.out.1 HF.out.2.2
      have hby0 : byteL t := by rw [ht]; exact dRd_bytes l0 l1 _ HOK.out.2.2.1 HOK.out.2.2.2
      have HT := Aside0.mk ht
      have HL := Aside0.mk hl0
      have HBY := Aside0.mk hby0
      clear ht hl0 hby0
      have yz : (Wa.alloc (.cells (Array.replicate 64 (.int .u8 0)) 84)).heap[Wa.heap.size]? = some (.cells (Array.replicate 64 (.int .u8 0)) 84 (0, 0)) := blk_new _ _
      have hst := Aside0.mk (store_arr (P := Try.prog) (Wa.alloc (.cells (Array.replicate 64 (.int .u8 0)) 84)) Wa.heap.size 84 84 _ (t.map (Value.int .u8)).toArray yz (by rw [List.size_toArray, List.length_map, HL.out]; kernel_rfl) (by simp [HL.out]) (by simp [Value.oneCell']))
      have YZ := Aside0.mk yz
      clear yz
      go_wp2_with (first | ((with_reducible refine gate_store (t := 84) (p := 11) rfl ?_); refine store_event rfl rfl rfl (exec_store _ _ _ rfl rfl rfl hst.out) ?_; intro Wb hwb; have HWb := Aside0.mk hwb; clear hwb))
      have K11 := Aside0.mk (show Wb.heap[Wa.heap.size]? = some (.cells (t.map (Value.int .u8)).toArray 84 (0, 0)) by rw [HWb.out]; exact setRow_heap _ _ _ _ _ _ YZ.out)
      have hb : Below Wa.heap.size Wa Wb := by rw [HWb.out]; exact below_setRow (g := Wa.heap.size) (below_alloc (Below.refl _ _) _) (Nat.le_refl _) _
      replace K3 := Aside0.mk (blk_below K3.out hb)
      replace K6 := Aside0.mk (blk_below K6.out hb)
      have L11 := Aside0.mk (blk_lt K9.out)
      replace K9 := Aside0.mk (blk_below K9.out hb)
      replace HR := Aside0.mk (Kd.R_below HR.out hb)
      replace HB := Aside0.mk (below_step HB.out hb)
      clear hb hst YZ HWb
      generalize Wa.heap.size = g11 at *
      refine (get_arr2 t HL.out HBY.out 8 (by omega) g11 Wb K11.out).mono ?_
      rintro e Wc ⟨rfl, hb⟩
      replace K3 := Aside0.mk (blk_below K3.out hb)
      replace K6 := Aside0.mk (blk_below K6.out hb)
      replace K9 := Aside0.mk (blk_below K9.out hb)
      replace K11 := Aside0.mk (blk_below K11.out hb)
      replace HR := Aside0.mk (Kd.R_below HR.out hb)
      replace HB := Aside0.mk (below_step HB.out hb)
      clear hb
      obtain ⟨n, hn⟩ : ∃ n, n = getN t 8 := ⟨_, rfl⟩
      have hn0 := (iget2 t HBY.out HL.out 8 (by omega)).2
      rw [← hn] at hn0
      rw [← hn]
      have HN := Aside0.mk hn
      have HN0 := Aside0.mk hn0
      clear hn hn0
      have hzero : rrBad pc k i t = true → mRR pc l0 l1 a2 at_ seq = (false, [], 0) := fun hbad => by
        rw [HMR.out]
        have h1 := rr_none HP.out (by rw [← HT.out]; exact hbad) (k.toNat - i - 1)
        rw [show i + 1 + (k.toNat - i - 1) = k.toNat by have := CK.out; omega] at h1
        rw [h1]
      have HZ := Aside0.mk hzero
      clear hzero
      have z0 : Wc.cell? ⟨w.heap.size + 1, 0, none⟩ = some (.bool false) := (blk_cell K6.out 0).trans rfl
      have z1 : Wc.cell? ⟨w.heap.size + 1, 1, none⟩ = some (.slice none 0 0) := (blk_cell K6.out 1).trans rfl
      have z2 : Wc.cell? ⟨w.heap.size + 1, 2, none⟩ = some (.int .i64 0) := (blk_cell K6.out 2).trans rfl
      have y0 := blk_frozen K6.out 0
      have y1 := blk_frozen K6.out 1
      have y2 := blk_frozen K6.out 2
      have hk1 : wrap64 (k - 1) = k - 1 := by have := HK0.out; unfold wrap64; omega
      by_cases c48 : n > 48
      · have em := Aside0.mk (HZ.out (by unfold rrBad; rw [← HN.out, decide_eq_true c48]; simp))
        have c48' : (48 : Int) < n := c48
        go_wp2_with fail
        go_quiet (fail)
        go_wp2_with fail
        refine bodyPost_ret (results_cell_row rfl _ _ (w.heap.size + 1) 49 #[.bool false, .slice none 0 0, .int .i64 0] (0, 0) _ rfl (blk_put (cs := #[.bool false, .slice none 0 0, .int .i64 0]) (blk_put (cs := #[.bool false, .slice none 0 0, .int .i64 0]) (blk_put (cs := #[.bool false, .slice none 0 0, .int .i64 0]) (blk_drewN K6.out _) 0 _ rfl) 1 _ rfl) 2 _ rfl) hu49 rfl (by kernel_rfl)) rfl ?_
        exact rr_zero em.out (pw_below_drewN HB.out _)
      have c48' : decide ((48 : Int) < n) = false := decide_eq_false (by omega)
      by_cases c2 : n < 48 ∧ (i : Int) < k - 1
      · have em := Aside0.mk (HZ.out (by unfold rrBad; rw [← HN.out, decide_eq_true c2.1, decide_eq_true c2.2]; simp))
        obtain ⟨c3, c4⟩ := c2
        clear c48
        go_wp2_with fail
        go_quiet (fail)
        go_wp2_with fail
        refine bodyPost_ret (results_cell_row rfl _ _ (w.heap.size + 1) 49 #[.bool false, .slice none 0 0, .int .i64 0] (0, 0) _ rfl (blk_put (cs := #[.bool false, .slice none 0 0, .int .i64 0]) (blk_put (cs := #[.bool false, .slice none 0 0, .int .i64 0]) (blk_put (cs := #[.bool false, .slice none 0 0, .int .i64 0]) (blk_drewN K6.out _) 0 _ rfl) 1 _ rfl) 2 _ rfl) hu49 rfl (by kernel_rfl)) rfl ?_
        exact rr_zero em.out (pw_below_drewN HB.out _)
      by_cases c3 : n = 0 ∧ k > 1
      · have em := Aside0.mk (HZ.out (by unfold rrBad; rw [← HN.out, decide_eq_true c3.1, decide_eq_true c3.2]; simp))
        obtain ⟨c4, c5⟩ := c3
        have c6 : decide ((i : Int) < k - 1) = false := decide_eq_false (fun h => c2 ⟨by omega, h⟩)
        have c7 : (1 : Int) < k := c5
        have c8 : (n < 48) := by omega
        clear c48 c2
        go_wp2_with fail
        go_quiet (fail)
        go_wp2_with fail
        refine bodyPost_ret (results_cell_row rfl _ _ (w.heap.size + 1) 49 #[.bool false, .slice none 0 0, .int .i64 0] (0, 0) _ rfl (blk_put (cs := #[.bool false, .slice none 0 0, .int .i64 0]) (blk_put (cs := #[.bool false, .slice none 0 0, .int .i64 0]) (blk_put (cs := #[.bool false, .slice none 0 0, .int .i64 0]) (blk_drewN K6.out _) 0 _ rfl) 1 _ rfl) 2 _ rfl) hu49 rfl (by kernel_rfl)) rfl ?_
        exact rr_zero em.out (pw_below_drewN HB.out _)
      have hnn := HN0.out.1
      have hn48 : n ≤ 48 := by omega
      have hln : (cutN t).length = n.toNat := by
        unfold cutN
        rw [← HN.out]
        simp [HL.out]
        omega
      have hpi : ∀ X : World, X.heap[g11]? = some (.cells (t.map (Value.int .u8)).toArray 84 (0, 0)) → Calls Try.prog 72 #[.int .i64 seq, .int .i64 i, .int .i64 k, .slice (some ⟨g11, 12, none⟩) ((12 + n).toNat - 12) 52] X fun e w' => e = .returned (.agg ((pc i k (cutN t)).map (Value.int .u8)).toArray) ∧ (pc i k (cutN t)).length = 64 ∧ Below X.heap.size X w' := fun X hX => by
        have hC : Kd.C (Kd.int .u8) X (some ⟨g11, 12, none⟩) (cutN t).length (cutN t) := C_of_cells (by rw [hln]; omega) _ (fun j x hj => by
          have hjl : j < n.toNat := by have := (List.getElem?_eq_some_iff.1 hj).1; rw [hln] at this; exact this
          unfold cutN at hj
          rw [← HN.out, List.getElem?_drop, List.getElem?_take_of_lt (by omega)] at hj
          rw [add_plain2]
          exact (blk_cell hX (12 + j)).trans (by simp [hj]))
        have := impl_piece_arr kc seq i k (some ⟨g11, 12, none⟩) 52 (cutN t) (pc i k (cutN t)) X hC (by rw [hln]; omega) (by rw [hln]; omega) (by have := HPC.out i (by have h1 := HK0.out; have h2 := CK.out; omega) (by rw [← HT.out, hln]; omega); rw [← HK.out, ← HT.out] at this; exact this) (fun l c hl h => crc_bd kc l c (by omega) h)
        rw [hln, show n.toNat = ((12 + n).toNat - 12) by omega] at this
        exact this
      have HPI := Aside0.mk hpi
      have HLN := Aside0.mk hln
      have hld : ∀ X : World, X.heap[g11]? = some (.cells (t.map (Value.int .u8)).toArray 84 (0, 0)) → (Instr.loadAt 84 (.pointer (some ⟨g11, 0, none⟩))).run Try.prog X = .ok (.agg (t.map (Value.int .u8)).toArray) X := fun X hX =>
        load_arr X ⟨g11, 0, none⟩ 84 (t.map (Value.int .u8)) 64 5 (fun j v hj => by rw [add_plain]; exact (blk_cell hX j).trans (by simpa using hj)) (by kernel_rfl) (by rw [List.length_map, HL.out]; kernel_rfl)
      have HLD := Aside0.mk hld
      clear hpi hld hln
      have hw12 : wrap64 (12 + n) = 12 + n := by unfold wrap64; omega
      have hqg : Try.prog.eqGuardType Try.prog.depth 84 = false := by kernel_rfl
      have hs1 : (12 : Int) ≤ 12 + n := by omega
      have hs2 : 12 + n ≤ (64 : Int) := by omega
      have C2' := Aside0.mk c2
      have C3' := Aside0.mk c3
      clear c2 c3 c48
      go_wp2_with fail
      go_cut [87] (fun v87 wc => v87 = .bool (t != pc i k (cutN t)) ∧ Aside0 ((pc i k (cutN t)).length = 64) ∧
        Aside0 (wc.heap[w.heap.size]? = some (.cells #[.slice A0 l0.length c0, .slice A1 l1.length c1, .int .i64 a2, .bool a3] 25 (0, 0))) ∧ Aside0 (wc.heap[w.heap.size + 1]? = some (.cells #[.bool false, .slice none 0 0, .int .i64 0] 49 (0, 0))) ∧ Aside0 (wc.heap[g9]? = some (.cells #[.bool true, v, .int .i64 k] 49 (0, 0))) ∧
        Aside0 (wc.heap[g11]? = some (.cells (t.map (Value.int .u8)).toArray 84 (0, 0))) ∧ Aside0 (Kd.R (Kd.int .u8) 5 wc w.heap.size (fun _ => True) v p) ∧ Aside0 (Below w.heap.size w wc))
      case first =>
        by_cases b5 : n < 48
        · have c6 : decide ((i : Int) < k - 1) = false := decide_eq_false (fun h => C2'.out ⟨b5, h⟩)
          have c5 : decide (n < 48) = true := decide_eq_true b5
          by_cases b15 : n = 0
          · have c7 : decide ((1 : Int) < k) = false := decide_eq_false (fun h => C3'.out ⟨b15, h⟩)
            have c8 : (n == 0) = true := beq_iff_eq.2 b15
            clear b15 b5
            refine start_ (n := 31) (S := fun w' => w'.heap[g11]? = some (.cells (t.map (Value.int .u8)).toArray 84 (0, 0))) (ds := []) #[false, false, false, false, false, false, false, false, false, false, false, false, false, false, false, false, false, false, false, false, false, false, false, false, false, false, false, false, false, false, false] (by kernel_rfl) rfl rfl K11.out (fun hHeld => ?_); refine with_tabW impl_ReadRec.gtab13 impl_ReadRec.gbits13 (fun HT_ HW_ => ?_)
            replace K3 := Aside0.mk (blk_drew K3.out)
            replace K6 := Aside0.mk (blk_drew K6.out)
            replace K9 := Aside0.mk (blk_drew K9.out)
            replace K11 := Aside0.mk (blk_drew K11.out)
            replace HR := Aside0.mk (Kd.R_drew HR.out)
            replace HB := Aside0.mk (below_drew1 HB.out)
            clear z0 z1 z2 y0 y1 y2
            generalize Wc.drew = Wd at *
            refine pure_ (i := 0) (N := some 57) (v := ?_) (a' := ?_) #[true, false, false, false, false, false, false, false, false, false, false, false, false, false, false, false, false, false, false, false, false, false, false, false, false, false, false, false, false, false, false] rfl rfl (any_of HT_.out (by kernel_rfl)) (fun _ _ _ h => h) (Or.inl ⟨by rfl, ?_⟩) ?_ ?_
            rotate_left
            · intro w'
              go_simp
              with_reducible rfl
            rotate_left
            · simp only [Act.put, List.setIfInBounds_toArray, List.set_cons_zero, List.set_cons_succ, i64_w, i32_w]
              rfl
            refine pure_ (i := 1) (N := some 58) (v := ?_) (a' := ?_) #[true, true, false, false, false, false, false, false, false, false, false, false, false, false, false, false, false, false, false, false, false, false, false, false, false, false, false, false, false, false, false] rfl rfl (any_of HT_.out (by kernel_rfl)) (fun _ _ _ h => h) (Or.inl ⟨by rfl, ?_⟩) ?_ ?_
            rotate_left
            · intro w'
              go_simp
              with_reducible rfl
            rotate_left
            · simp only [Act.put, List.setIfInBounds_toArray, List.set_cons_zero, List.set_cons_succ, i64_w, i32_w]
              rfl
            refine pure_ (i := 2) (N := some 59) (v := ?_) (a' := ?_) #[true, true, true, false, false, false, false, false, false, false, false, false, false, false, false, false, false, false, false, false, false, false, false, false, false, false, false, false, false, false, false] rfl rfl (any_of HT_.out (by kernel_rfl)) (fun _ _ _ h => h) (Or.inl ⟨by rfl, ?_⟩) ?_ ?_
            rotate_left
            · intro w'
              go_simp
              with_reducible rfl
            rotate_left
            · simp only [Act.put, List.setIfInBounds_toArray, List.set_cons_zero, List.set_cons_succ, i64_w, i32_w]
              rfl
            refine pure_ (i := 3) (N := some 60) (v := ?_) (a' := ?_) #[true, true, true, true, false, false, false, false, false, false, false, false, false, false, false, false, false, false, false, false, false, false, false, false, false, false, false, false, false, false, false] rfl rfl (any_of HT_.out (by kernel_rfl)) (fun _ _ _ h => h) (Or.inl ⟨by rfl, ?_⟩) ?_ ?_
            rotate_left
            · intro w'
              go_simp
              with_reducible rfl
            rotate_left
            · simp only [Act.put, List.setIfInBounds_toArray, List.set_cons_zero, List.set_cons_succ, i64_w, i32_w]
              rfl
            refine pure_ (i := 4) (N := some 61) (v := ?_) (a' := ?_) #[true, true, true, true, true, false, false, false, false, false, false, false, false, false, false, false, false, false, false, false, false, false, false, false, false, false, false, false, false, false, false] rfl rfl (any_of HT_.out (by kernel_rfl)) (fun _ _ _ h => h) (Or.inl ⟨by rfl, ?_⟩) ?_ ?_
            rotate_left
            · intro w'
              go_simp
              with_reducible rfl
            rotate_left
            · simp only [Act.put, List.setIfInBounds_toArray, List.set_cons_zero, List.set_cons_succ, i64_w, i32_w]
              rfl
            refine pure_ (i := 5) (N := some 62) (v := ?_) (a' := ?_) #[true, true, true, true, true, true, false, false, false, false, false, false, false, false, false, false, false, false, false, false, false, false, false, false, false, false, false, false, false, false, false] rfl rfl (any_of HT_.out (by kernel_rfl)) (fun _ _ _ h => h) (Or.inl ⟨by rfl, ?_⟩) ?_ ?_
            rotate_left
            · intro w'
              go_simp
              with_reducible rfl
            rotate_left
            · simp only [Act.put, List.setIfInBounds_toArray, List.set_cons_zero, List.set_cons_succ, i64_w, i32_w]
              rfl
            refine pure_ (i := 6) (N := some 63) (v := ?_) (a' := ?_) #[true, true, true, true, true, true, true, false, false, false, false, false, false, false, false, false, false, false, false, false, false, false, false, false, false, false, false, false, false, false, false] rfl rfl (any_of HT_.out (by kernel_rfl)) (fun _ _ _ h => h) (Or.inl ⟨by rfl, ?_⟩) ?_ ?_
            rotate_left
            · intro w'
              go_simp
              with_reducible rfl
            rotate_left
            · simp only [Act.put, List.setIfInBounds_toArray, List.set_cons_zero, List.set_cons_succ, i64_w, i32_w]
              rfl
            refine pure_ (i := 7) (N := some 64) (v := ?_) (a' := ?_) #[true, true, true, true, true, true, true, true, false, false, false, false, false, false, false, false, false, false, false, false, false, false, false, false, false, false, false, false, false, false, false] rfl rfl (any_of HT_.out (by kernel_rfl)) (fun _ _ _ h => h) (Or.inl ⟨by rfl, ?_⟩) ?_ ?_
            rotate_left
            · intro w'
              go_simp
              with_reducible rfl
            rotate_left
            · simp only [Act.put, List.setIfInBounds_toArray, List.set_cons_zero, List.set_cons_succ, i64_w, i32_w]
              rfl
            refine pure_ (i := 8) (N := some 65) (v := ?_) (a' := ?_) #[true, true, true, true, true, true, true, true, true, false, false, false, false, false, false, false, false, false, false, false, false, false, false, false, false, false, false, false, false, false, false] rfl rfl (any_of HT_.out (by kernel_rfl)) (fun _ _ _ h => h) (Or.inl ⟨by rfl, ?_⟩) ?_ ?_
            rotate_left
            · intro w'
              go_simp
              with_reducible rfl
            rotate_left
            · simp only [Act.put, List.setIfInBounds_toArray, List.set_cons_zero, List.set_cons_succ, i64_w, i32_w]
              rfl
            refine pure_ (i := 9) (N := some 66) (v := ?_) (a' := ?_) #[true, true, true, true, true, true, true, true, true, true, false, false, false, false, false, false, false, false, false, false, false, false, false, false, false, false, false, false, false, false, false] rfl rfl (any_of HT_.out (by kernel_rfl)) (fun _ _ _ h => h) (Or.inl ⟨by rfl, ?_⟩) ?_ ?_
            rotate_left
            · intro w'
              go_simp
              with_reducible rfl
            rotate_left
            · simp only [Act.put, List.setIfInBounds_toArray, List.set_cons_zero, List.set_cons_succ, i64_w, i32_w]
              rfl
            refine pure_ (i := 10) (N := some 67) (v := ?_) (a' := ?_) #[true, true, true, true, true, true, true, true, true, true, true, false, false, false, false, false, false, false, false, false, false, false, false, false, false, false, false, false, false, false, false] rfl rfl (any_of HT_.out (by kernel_rfl)) (fun _ _ _ h => h) (Or.inl ⟨by rfl, ?_⟩) ?_ ?_
            rotate_left
            · intro w'
              go_simp
              with_reducible rfl
            rotate_left
            · simp only [Act.put, List.setIfInBounds_toArray, List.set_cons_zero, List.set_cons_succ, i64_w, i32_w]
              rfl
            refine pure_ (i := 11) (N := some 68) (v := ?_) (a' := ?_) #[true, true, true, true, true, true, true, true, true, true, true, true, false, false, false, false, false, false, false, false, false, false, false, false, false, false, false, false, false, false, false] rfl rfl (any_of HT_.out (by kernel_rfl)) (fun _ _ _ h => h) (Or.inl ⟨by rfl, ?_⟩) ?_ ?_
            rotate_left
            · intro w'
              go_simp
              with_reducible rfl
            rotate_left
            · simp only [Act.put, List.setIfInBounds_toArray, List.set_cons_zero, List.set_cons_succ, i64_w, i32_w]
              rfl
            refine pure_ (i := 12) (N := some 69) (v := ?_) (a' := ?_) #[true, true, true, true, true, true, true, true, true, true, true, true, true, false, false, false, false, false, false, false, false, false, false, false, false, false, false, false, false, false, false] rfl rfl (any_of HT_.out (by kernel_rfl)) (fun _ _ _ h => h) (Or.inl ⟨by rfl, ?_⟩) ?_ ?_
            rotate_left
            · intro w'
              go_simp
              with_reducible rfl
            rotate_left
            · simp only [Act.put, List.setIfInBounds_toArray, List.set_cons_zero, List.set_cons_succ, i64_w, i32_w]
              rfl
            refine pure_ (i := 13) (N := some 70) (v := ?_) (a' := ?_) #[true, true, true, true, true, true, true, true, true, true, true, true, true, true, false, false, false, false, false, false, false, false, false, false, false, false, false, false, false, false, false] rfl rfl (any_of HT_.out (by kernel_rfl)) (fun _ _ _ h => h) (Or.inl ⟨by rfl, ?_⟩) ?_ ?_
            rotate_left
            · intro w'
              go_simp
              with_reducible rfl
            rotate_left
            · simp only [Act.put, List.setIfInBounds_toArray, List.set_cons_zero, List.set_cons_succ, i64_w, i32_w]
              rfl
            refine pure_ (i := 14) (N := some 71) (v := ?_) (a' := ?_) #[true, true, true, true, true, true, true, true, true, true, true, true, true, true, true, false, false, false, false, false, false, false, false, false, false, false, false, false, false, false, false] rfl rfl (any_of HT_.out (by kernel_rfl)) (fun _ _ _ h => h) (Or.inl ⟨by rfl, ?_⟩) ?_ ?_
            rotate_left
            · intro w'
              go_simp
              with_reducible rfl
            rotate_left
            · simp only [Act.put, List.setIfInBounds_toArray, List.set_cons_zero, List.set_cons_succ, i64_w, i32_w]
              rfl
            refine pure_ (i := 15) (N := some 72) (v := ?_) (a' := ?_) #[true, true, true, true, true, true, true, true, true, true, true, true, true, true, true, true, false, false, false, false, false, false, false, false, false, false, false, false, false, false, false] rfl rfl (any_of HT_.out (by kernel_rfl)) (fun _ _ _ h => h) (Or.inl ⟨by rfl, ?_⟩) ?_ ?_
            rotate_left
            · intro w'
              go_simp
              with_reducible rfl
            rotate_left
            · simp only [Act.put, List.setIfInBounds_toArray, List.set_cons_zero, List.set_cons_succ, i64_w, i32_w]
              rfl
            refine pure_ (i := 16) (N := some 73) (v := ?_) (a' := ?_) #[true, true, true, true, true, true, true, true, true, true, true, true, true, true, true, true, true, false, false, false, false, false, false, false, false, false, false, false, false, false, false] rfl rfl (any_of HT_.out (by kernel_rfl)) (fun _ _ _ h => h) (Or.inl ⟨by rfl, ?_⟩) ?_ ?_
            rotate_left
            · intro w'
              go_simp
              with_reducible rfl
            rotate_left
            · simp only [Act.put, List.setIfInBounds_toArray, List.set_cons_zero, List.set_cons_succ, i64_w, i32_w]
              rfl
            refine pure_ (i := 17) (N := some 74) (v := ?_) (a' := ?_) #[true, true, true, true, true, true, true, true, true, true, true, true, true, true, true, true, true, true, false, false, false, false, false, false, false, false, false, false, false, false, false] rfl rfl (any_of HT_.out (by kernel_rfl)) (fun _ _ _ h => h) (Or.inl ⟨by rfl, ?_⟩) ?_ ?_
            rotate_left
            · intro w'
              go_simp
              with_reducible rfl
            rotate_left
            · simp only [Act.put, List.setIfInBounds_toArray, List.set_cons_zero, List.set_cons_succ, i64_w, i32_w]
              rfl
            refine pure_ (i := 18) (N := some 75) (v := ?_) (a' := ?_) #[true, true, true, true, true, true, true, true, true, true, true, true, true, true, true, true, true, true, true, false, false, false, false, false, false, false, false, false, false, false, false] rfl rfl (any_of HT_.out (by kernel_rfl)) (fun _ _ _ h => h) (Or.inl ⟨by rfl, ?_⟩) ?_ ?_
            rotate_left
            · intro w'
              go_simp
              with_reducible rfl
            rotate_left
            · simp only [Act.put, List.setIfInBounds_toArray, List.set_cons_zero, List.set_cons_succ, i64_w, i32_w]
              rfl
            refine pure_ (i := 19) (N := some 76) (v := ?_) (a' := ?_) #[true, true, true, true, true, true, true, true, true, true, true, true, true, true, true, true, true, true, true, true, false, false, false, false, false, false, false, false, false, false, false] rfl rfl (any_of HT_.out (by kernel_rfl)) (fun _ _ _ h => h) (Or.inl ⟨by rfl, ?_⟩) ?_ ?_
            rotate_left
            · intro w'
              go_simp
              with_reducible rfl
            rotate_left
            · simp only [Act.put, List.setIfInBounds_toArray, List.set_cons_zero, List.set_cons_succ, i64_w, i32_w]
              rfl
            refine pure_ (i := 20) (N := some 77) (v := ?_) (a' := ?_) #[true, true, true, true, true, true, true, true, true, true, true, true, true, true, true, true, true, true, true, true, true, false, false, false, false, false, false, false, false, false, false] rfl rfl (any_of HT_.out (by kernel_rfl)) (fun _ _ _ h => h) (Or.inl ⟨by rfl, ?_⟩) ?_ ?_
            rotate_left
            · intro w'
              go_simp
              with_reducible rfl
            rotate_left
            · simp only [Act.put, List.setIfInBounds_toArray, List.set_cons_zero, List.set_cons_succ, i64_w, i32_w]
              rfl
            refine take_ (i := 21) (N := some 78) (v := ?_) (a' := ?_) #[true, true, true, true, true, true, true, true, true, true, true, true, true, true, true, true, true, true, true, true, true, true, false, false, false, false, false, false, false, false, false] rfl rfl (take_ofW HT_.out HW_.out (by kernel_rfl)) (fun _ _ _ h => h) (Or.inl ⟨by rfl, ?_⟩) hHeld ?_ ?_
            rotate_left
            · rintro w' s0
              refine exec_load (p := .pointer (some ⟨g11, 0, none⟩)) (v := .agg (t.map (Value.int .u8)).toArray) 84 (.tmp 11) ?_ ?_ (HLD.out w' s0)
              · rfl
              · rfl
            rotate_left
            · simp only [Act.put, List.setIfInBounds_toArray, List.set_cons_zero, List.set_cons_succ, i64_w, i32_w]
              rfl
            refine pure_ (i := 22) (N := some 79) (v := ?_) (a' := ?_) #[true, true, true, true, true, true, true, true, true, true, true, true, true, true, true, true, true, true, true, true, true, true, true, false, false, false, false, false, false, false, false] rfl rfl (any_of HT_.out (by kernel_rfl)) (fun _ _ _ h => h) (Or.inl ⟨by rfl, ?_⟩) ?_ ?_
            rotate_left
            · intro w'
              go_simp
              with_reducible rfl
            rotate_left
            · simp only [Act.put, List.setIfInBounds_toArray, List.set_cons_zero, List.set_cons_succ, i64_w, i32_w]
              rfl
            refine pure_ (i := 23) (N := some 80) (v := ?_) (a' := ?_) #[true, true, true, true, true, true, true, true, true, true, true, true, true, true, true, true, true, true, true, true, true, true, true, true, false, false, false, false, false, false, false] rfl rfl (any_of HT_.out (by kernel_rfl)) (fun _ _ _ h => h) (Or.inl ⟨by rfl, ?_⟩) ?_ ?_
            rotate_left
            · intro w'
              go_simp
              with_reducible rfl
            rotate_left
            · simp only [Act.put, List.setIfInBounds_toArray, List.set_cons_zero, List.set_cons_succ, i64_w, i32_w]
              rfl
            refine pure_ (i := 24) (N := some 81) (v := ?_) (a' := ?_) #[true, true, true, true, true, true, true, true, true, true, true, true, true, true, true, true, true, true, true, true, true, true, true, true, true, false, false, false, false, false, false] rfl rfl (any_of HT_.out (by kernel_rfl)) (fun _ _ _ h => h) (Or.inl ⟨by rfl, ?_⟩) ?_ ?_
            rotate_left
            · intro w'
              go_simp
              with_reducible rfl
            rotate_left
            · simp only [Act.put, List.setIfInBounds_toArray, List.set_cons_zero, List.set_cons_succ, i64_w, i32_w]
              rfl
            refine pure_ (i := 25) (N := some 82) (v := ?_) (a' := ?_) #[true, true, true, true, true, true, true, true, true, true, true, true, true, true, true, true, true, true, true, true, true, true, true, true, true, true, false, false, false, false, false] rfl rfl (any_of HT_.out (by kernel_rfl)) (fun _ _ _ h => h) (Or.inl ⟨by rfl, ?_⟩) ?_ ?_
            rotate_left
            · intro w'
              go_simp
              with_reducible rfl
            rotate_left
            · simp only [Act.put, List.setIfInBounds_toArray, List.set_cons_zero, List.set_cons_succ, i64_w, i32_w]
              rfl
            refine pure_ (i := 26) (N := some 83) (v := ?_) (a' := ?_) #[true, true, true, true, true, true, true, true, true, true, true, true, true, true, true, true, true, true, true, true, true, true, true, true, true, true, true, false, false, false, false] rfl rfl (any_of HT_.out (by kernel_rfl)) (fun _ _ _ h => h) (Or.inl ⟨by rfl, ?_⟩) ?_ ?_
            rotate_left
            · intro w'
              go_simp
              with_reducible rfl
            rotate_left
            · simp only [Act.put, List.setIfInBounds_toArray, List.set_cons_zero, List.set_cons_succ, i64_w, i32_w]
              rfl
            refine pure_ (i := 27) (N := some 84) (v := ?_) (a' := ?_) #[true, true, true, true, true, true, true, true, true, true, true, true, true, true, true, true, true, true, true, true, true, true, true, true, true, true, true, true, false, false, false] rfl rfl (any_of HT_.out (by kernel_rfl)) (fun _ _ _ h => h) (Or.inl ⟨by rfl, ?_⟩) ?_ ?_
            rotate_left
            · intro w'
              go_simp
              with_reducible rfl
            rotate_left
            · simp only [Act.put, List.setIfInBounds_toArray, List.set_cons_zero, List.set_cons_succ, i64_w, i32_w]
              rfl
            refine one_ (i := 28) (N := some 85) #[true, true, true, true, true, true, true, true, true, true, true, true, true, true, true, true, true, true, true, true, true, true, true, true, true, true, true, true, true, false, false] rfl rfl (one_of HT_.out (by kernel_rfl)) (by decide) (fun K hK => ?_)
            refine goes_ Try.func72 (by kernel_rfl) rfl #[.int .i64 seq, .int .i64 i, .int .i64 k, .slice (some ⟨g11, 12, none⟩) ((12 + n).toNat - 12) 52] (by rfl) rfl rfl (by (try simp only [List.map_toArray, List.map_cons, List.map_nil]); first | done | rfl) ?_
            refine (HPI.out Wd K11.out).mono ?_
            rintro e We ⟨rfl, hcl, hb⟩
            have HCL := Aside0.mk hcl
            clear hcl
            refine ⟨_, rfl, ?_⟩
            replace K3 := Aside0.mk (blk_below K3.out hb)
            replace K6 := Aside0.mk (blk_below K6.out hb)
            replace K9 := Aside0.mk (blk_below K9.out hb)
            replace K11 := Aside0.mk (blk_below K11.out hb)
            replace HR := Aside0.mk (Kd.R_below HR.out hb)
            replace HB := Aside0.mk (below_step HB.out hb)
            clear hb
            have hneq : ∀ w' : World, (binOp .neq 84 (.agg (t.map (Value.int .u8)).toArray) (.agg ((pc i k (cutN t)).map (Value.int .u8)).toArray)).run Try.prog w' = .ok (.bool (t != pc i k (cutN t))) w' := fun w' => run_neq_sector t (pc i k (cutN t)) HL.out HCL.out w'
            refine hK.out _ _ K11.out (fun hHeld => ?_)
            clear hK K
            refine norm_ (a' := ?_) ?_ ?_
            rotate_left
            · show Act.put _ (some 85) _ = _
              simp only [Act.put, List.setIfInBounds_toArray, List.set_cons_zero, List.set_cons_succ, i64_w, i32_w]
              rfl
            refine pure_ (i := 29) (N := some 86) (v := ?_) (a' := ?_) #[true, true, true, true, true, true, true, true, true, true, true, true, true, true, true, true, true, true, true, true, true, true, true, true, true, true, true, true, true, true, false] rfl rfl (any_of HT_.out (by kernel_rfl)) (fun _ _ _ h => h) (Or.inl ⟨by rfl, ?_⟩) ?_ ?_
            rotate_left
            · intro w'
              go_simp
              with_reducible rfl
            rotate_left
            · simp only [Act.put, List.setIfInBounds_toArray, List.set_cons_zero, List.set_cons_succ, i64_w, i32_w]
              rfl
            refine pure_ (i := 30) (N := some 87) (v := ?_) (a' := ?_) #[true, true, true, true, true, true, true, true, true, true, true, true, true, true, true, true, true, true, true, true, true, true, true, true, true, true, true, true, true, true, true] rfl rfl (any_of HT_.out (by kernel_rfl)) (fun _ _ _ h => h) (Or.inl ⟨by rfl, ?_⟩) ?_ ?_
            rotate_left
            · intro w'
              go_simp
              with_reducible rfl
            rotate_left
            · simp only [Act.put, List.setIfInBounds_toArray, List.set_cons_zero, List.set_cons_succ, i64_w, i32_w]
              rfl
            refine done_ (done_of HT_.out (by kernel_rfl)) ?_
            go_wp2_with fail
            go_meet
            exact ⟨rfl, HCL, K3, K6, K9, K11, HR, HB⟩
          · have c8 : (n == 0) = false := beq_eq_false_iff_ne.2 b15
            clear b15 b5
            refine start_ (n := 31) (S := fun w' => w'.heap[g11]? = some (.cells (t.map (Value.int .u8)).toArray 84 (0, 0))) (ds := []) #[false, false, false, false, false, false, false, false, false, false, false, false, false, false, false, false, false, false, false, false, false, false, false, false, false, false, false, false, false, false, false] (by kernel_rfl) rfl rfl K11.out (fun hHeld => ?_); refine with_tabW impl_ReadRec.gtab13 impl_ReadRec.gbits13 (fun HT_ HW_ => ?_)
            replace K3 := Aside0.mk (blk_drew K3.out)
            replace K6 := Aside0.mk (blk_drew K6.out)
            replace K9 := Aside0.mk (blk_drew K9.out)
            replace K11 := Aside0.mk (blk_drew K11.out)
            replace HR := Aside0.mk (Kd.R_drew HR.out)
            replace HB := Aside0.mk (below_drew1 HB.out)
            clear z0 z1 z2 y0 y1 y2
            generalize Wc.drew = Wd at *
            refine pure_ (i := 0) (N := some 57) (v := ?_) (a' := ?_) #[true, false, false, false, false, false, false, false, false, false, false, false, false, false, false, false, false, false, false, false, false, false, false, false, false, false, false, false, false, false, false] rfl rfl (any_of HT_.out (by kernel_rfl)) (fun _ _ _ h => h) (Or.inl ⟨by rfl, ?_⟩) ?_ ?_
            rotate_left
            · intro w'
              go_simp
              with_reducible rfl
            rotate_left
            · simp only [Act.put, List.setIfInBounds_toArray, List.set_cons_zero, List.set_cons_succ, i64_w, i32_w]
              rfl
            refine pure_ (i := 1) (N := some 58) (v := ?_) (a' := ?_) #[true, true, false, false, false, false, false, false, false, false, false, false, false, false, false, false, false, false, false, false, false, false, false, false, false, false, false, false, false, false, false] rfl rfl (any_of HT_.out (by kernel_rfl)) (fun _ _ _ h => h) (Or.inl ⟨by rfl, ?_⟩) ?_ ?_
            rotate_left
            · intro w'
              go_simp
              with_reducible rfl
            rotate_left
            · simp only [Act.put, List.setIfInBounds_toArray, List.set_cons_zero, List.set_cons_succ, i64_w, i32_w]
              rfl
            refine pure_ (i := 2) (N := some 59) (v := ?_) (a' := ?_) #[true, true, true, false, false, false, false, false, false, false, false, false, false, false, false, false, false, false, false, false, false, false, false, false, false, false, false, false, false, false, false] rfl rfl (any_of HT_.out (by kernel_rfl)) (fun _ _ _ h => h) (Or.inl ⟨by rfl, ?_⟩) ?_ ?_
            rotate_left
            · intro w'
              go_simp
              with_reducible rfl
            rotate_left
            · simp only [Act.put, List.setIfInBounds_toArray, List.set_cons_zero, List.set_cons_succ, i64_w, i32_w]
              rfl
            refine pure_ (i := 3) (N := some 60) (v := ?_) (a' := ?_) #[true, true, true, true, false, false, false, false, false, false, false, false, false, false, false, false, false, false, false, false, false, false, false, false, false, false, false, false, false, false, false] rfl rfl (any_of HT_.out (by kernel_rfl)) (fun _ _ _ h => h) (Or.inl ⟨by rfl, ?_⟩) ?_ ?_
            rotate_left
            · intro w'
              go_simp
              with_reducible rfl
            rotate_left
            · simp only [Act.put, List.setIfInBounds_toArray, List.set_cons_zero, List.set_cons_succ, i64_w, i32_w]
              rfl
            refine pure_ (i := 4) (N := some 61) (v := ?_) (a' := ?_) #[true, true, true, true, true, false, false, false, false, false, false, false, false, false, false, false, false, false, false, false, false, false, false, false, false, false, false, false, false, false, false] rfl rfl (any_of HT_.out (by kernel_rfl)) (fun _ _ _ h => h) (Or.inl ⟨by rfl, ?_⟩) ?_ ?_
            rotate_left
            · intro w'
              go_simp
              with_reducible rfl
            rotate_left
            · simp only [Act.put, List.setIfInBounds_toArray, List.set_cons_zero, List.set_cons_succ, i64_w, i32_w]
              rfl
            refine pure_ (i := 5) (N := some 62) (v := ?_) (a' := ?_) #[true, true, true, true, true, true, false, false, false, false, false, false, false, false, false, false, false, false, false, false, false, false, false, false, false, false, false, false, false, false, false] rfl rfl (any_of HT_.out (by kernel_rfl)) (fun _ _ _ h => h) (Or.inl ⟨by rfl, ?_⟩) ?_ ?_
            rotate_left
            · intro w'
              go_simp
              with_reducible rfl
            rotate_left
            · simp only [Act.put, List.setIfInBounds_toArray, List.set_cons_zero, List.set_cons_succ, i64_w, i32_w]
              rfl
            refine pure_ (i := 6) (N := some 63) (v := ?_) (a' := ?_) #[true, true, true, true, true, true, true, false, false, false, false, false, false, false, false, false, false, false, false, false, false, false, false, false, false, false, false, false, false, false, false] rfl rfl (any_of HT_.out (by kernel_rfl)) (fun _ _ _ h => h) (Or.inl ⟨by rfl, ?_⟩) ?_ ?_
            rotate_left
            · intro w'
              go_simp
              with_reducible rfl
            rotate_left
            · simp only [Act.put, List.setIfInBounds_toArray, List.set_cons_zero, List.set_cons_succ, i64_w, i32_w]
              rfl
            refine pure_ (i := 7) (N := some 64) (v := ?_) (a' := ?_) #[true, true, true, true, true, true, true, true, false, false, false, false, false, false, false, false, false, false, false, false, false, false, false, false, false, false, false, false, false, false, false] rfl rfl (any_of HT_.out (by kernel_rfl)) (fun _ _ _ h => h) (Or.inl ⟨by rfl, ?_⟩) ?_ ?_
            rotate_left
            · intro w'
              go_simp
              with_reducible rfl
            rotate_left
            · simp only [Act.put, List.setIfInBounds_toArray, List.set_cons_zero, List.set_cons_succ, i64_w, i32_w]
              rfl
            refine pure_ (i := 8) (N := some 65) (v := ?_) (a' := ?_) #[true, true, true, true, true, true, true, true, true, false, false, false, false, false, false, false, false, false, false, false, false, false, false, false, false, false, false, false, false, false, false] rfl rfl (any_of HT_.out (by kernel_rfl)) (fun _ _ _ h => h) (Or.inl ⟨by rfl, ?_⟩) ?_ ?_
            rotate_left
            · intro w'
              go_simp
              with_reducible rfl
            rotate_left
            · simp only [Act.put, List.setIfInBounds_toArray, List.set_cons_zero, List.set_cons_succ, i64_w, i32_w]
              rfl
            refine pure_ (i := 9) (N := some 66) (v := ?_) (a' := ?_) #[true, true, true, true, true, true, true, true, true, true, false, false, false, false, false, false, false, false, false, false, false, false, false, false, false, false, false, false, false, false, false] rfl rfl (any_of HT_.out (by kernel_rfl)) (fun _ _ _ h => h) (Or.inl ⟨by rfl, ?_⟩) ?_ ?_
            rotate_left
            · intro w'
              go_simp
              with_reducible rfl
            rotate_left
            · simp only [Act.put, List.setIfInBounds_toArray, List.set_cons_zero, List.set_cons_succ, i64_w, i32_w]
              rfl
            refine pure_ (i := 10) (N := some 67) (v := ?_) (a' := ?_) #[true, true, true, true, true, true, true, true, true, true, true, false, false, false, false, false, false, false, false, false, false, false, false, false, false, false, false, false, false, false, false] rfl rfl (any_of HT_.out (by kernel_rfl)) (fun _ _ _ h => h) (Or.inl ⟨by rfl, ?_⟩) ?_ ?_
            rotate_left
            · intro w'
              go_simp
              with_reducible rfl
            rotate_left
            · simp only [Act.put, List.setIfInBounds_toArray, List.set_cons_zero, List.set_cons_succ, i64_w, i32_w]
              rfl
            refine pure_ (i := 11) (N := some 68) (v := ?_) (a' := ?_) #[true, true, true, true, true, true, true, true, true, true, true, true, false, false, false, false, false, false, false, false, false, false, false, false, false, false, false, false, false, false, false] rfl rfl (any_of HT_.out (by kernel_rfl)) (fun _ _ _ h => h) (Or.inl ⟨by rfl, ?_⟩) ?_ ?_
            rotate_left
            · intro w'
              go_simp
              with_reducible rfl
            rotate_left
            · simp only [Act.put, List.setIfInBounds_toArray, List.set_cons_zero, List.set_cons_succ, i64_w, i32_w]
              rfl
            refine pure_ (i := 12) (N := some 69) (v := ?_) (a' := ?_) #[true, true, true, true, true, true, true, true, true, true, true, true, true, false, false, false, false, false, false, false, false, false, false, false, false, false, false, false, false, false, false] rfl rfl (any_of HT_.out (by kernel_rfl)) (fun _ _ _ h => h) (Or.inl ⟨by rfl, ?_⟩) ?_ ?_
            rotate_left
            · intro w'
              go_simp
              with_reducible rfl
            rotate_left
            · simp only [Act.put, List.setIfInBounds_toArray, List.set_cons_zero, List.set_cons_succ, i64_w, i32_w]
              rfl
            refine pure_ (i := 13) (N := some 70) (v := ?_) (a' := ?_) #[true, true, true, true, true, true, true, true, true, true, true, true, true, true, false, false, false, false, false, false, false, false, false, false, false, false, false, false, false, false, false] rfl rfl (any_of HT_.out (by kernel_rfl)) (fun _ _ _ h => h) (Or.inl ⟨by rfl, ?_⟩) ?_ ?_
            rotate_left
            · intro w'
              go_simp
              with_reducible rfl
            rotate_left
            · simp only [Act.put, List.setIfInBounds_toArray, List.set_cons_zero, List.set_cons_succ, i64_w, i32_w]
              rfl
            refine pure_ (i := 14) (N := some 71) (v := ?_) (a' := ?_) #[true, true, true, true, true, true, true, true, true, true, true, true, true, true, true, false, false, false, false, false, false, false, false, false, false, false, false, false, false, false, false] rfl rfl (any_of HT_.out (by kernel_rfl)) (fun _ _ _ h => h) (Or.inl ⟨by rfl, ?_⟩) ?_ ?_
            rotate_left
            · intro w'
              go_simp
              with_reducible rfl
            rotate_left
            · simp only [Act.put, List.setIfInBounds_toArray, List.set_cons_zero, List.set_cons_succ, i64_w, i32_w]
              rfl
            refine pure_ (i := 15) (N := some 72) (v := ?_) (a' := ?_) #[true, true, true, true, true, true, true, true, true, true, true, true, true, true, true, true, false, false, false, false, false, false, false, false, false, false, false, false, false, false, false] rfl rfl (any_of HT_.out (by kernel_rfl)) (fun _ _ _ h => h) (Or.inl ⟨by rfl, ?_⟩) ?_ ?_
            rotate_left
            · intro w'
              go_simp
              with_reducible rfl
            rotate_left
            · simp only [Act.put, List.setIfInBounds_toArray, List.set_cons_zero, List.set_cons_succ, i64_w, i32_w]
              rfl
            refine pure_ (i := 16) (N := some 73) (v := undef) (a' := ?_) #[true, true, true, true, true, true, true, true, true, true, true, true, true, true, true, true, true, false, false, false, false, false, false, false, false, false, false, false, false, false, false] rfl rfl (any_of HT_.out (by kernel_rfl)) (fun _ _ _ h => h) (Or.inr ⟨by rfl, rfl⟩) ?_ ?_
            rotate_left
            · simp only [Act.put, List.setIfInBounds_toArray, List.set_cons_zero, List.set_cons_succ, i64_w, i32_w]
              rfl
            refine pure_ (i := 17) (N := some 74) (v := undef) (a' := ?_) #[true, true, true, true, true, true, true, true, true, true, true, true, true, true, true, true, true, true, false, false, false, false, false, false, false, false, false, false, false, false, false] rfl rfl (any_of HT_.out (by kernel_rfl)) (fun _ _ _ h => h) (Or.inr ⟨by rfl, rfl⟩) ?_ ?_
            rotate_left
            · simp only [Act.put, List.setIfInBounds_toArray, List.set_cons_zero, List.set_cons_succ, i64_w, i32_w]
              rfl
            refine pure_ (i := 18) (N := some 75) (v := ?_) (a' := ?_) #[true, true, true, true, true, true, true, true, true, true, true, true, true, true, true, true, true, true, true, false, false, false, false, false, false, false, false, false, false, false, false] rfl rfl (any_of HT_.out (by kernel_rfl)) (fun _ _ _ h => h) (Or.inl ⟨by rfl, ?_⟩) ?_ ?_
            rotate_left
            · intro w'
              go_simp
              with_reducible rfl
            rotate_left
            · simp only [Act.put, List.setIfInBounds_toArray, List.set_cons_zero, List.set_cons_succ, i64_w, i32_w]
              rfl
            refine pure_ (i := 19) (N := some 76) (v := ?_) (a' := ?_) #[true, true, true, true, true, true, true, true, true, true, true, true, true, true, true, true, true, true, true, true, false, false, false, false, false, false, false, false, false, false, false] rfl rfl (any_of HT_.out (by kernel_rfl)) (fun _ _ _ h => h) (Or.inl ⟨by rfl, ?_⟩) ?_ ?_
            rotate_left
            · intro w'
              go_simp
              with_reducible rfl
            rotate_left
            · simp only [Act.put, List.setIfInBounds_toArray, List.set_cons_zero, List.set_cons_succ, i64_w, i32_w]
              rfl
            refine pure_ (i := 20) (N := some 77) (v := ?_) (a' := ?_) #[true, true, true, true, true, true, true, true, true, true, true, true, true, true, true, true, true, true, true, true, true, false, false, false, false, false, false, false, false, false, false] rfl rfl (any_of HT_.out (by kernel_rfl)) (fun _ _ _ h => h) (Or.inl ⟨by rfl, ?_⟩) ?_ ?_
            rotate_left
            · intro w'
              go_simp
              with_reducible rfl
            rotate_left
            · simp only [Act.put, List.setIfInBounds_toArray, List.set_cons_zero, List.set_cons_succ, i64_w, i32_w]
              rfl
            refine take_ (i := 21) (N := some 78) (v := ?_) (a' := ?_) #[true, true, true, true, true, true, true, true, true, true, true, true, true, true, true, true, true, true, true, true, true, true, false, false, false, false, false, false, false, false, false] rfl rfl (take_ofW HT_.out HW_.out (by kernel_rfl)) (fun _ _ _ h => h) (Or.inl ⟨by rfl, ?_⟩) hHeld ?_ ?_
            rotate_left
            · rintro w' s0
              refine exec_load (p := .pointer (some ⟨g11, 0, none⟩)) (v := .agg (t.map (Value.int .u8)).toArray) 84 (.tmp 11) ?_ ?_ (HLD.out w' s0)
              · rfl
              · rfl
            rotate_left
            · simp only [Act.put, List.setIfInBounds_toArray, List.set_cons_zero, List.set_cons_succ, i64_w, i32_w]
              rfl
            refine pure_ (i := 22) (N := some 79) (v := ?_) (a' := ?_) #[true, true, true, true, true, true, true, true, true, true, true, true, true, true, true, true, true, true, true, true, true, true, true, false, false, false, false, false, false, false, false] rfl rfl (any_of HT_.out (by kernel_rfl)) (fun _ _ _ h => h) (Or.inl ⟨by rfl, ?_⟩) ?_ ?_
            rotate_left
            · intro w'
              go_simp
              with_reducible rfl
            rotate_left
            · simp only [Act.put, List.setIfInBounds_toArray, List.set_cons_zero, List.set_cons_succ, i64_w, i32_w]
              rfl
            refine pure_ (i := 23) (N := some 80) (v := ?_) (a' := ?_) #[true, true, true, true, true, true, true, true, true, true, true, true, true, true, true, true, true, true, true, true, true, true, true, true, false, false, false, false, false, false, false] rfl rfl (any_of HT_.out (by kernel_rfl)) (fun _ _ _ h => h) (Or.inl ⟨by rfl, ?_⟩) ?_ ?_
            rotate_left
            · intro w'
              go_simp
              with_reducible rfl
            rotate_left
            · simp only [Act.put, List.setIfInBounds_toArray, List.set_cons_zero, List.set_cons_succ, i64_w, i32_w]
              rfl
            refine pure_ (i := 24) (N := some 81) (v := ?_) (a' := ?_) #[true, true, true, true, true, true, true, true, true, true, true, true, true, true, true, true, true, true, true, true, true, true, true, true, true, false, false, false, false, false, false] rfl rfl (any_of HT_.out (by kernel_rfl)) (fun _ _ _ h => h) (Or.inl ⟨by rfl, ?_⟩) ?_ ?_
            rotate_left
            · intro w'
              go_simp
              with_reducible rfl
            rotate_left
            · simp only [Act.put, List.setIfInBounds_toArray, List.set_cons_zero, List.set_cons_succ, i64_w, i32_w]
              rfl
            refine pure_ (i := 25) (N := some 82) (v := ?_) (a' := ?_) #[true, true, true, true, true, true, true, true, true, true, true, true, true, true, true, true, true, true, true, true, true, true, true, true, true, true, false, false, false, false, false] rfl rfl (any_of HT_.out (by kernel_rfl)) (fun _ _ _ h => h) (Or.inl ⟨by rfl, ?_⟩) ?_ ?_
            rotate_left
            · intro w'
              go_simp
              with_reducible rfl
            rotate_left
            · simp only [Act.put, List.setIfInBounds_toArray, List.set_cons_zero, List.set_cons_succ, i64_w, i32_w]
              rfl
            refine pure_ (i := 26) (N := some 83) (v := ?_) (a' := ?_) #[true, true, true, true, true, true, true, true, true, true, true, true, true, true, true, true, true, true, true, true, true, true, true, true, true, true, true, false, false, false, false] rfl rfl (any_of HT_.out (by kernel_rfl)) (fun _ _ _ h => h) (Or.inl ⟨by rfl, ?_⟩) ?_ ?_
            rotate_left
            · intro w'
              go_simp
              with_reducible rfl
            rotate_left
            · simp only [Act.put, List.setIfInBounds_toArray, List.set_cons_zero, List.set_cons_succ, i64_w, i32_w]
              rfl
            refine pure_ (i := 27) (N := some 84) (v := ?_) (a' := ?_) #[true, true, true, true, true, true, true, true, true, true, true, true, true, true, true, true, true, true, true, true, true, true, true, true, true, true, true, true, false, false, false] rfl rfl (any_of HT_.out (by kernel_rfl)) (fun _ _ _ h => h) (Or.inl ⟨by rfl, ?_⟩) ?_ ?_
            rotate_left
            · intro w'
              go_simp
              with_reducible rfl
            rotate_left
            · simp only [Act.put, List.setIfInBounds_toArray, List.set_cons_zero, List.set_cons_succ, i64_w, i32_w]
              rfl
            refine one_ (i := 28) (N := some 85) #[true, true, true, true, true, true, true, true, true, true, true, true, true, true, true, true, true, true, true, true, true, true, true, true, true, true, true, true, true, false, false] rfl rfl (one_of HT_.out (by kernel_rfl)) (by decide) (fun K hK => ?_)
            refine goes_ Try.func72 (by kernel_rfl) rfl #[.int .i64 seq, .int .i64 i, .int .i64 k, .slice (some ⟨g11, 12, none⟩) ((12 + n).toNat - 12) 52] (by rfl) rfl rfl (by (try simp only [List.map_toArray, List.map_cons, List.map_nil]); first | done | rfl) ?_
            refine (HPI.out Wd K11.out).mono ?_
            rintro e We ⟨rfl, hcl, hb⟩
            have HCL := Aside0.mk hcl
            clear hcl
            refine ⟨_, rfl, ?_⟩
            replace K3 := Aside0.mk (blk_below K3.out hb)
            replace K6 := Aside0.mk (blk_below K6.out hb)
            replace K9 := Aside0.mk (blk_below K9.out hb)
            replace K11 := Aside0.mk (blk_below K11.out hb)
            replace HR := Aside0.mk (Kd.R_below HR.out hb)
            replace HB := Aside0.mk (below_step HB.out hb)
            clear hb
            have hneq : ∀ w' : World, (binOp .neq 84 (.agg (t.map (Value.int .u8)).toArray) (.agg ((pc i k (cutN t)).map (Value.int .u8)).toArray)).run Try.prog w' = .ok (.bool (t != pc i k (cutN t))) w' := fun w' => run_neq_sector t (pc i k (cutN t)) HL.out HCL.out w'
            refine hK.out _ _ K11.out (fun hHeld => ?_)
            clear hK K
            refine norm_ (a' := ?_) ?_ ?_
            rotate_left
            · show Act.put _ (some 85) _ = _
              simp only [Act.put, List.setIfInBounds_toArray, List.set_cons_zero, List.set_cons_succ, i64_w, i32_w]
              rfl
            refine pure_ (i := 29) (N := some 86) (v := ?_) (a' := ?_) #[true, true, true, true, true, true, true, true, true, true, true, true, true, true, true, true, true, true, true, true, true, true, true, true, true, true, true, true, true, true, false] rfl rfl (any_of HT_.out (by kernel_rfl)) (fun _ _ _ h => h) (Or.inl ⟨by rfl, ?_⟩) ?_ ?_
            rotate_left
            · intro w'
              go_simp
              with_reducible rfl
            rotate_left
            · simp only [Act.put, List.setIfInBounds_toArray, List.set_cons_zero, List.set_cons_succ, i64_w, i32_w]
              rfl
            refine pure_ (i := 30) (N := some 87) (v := ?_) (a' := ?_) #[true, true, true, true, true, true, true, true, true, true, true, true, true, true, true, true, true, true, true, true, true, true, true, true, true, true, true, true, true, true, true] rfl rfl (any_of HT_.out (by kernel_rfl)) (fun _ _ _ h => h) (Or.inl ⟨by rfl, ?_⟩) ?_ ?_
            rotate_left
            · intro w'
              go_simp
              with_reducible rfl
            rotate_left
            · simp only [Act.put, List.setIfInBounds_toArray, List.set_cons_zero, List.set_cons_succ, i64_w, i32_w]
              rfl
            refine done_ (done_of HT_.out (by kernel_rfl)) ?_
            go_wp2_with fail
            go_meet
            exact ⟨rfl, HCL, K3, K6, K9, K11, HR, HB⟩
        · have c5 : decide (n < 48) = false := decide_eq_false b5
          have c8 : (n == 0) = false := beq_eq_false_iff_ne.2 (by omega)
          clear b5
          refine start_ (n := 31) (S := fun w' => w'.heap[g11]? = some (.cells (t.map (Value.int .u8)).toArray 84 (0, 0))) (ds := []) #[false, false, false, false, false, false, false, false, false, false, false, false, false, false, false, false, false, false, false, false, false, false, false, false, false, false, false, false, false, false, false] (by kernel_rfl) rfl rfl K11.out (fun hHeld => ?_); refine with_tabW impl_ReadRec.gtab13 impl_ReadRec.gbits13 (fun HT_ HW_ => ?_)
          replace K3 := Aside0.mk (blk_drew K3.out)
          replace K6 := Aside0.mk (blk_drew K6.out)
          replace K9 := Aside0.mk (blk_drew K9.out)
          replace K11 := Aside0.mk (blk_drew K11.out)
          replace HR := Aside0.mk (Kd.R_drew HR.out)
          replace HB := Aside0.mk (below_drew1 HB.out)
          clear z0 z1 z2 y0 y1 y2
          generalize Wc.drew = Wd at *
          refine pure_ (i := 0) (N := some 57) (v := ?_) (a' := ?_) #[true, false, false, false, false, false, false, false, false, false, false, false, false, false, false, false, false, false, false, false, false, false, false, false, false, false, false, false, false, false, false] rfl rfl (any_of HT_.out (by kernel_rfl)) (fun _ _ _ h => h) (Or.inl ⟨by rfl, ?_⟩) ?_ ?_
          rotate_left
          · intro w'
            go_simp
            with_reducible rfl
          rotate_left
          · simp only [Act.put, List.setIfInBounds_toArray, List.set_cons_zero, List.set_cons_succ, i64_w, i32_w]
            rfl
          refine pure_ (i := 1) (N := some 58) (v := ?_) (a' := ?_) #[true, true, false, false, false, false, false, false, false, false, false, false, false, false, false, false, false, false, false, false, false, false, false, false, false, false, false, false, false, false, false] rfl rfl (any_of HT_.out (by kernel_rfl)) (fun _ _ _ h => h) (Or.inl ⟨by rfl, ?_⟩) ?_ ?_
          rotate_left
          · intro w'
            go_simp
            with_reducible rfl
          rotate_left
          · simp only [Act.put, List.setIfInBounds_toArray, List.set_cons_zero, List.set_cons_succ, i64_w, i32_w]
            rfl
          refine pure_ (i := 2) (N := some 59) (v := ?_) (a' := ?_) #[true, true, true, false, false, false, false, false, false, false, false, false, false, false, false, false, false, false, false, false, false, false, false, false, false, false, false, false, false, false, false] rfl rfl (any_of HT_.out (by kernel_rfl)) (fun _ _ _ h => h) (Or.inl ⟨by rfl, ?_⟩) ?_ ?_
          rotate_left
          · intro w'
            go_simp
            with_reducible rfl
          rotate_left
          · simp only [Act.put, List.setIfInBounds_toArray, List.set_cons_zero, List.set_cons_succ, i64_w, i32_w]
            rfl
          refine pure_ (i := 3) (N := some 60) (v := ?_) (a' := ?_) #[true, true, true, true, false, false, false, false, false, false, false, false, false, false, false, false, false, false, false, false, false, false, false, false, false, false, false, false, false, false, false] rfl rfl (any_of HT_.out (by kernel_rfl)) (fun _ _ _ h => h) (Or.inl ⟨by rfl, ?_⟩) ?_ ?_
          rotate_left
          · intro w'
            go_simp
            with_reducible rfl
          rotate_left
          · simp only [Act.put, List.setIfInBounds_toArray, List.set_cons_zero, List.set_cons_succ, i64_w, i32_w]
            rfl
          refine pure_ (i := 4) (N := some 61) (v := ?_) (a' := ?_) #[true, true, true, true, true, false, false, false, false, false, false, false, false, false, false, false, false, false, false, false, false, false, false, false, false, false, false, false, false, false, false] rfl rfl (any_of HT_.out (by kernel_rfl)) (fun _ _ _ h => h) (Or.inl ⟨by rfl, ?_⟩) ?_ ?_
          rotate_left
          · intro w'
            go_simp
            with_reducible rfl
          rotate_left
          · simp only [Act.put, List.setIfInBounds_toArray, List.set_cons_zero, List.set_cons_succ, i64_w, i32_w]
            rfl
          refine pure_ (i := 5) (N := some 62) (v := ?_) (a' := ?_) #[true, true, true, true, true, true, false, false, false, false, false, false, false, false, false, false, false, false, false, false, false, false, false, false, false, false, false, false, false, false, false] rfl rfl (any_of HT_.out (by kernel_rfl)) (fun _ _ _ h => h) (Or.inl ⟨by rfl, ?_⟩) ?_ ?_
          rotate_left
          · intro w'
            go_simp
            with_reducible rfl
          rotate_left
          · simp only [Act.put, List.setIfInBounds_toArray, List.set_cons_zero, List.set_cons_succ, i64_w, i32_w]
            rfl
          refine pure_ (i := 6) (N := some 63) (v := undef) (a' := ?_) #[true, true, true, true, true, true, true, false, false, false, false, false, false, false, false, false, false, false, false, false, false, false, false, false, false, false, false, false, false, false, false] rfl rfl (any_of HT_.out (by kernel_rfl)) (fun _ _ _ h => h) (Or.inr ⟨by rfl, rfl⟩) ?_ ?_
          rotate_left
          · simp only [Act.put, List.setIfInBounds_toArray, List.set_cons_zero, List.set_cons_succ, i64_w, i32_w]
            rfl
          refine pure_ (i := 7) (N := some 64) (v := undef) (a' := ?_) #[true, true, true, true, true, true, true, true, false, false, false, false, false, false, false, false, false, false, false, false, false, false, false, false, false, false, false, false, false, false, false] rfl rfl (any_of HT_.out (by kernel_rfl)) (fun _ _ _ h => h) (Or.inr ⟨by rfl, rfl⟩) ?_ ?_
          rotate_left
          · simp only [Act.put, List.setIfInBounds_toArray, List.set_cons_zero, List.set_cons_succ, i64_w, i32_w]
            rfl
          refine pure_ (i := 8) (N := some 65) (v := undef) (a' := ?_) #[true, true, true, true, true, true, true, true, true, false, false, false, false, false, false, false, false, false, false, false, false, false, false, false, false, false, false, false, false, false, false] rfl rfl (any_of HT_.out (by kernel_rfl)) (fun _ _ _ h => h) (Or.inr ⟨by rfl, rfl⟩) ?_ ?_
          rotate_left
          · simp only [Act.put, List.setIfInBounds_toArray, List.set_cons_zero, List.set_cons_succ, i64_w, i32_w]
            rfl
          refine pure_ (i := 9) (N := some 66) (v := undef) (a' := ?_) #[true, true, true, true, true, true, true, true, true, true, false, false, false, false, false, false, false, false, false, false, false, false, false, false, false, false, false, false, false, false, false] rfl rfl (any_of HT_.out (by kernel_rfl)) (fun _ _ _ h => h) (Or.inr ⟨by rfl, rfl⟩) ?_ ?_
          rotate_left
          · simp only [Act.put, List.setIfInBounds_toArray, List.set_cons_zero, List.set_cons_succ, i64_w, i32_w]
            rfl
          refine pure_ (i := 10) (N := some 67) (v := ?_) (a' := ?_) #[true, true, true, true, true, true, true, true, true, true, true, false, false, false, false, false, false, false, false, false, false, false, false, false, false, false, false, false, false, false, false] rfl rfl (any_of HT_.out (by kernel_rfl)) (fun _ _ _ h => h) (Or.inl ⟨by rfl, ?_⟩) ?_ ?_
          rotate_left
          · intro w'
            go_simp
            with_reducible rfl
          rotate_left
          · simp only [Act.put, List.setIfInBounds_toArray, List.set_cons_zero, List.set_cons_succ, i64_w, i32_w]
            rfl
          refine pure_ (i := 11) (N := some 68) (v := ?_) (a' := ?_) #[true, true, true, true, true, true, true, true, true, true, true, true, false, false, false, false, false, false, false, false, false, false, false, false, false, false, false, false, false, false, false] rfl rfl (any_of HT_.out (by kernel_rfl)) (fun _ _ _ h => h) (Or.inl ⟨by rfl, ?_⟩) ?_ ?_
          rotate_left
          · intro w'
            go_simp
            with_reducible rfl
          rotate_left
          · simp only [Act.put, List.setIfInBounds_toArray, List.set_cons_zero, List.set_cons_succ, i64_w, i32_w]
            rfl
          refine pure_ (i := 12) (N := some 69) (v := ?_) (a' := ?_) #[true, true, true, true, true, true, true, true, true, true, true, true, true, false, false, false, false, false, false, false, false, false, false, false, false, false, false, false, false, false, false] rfl rfl (any_of HT_.out (by kernel_rfl)) (fun _ _ _ h => h) (Or.inl ⟨by rfl, ?_⟩) ?_ ?_
          rotate_left
          · intro w'
            go_simp
            with_reducible rfl
          rotate_left
          · simp only [Act.put, List.setIfInBounds_toArray, List.set_cons_zero, List.set_cons_succ, i64_w, i32_w]
            rfl
          refine pure_ (i := 13) (N := some 70) (v := ?_) (a' := ?_) #[true, true, true, true, true, true, true, true, true, true, true, true, true, true, false, false, false, false, false, false, false, false, false, false, false, false, false, false, false, false, false] rfl rfl (any_of HT_.out (by kernel_rfl)) (fun _ _ _ h => h) (Or.inl ⟨by rfl, ?_⟩) ?_ ?_
          rotate_left
          · intro w'
            go_simp
            with_reducible rfl
          rotate_left
          · simp only [Act.put, List.setIfInBounds_toArray, List.set_cons_zero, List.set_cons_succ, i64_w, i32_w]
            rfl
          refine pure_ (i := 14) (N := some 71) (v := ?_) (a' := ?_) #[true, true, true, true, true, true, true, true, true, true, true, true, true, true, true, false, false, false, false, false, false, false, false, false, false, false, false, false, false, false, false] rfl rfl (any_of HT_.out (by kernel_rfl)) (fun _ _ _ h => h) (Or.inl ⟨by rfl, ?_⟩) ?_ ?_
          rotate_left
          · intro w'
            go_simp
            with_reducible rfl
          rotate_left
          · simp only [Act.put, List.setIfInBounds_toArray, List.set_cons_zero, List.set_cons_succ, i64_w, i32_w]
            rfl
          refine pure_ (i := 15) (N := some 72) (v := ?_) (a' := ?_) #[true, true, true, true, true, true, true, true, true, true, true, true, true, true, true, true, false, false, false, false, false, false, false, false, false, false, false, false, false, false, false] rfl rfl (any_of HT_.out (by kernel_rfl)) (fun _ _ _ h => h) (Or.inl ⟨by rfl, ?_⟩) ?_ ?_
          rotate_left
          · intro w'
            go_simp
            with_reducible rfl
          rotate_left
          · simp only [Act.put, List.setIfInBounds_toArray, List.set_cons_zero, List.set_cons_succ, i64_w, i32_w]
            rfl
          refine pure_ (i := 16) (N := some 73) (v := undef) (a' := ?_) #[true, true, true, true, true, true, true, true, true, true, true, true, true, true, true, true, true, false, false, false, false, false, false, false, false, false, false, false, false, false, false] rfl rfl (any_of HT_.out (by kernel_rfl)) (fun _ _ _ h => h) (Or.inr ⟨by rfl, rfl⟩) ?_ ?_
          rotate_left
          · simp only [Act.put, List.setIfInBounds_toArray, List.set_cons_zero, List.set_cons_succ, i64_w, i32_w]
            rfl
          refine pure_ (i := 17) (N := some 74) (v := undef) (a' := ?_) #[true, true, true, true, true, true, true, true, true, true, true, true, true, true, true, true, true, true, false, false, false, false, false, false, false, false, false, false, false, false, false] rfl rfl (any_of HT_.out (by kernel_rfl)) (fun _ _ _ h => h) (Or.inr ⟨by rfl, rfl⟩) ?_ ?_
          rotate_left
          · simp only [Act.put, List.setIfInBounds_toArray, List.set_cons_zero, List.set_cons_succ, i64_w, i32_w]
            rfl
          refine pure_ (i := 18) (N := some 75) (v := ?_) (a' := ?_) #[true, true, true, true, true, true, true, true, true, true, true, true, true, true, true, true, true, true, true, false, false, false, false, false, false, false, false, false, false, false, false] rfl rfl (any_of HT_.out (by kernel_rfl)) (fun _ _ _ h => h) (Or.inl ⟨by rfl, ?_⟩) ?_ ?_
          rotate_left
          · intro w'
            go_simp
            with_reducible rfl
          rotate_left
          · simp only [Act.put, List.setIfInBounds_toArray, List.set_cons_zero, List.set_cons_succ, i64_w, i32_w]
            rfl
          refine pure_ (i := 19) (N := some 76) (v := ?_) (a' := ?_) #[true, true, true, true, true, true, true, true, true, true, true, true, true, true, true, true, true, true, true, true, false, false, false, false, false, false, false, false, false, false, false] rfl rfl (any_of HT_.out (by kernel_rfl)) (fun _ _ _ h => h) (Or.inl ⟨by rfl, ?_⟩) ?_ ?_
          rotate_left
          · intro w'
            go_simp
            with_reducible rfl
          rotate_left
          · simp only [Act.put, List.setIfInBounds_toArray, List.set_cons_zero, List.set_cons_succ, i64_w, i32_w]
            rfl
          refine pure_ (i := 20) (N := some 77) (v := ?_) (a' := ?_) #[true, true, true, true, true, true, true, true, true, true, true, true, true, true, true, true, true, true, true, true, true, false, false, false, false, false, false, false, false, false, false] rfl rfl (any_of HT_.out (by kernel_rfl)) (fun _ _ _ h => h) (Or.inl ⟨by rfl, ?_⟩) ?_ ?_
          rotate_left
          · intro w'
            go_simp
            with_reducible rfl
          rotate_left
          · simp only [Act.put, List.setIfInBounds_toArray, List.set_cons_zero, List.set_cons_succ, i64_w, i32_w]
            rfl
          refine take_ (i := 21) (N := some 78) (v := ?_) (a' := ?_) #[true, true, true, true, true, true, true, true, true, true, true, true, true, true, true, true, true, true, true, true, true, true, false, false, false, false, false, false, false, false, false] rfl rfl (take_ofW HT_.out HW_.out (by kernel_rfl)) (fun _ _ _ h => h) (Or.inl ⟨by rfl, ?_⟩) hHeld ?_ ?_
          rotate_left
          · rintro w' s0
            refine exec_load (p := .pointer (some ⟨g11, 0, none⟩)) (v := .agg (t.map (Value.int .u8)).toArray) 84 (.tmp 11) ?_ ?_ (HLD.out w' s0)
            · rfl
            · rfl
          rotate_left
          · simp only [Act.put, List.setIfInBounds_toArray, List.set_cons_zero, List.set_cons_succ, i64_w, i32_w]
            rfl
          refine pure_ (i := 22) (N := some 79) (v := ?_) (a' := ?_) #[true, true, true, true, true, true, true, true, true, true, true, true, true, true, true, true, true, true, true, true, true, true, true, false, false, false, false, false, false, false, false] rfl rfl (any_of HT_.out (by kernel_rfl)) (fun _ _ _ h => h) (Or.inl ⟨by rfl, ?_⟩) ?_ ?_
          rotate_left
          · intro w'
            go_simp
            with_reducible rfl
          rotate_left
          · simp only [Act.put, List.setIfInBounds_toArray, List.set_cons_zero, List.set_cons_succ, i64_w, i32_w]
            rfl
          refine pure_ (i := 23) (N := some 80) (v := ?_) (a' := ?_) #[true, true, true, true, true, true, true, true, true, true, true, true, true, true, true, true, true, true, true, true, true, true, true, true, false, false, false, false, false, false, false] rfl rfl (any_of HT_.out (by kernel_rfl)) (fun _ _ _ h => h) (Or.inl ⟨by rfl, ?_⟩) ?_ ?_
          rotate_left
          · intro w'
            go_simp
            with_reducible rfl
          rotate_left
          · simp only [Act.put, List.setIfInBounds_toArray, List.set_cons_zero, List.set_cons_succ, i64_w, i32_w]
            rfl
          refine pure_ (i := 24) (N := some 81) (v := ?_) (a' := ?_) #[true, true, true, true, true, true, true, true, true, true, true, true, true, true, true, true, true, true, true, true, true, true, true, true, true, false, false, false, false, false, false] rfl rfl (any_of HT_.out (by kernel_rfl)) (fun _ _ _ h => h) (Or.inl ⟨by rfl, ?_⟩) ?_ ?_
          rotate_left
          · intro w'
            go_simp
            with_reducible rfl
          rotate_left
          · simp only [Act.put, List.setIfInBounds_toArray, List.set_cons_zero, List.set_cons_succ, i64_w, i32_w]
            rfl
          refine pure_ (i := 25) (N := some 82) (v := ?_) (a' := ?_) #[true, true, true, true, true, true, true, true, true, true, true, true, true, true, true, true, true, true, true, true, true, true, true, true, true, true, false, false, false, false, false] rfl rfl (any_of HT_.out (by kernel_rfl)) (fun _ _ _ h => h) (Or.inl ⟨by rfl, ?_⟩) ?_ ?_
          rotate_left
          · intro w'
            go_simp
            with_reducible rfl
          rotate_left
          · simp only [Act.put, List.setIfInBounds_toArray, List.set_cons_zero, List.set_cons_succ, i64_w, i32_w]
            rfl
          refine pure_ (i := 26) (N := some 83) (v := ?_) (a' := ?_) #[true, true, true, true, true, true, true, true, true, true, true, true, true, true, true, true, true, true, true, true, true, true, true, true, true, true, true, false, false, false, false] rfl rfl (any_of HT_.out (by kernel_rfl)) (fun _ _ _ h => h) (Or.inl ⟨by rfl, ?_⟩) ?_ ?_
          rotate_left
          · intro w'
            go_simp
            with_reducible rfl
          rotate_left
          · simp only [Act.put, List.setIfInBounds_toArray, List.set_cons_zero, List.set_cons_succ, i64_w, i32_w]
            rfl
          refine pure_ (i := 27) (N := some 84) (v := ?_) (a' := ?_) #[true, true, true, true, true, true, true, true, true, true, true, true, true, true, true, true, true, true, true, true, true, true, true, true, true, true, true, true, false, false, false] rfl rfl (any_of HT_.out (by kernel_rfl)) (fun _ _ _ h => h) (Or.inl ⟨by rfl, ?_⟩) ?_ ?_
          rotate_left
          · intro w'
            go_simp
            with_reducible rfl
          rotate_left
          · simp only [Act.put, List.setIfInBounds_toArray, List.set_cons_zero, List.set_cons_succ, i64_w, i32_w]
            rfl
          refine one_ (i := 28) (N := some 85) #[true, true, true, true, true, true, true, true, true, true, true, true, true, true, true, true, true, true, true, true, true, true, true, true, true, true, true, true, true, false, false] rfl rfl (one_of HT_.out (by kernel_rfl)) (by decide) (fun K hK => ?_)
          refine goes_ Try.func72 (by kernel_rfl) rfl #[.int .i64 seq, .int .i64 i, .int .i64 k, .slice (some ⟨g11, 12, none⟩) ((12 + n).toNat - 12) 52] (by rfl) rfl rfl (by (try simp only [List.map_toArray, List.map_cons, List.map_nil]); first | done | rfl) ?_
          refine (HPI.out Wd K11.out).mono ?_
          rintro e We ⟨rfl, hcl, hb⟩
          have HCL := Aside0.mk hcl
          clear hcl
          refine ⟨_, rfl, ?_⟩
          replace K3 := Aside0.mk (blk_below K3.out hb)
          replace K6 := Aside0.mk (blk_below K6.out hb)
          replace K9 := Aside0.mk (blk_below K9.out hb)
          replace K11 := Aside0.mk (blk_below K11.out hb)
          replace HR := Aside0.mk (Kd.R_below HR.out hb)
          replace HB := Aside0.mk (below_step HB.out hb)
          clear hb
          have hneq : ∀ w' : World, (binOp .neq 84 (.agg (t.map (Value.int .u8)).toArray) (.agg ((pc i k (cutN t)).map (Value.int .u8)).toArray)).run Try.prog w' = .ok (.bool (t != pc i k (cutN t))) w' := fun w' => run_neq_sector t (pc i k (cutN t)) HL.out HCL.out w'
          refine hK.out _ _ K11.out (fun hHeld => ?_)
          clear hK K
          refine norm_ (a' := ?_) ?_ ?_
          rotate_left
          · show Act.put _ (some 85) _ = _
            simp only [Act.put, List.setIfInBounds_toArray, List.set_cons_zero, List.set_cons_succ, i64_w, i32_w]
            rfl
          refine pure_ (i := 29) (N := some 86) (v := ?_) (a' := ?_) #[true, true, true, true, true, true, true, true, true, true, true, true, true, true, true, true, true, true, true, true, true, true, true, true, true, true, true, true, true, true, false] rfl rfl (any_of HT_.out (by kernel_rfl)) (fun _ _ _ h => h) (Or.inl ⟨by rfl, ?_⟩) ?_ ?_
          rotate_left
          · intro w'
            go_simp
            with_reducible rfl
          rotate_left
          · simp only [Act.put, List.setIfInBounds_toArray, List.set_cons_zero, List.set_cons_succ, i64_w, i32_w]
            rfl
          refine pure_ (i := 30) (N := some 87) (v := ?_) (a' := ?_) #[true, true, true, true, true, true, true, true, true, true, true, true, true, true, true, true, true, true, true, true, true, true, true, true, true, true, true, true, true, true, true] rfl rfl (any_of HT_.out (by kernel_rfl)) (fun _ _ _ h => h) (Or.inl ⟨by rfl, ?_⟩) ?_ ?_
          rotate_left
          · intro w'
            go_simp
            with_reducible rfl
          rotate_left
          · simp only [Act.put, List.setIfInBounds_toArray, List.set_cons_zero, List.set_cons_succ, i64_w, i32_w]
            rfl
          refine done_ (done_of HT_.out (by kernel_rfl)) ?_
          go_wp2_with fail
          go_meet
          exact ⟨rfl, HCL, K3, K6, K9, K11, HR, HB⟩
      case rest =>
        clear K3 K6 K9 K11 HR HB z0 z1 z2 y0 y1 y2
        obtain ⟨rfl, HCL, K3, K6, K9, K11, HR, HB⟩ := hcut
        have z0 : wc.cell? ⟨w.heap.size + 1, 0, none⟩ = some (.bool false) := (blk_cell K6.out 0).trans rfl
        have z1 : wc.cell? ⟨w.heap.size + 1, 1, none⟩ = some (.slice none 0 0) := (blk_cell K6.out 1).trans rfl
        have z2 : wc.cell? ⟨w.heap.size + 1, 2, none⟩ = some (.int .i64 0) := (blk_cell K6.out 2).trans rfl
        have y0 := blk_frozen K6.out 0
        have y1 := blk_frozen K6.out 1
        have y2 := blk_frozen K6.out 2
        by_cases cc : t = pc i k (cutN t)
        case neg =>
          have cb : (t != pc i k (cutN t)) = true := bne_iff_ne.2 cc
          have em := Aside0.mk (HZ.out (by unfold rrBad; rw [cb]; simp))
          rw [cb]
          go_wp2_with fail
          refine bodyPost_ret (results_cell_row rfl _ _ (w.heap.size + 1) 49 #[.bool false, .slice none 0 0, .int .i64 0] (0, 0) _ rfl (blk_put (cs := #[.bool false, .slice none 0 0, .int .i64 0]) (blk_put (cs := #[.bool false, .slice none 0 0, .int .i64 0]) (blk_put (cs := #[.bool false, .slice none 0 0, .int .i64 0]) K6.out 0 _ rfl) 1 _ rfl) 2 _ rfl) hu49 rfl (by kernel_rfl)) rfl ?_
          exact rr_zero em.out HB.out
        have cb : (t != pc i k (cutN t)) = false := bne_eq_false_iff_eq.2 cc
        rw [cb]
        clear z0 z1 z2 y0 y1 y2
        have n0 : wc.cell? ⟨g9, 0, none⟩ = some (.bool true) := (blk_cell K9.out 0).trans rfl
        obtain ⟨Av, cv_, rfl⟩ := Kd.R_slice HR.out
        have n1 : wc.cell? ⟨g9, 1, none⟩ = some (.slice Av p.length cv_) := (blk_cell K9.out 1).trans rfl
        have n2 : wc.cell? ⟨g9, 2, none⟩ = some (.int .i64 k) := (blk_cell K9.out 2).trans rfl
        have n3 := blk_frozen K9.out 1
        have CC := Aside0.mk cc
        clear cc cb
        go_wp2_with fail
        have hC0 : ∀ X : World, X.heap[g11]? = some (.cells (t.map (Value.int .u8)).toArray 84 (0, 0)) → Kd.C (Kd.int .u8) X (some ⟨g11, 12, none⟩) ((12 + n).toNat - 12) (cutN t) := fun X hX => by
          have := C_of_cells (w := X) (xs := cutN t) (by rw [HLN.out]; omega) ⟨g11, 12, none⟩ (fun j x hj => by
            have hjl : j < n.toNat := by have := (List.getElem?_eq_some_iff.1 hj).1; rw [HLN.out] at this; exact this
            unfold cutN at hj
            rw [← HN.out, List.getElem?_drop, List.getElem?_take_of_lt (by omega)] at hj
            rw [add_plain2]
            exact (blk_cell hX (12 + j)).trans (by simp [hj]))
          rw [HLN.out, show n.toNat = ((12 + n).toNat - 12) by omega] at this
          exact this
        have HC0_ := Aside0.mk hC0
        have hpl := rr_len i p HP.out
        have hil : (i : Int) < 65536 := by have := HK0.out; have := CK.out; omega
        have HPL := Aside0.mk (show (p.length + ((12 + n).toNat - 12)) * 1 ≤ 140737488355328 by omega)
        clear hC0 hpl hil
        have hw12b : IntKind.i64.wrap (12 + n) = 12 + n := by rw [i64_w]; exact hw12
        go_region_law (
          refine Kd.R_append_rows_step (Kd.int .u8) (w0 := w) (W := wc.drew) w.heap.size (by rfl) (.tmp 90) (.tmp 93) 22 5 (.int .u8 0) 1 rfl Try.underlying22 info5 rfl (by decide) (by omega) (.slice Av p.length cv_) p (cutN t) (some ⟨g11, 12, none⟩) ((12 + n).toNat - 12) 52 (fun _ => True) (fun _ => False) rfl rfl (Kd.R_drew HR.out) (HC0_.out _ (blk_drew K11.out)) (fun _ _ h => h) (fun _ h => h.elim) (fun _ _ => trivial) (below_drew1 HB.out) HB.out.size HPL.out ?_
          intro v94 w3 ho hb hg hat
          have m3 := blk_grown (blk_drew K3.out) hg (Kd.R_ne HR.out K3.out (by decide))
          have m6 := blk_grown (blk_drew K6.out) hg (Kd.R_ne HR.out K6.out (by decide))
          have m9 := blk_grown (blk_drew K9.out) hg (Kd.R_ne HR.out K9.out (by decide))
          obtain ⟨Aw, cw, ev⟩ := Kd.R_slice ho
          generalize hln_ : (p ++ cutN t).length = ln_ at ev
          have HLNn := Aside0.mk hln_
          clear hln_
          subst ev
          have M3 := Aside0.mk m3
          have M6 := Aside0.mk m6
          have M9 := Aside0.mk m9
          have HO := Aside0.mk ho
          have HBn := Aside0.mk hb
          have q1 : w3.cell? ⟨g9, 1, none⟩ = some (.slice Av p.length cv_) := (blk_cell m9 1).trans rfl
          have q2 := blk_frozen m9 1
          clear ho hb hg hat m3 m6 m9)
        all_goals
          go_wp2_with fail
          go_roundg (k.toNat - (i + 1))
          case measure => have h1 := HI.out.2; have h2 := CK.out; omega
          case rel =>
            have hg9 := L9.out
            refine ⟨i + 1, p ++ cutN t, _, by rw [show (((i + 1 : Nat) : Int)) = (i : Int) + 1 from by omega, show wrap64 ((i : Int) + 1) = (i : Int) + 1 from by have h1 := HK0.out; have h2 := CK.out; unfold wrap64; omega], ⟨by have := CK.out; omega, rfl⟩, ⟨by have := rr_more HP.out (by rw [← HT.out]; unfold rrBad; rw [← HN.out, c48', show (t != pc i k (cutN t)) = false from bne_eq_false_iff_eq.2 CC.out]; simp; exact ⟨fun h => by have := C2'.out; omega, fun h => by have := C3'.out; omega⟩); rw [← HT.out] at this; exact this⟩, ⟨?_⟩, ⟨?_⟩, ⟨blk_put M9.out 1 _ rfl⟩, ⟨Kd.R_set HO.out M9.out (by decide) 1 _⟩, ⟨below_set HBn.out (by omega)⟩⟩
            · exact (Below.heap_setCell _ ⟨g9, 1, none⟩ _ _ (by show w.heap.size ≠ g9; omega)).trans M3.out
            · exact (Below.heap_setCell _ ⟨g9, 1, none⟩ _ _ (by show w.heap.size + 1 ≠ g9; omega)).trans M6.out
    · have hik : k.toNat = i := by have := HI.out.1; omega
      have hm := HMR.out
      rw [hik, HP.out] at hm
      have hm' : mRR pc l0 l1 a2 at_ seq = if p.length > 30000 then (false, [], 0) else (true, p, k) := hm
      have HM := Aside0.mk hm'
      clear hm hm' hik
      obtain ⟨Av, cv_, rfl⟩ := Kd.R_slice HR.out
      have n0 : wr.cell? ⟨g9, 0, none⟩ = some (.bool true) := (blk_cell K9.out 0).trans rfl
      have n1 : wr.cell? ⟨g9, 1, none⟩ = some (.slice Av p.length cv_) := (blk_cell K9.out 1).trans rfl
      have n2 : wr.cell? ⟨g9, 2, none⟩ = some (.int .i64 k) := (blk_cell K9.out 2).trans rfl
      have z0 : wr.cell? ⟨w.heap.size + 1, 0, none⟩ = some (.bool false) := (blk_cell K6.out 0).trans rfl
      have z1 : wr.cell? ⟨w.heap.size + 1, 1, none⟩ = some (.slice none 0 0) := (blk_cell K6.out 1).trans rfl
      have z2 : wr.cell? ⟨w.heap.size + 1, 2, none⟩ = some (.int .i64 0) := (blk_cell K6.out 2).trans rfl
      have y0 := blk_frozen K6.out 0
      have y1 := blk_frozen K6.out 1
      have y2 := blk_frozen K6.out 2
      by_cases cp : p.length > 30000
      · have em := Aside0.mk (show mRR pc l0 l1 a2 at_ seq = (false, [], 0) by rw [HM.out, if_pos cp])
        have cp' : (30000 : Int) < (p.length : Int) := by omega
        clear cp
        go_wp2_with fail
        refine bodyPost_ret (results_cell_row rfl _ _ (w.heap.size + 1) 49 #[.bool false, .slice none 0 0, .int .i64 0] (0, 0) _ rfl (blk_put (cs := #[.bool false, .slice none 0 0, .int .i64 0]) (blk_put (cs := #[.bool false, .slice none 0 0, .int .i64 0]) (blk_put (cs := #[.bool false, .slice none 0 0, .int .i64 0]) K6.out 0 _ rfl) 1 _ rfl) 2 _ rfl) hu49 rfl (by kernel_rfl)) rfl ?_
        exact rr_zero em.out HB.out
      · have em := Aside0.mk (show mRR pc l0 l1 a2 at_ seq = (true, p, k) by rw [HM.out, if_neg cp])
        have cp' : ¬ (30000 : Int) < (p.length : Int) := by omega
        clear cp
        go_wp2_with fail
        have B1 := blk_put (cs' := #[.bool true, .slice none 0 0, .int .i64 0]) K6.out 0 (.bool true) rfl
        have B2 := blk_put (cs' := #[.bool true, .slice Av p.length cv_, .int .i64 0]) B1 1 (.slice Av p.length cv_) rfl
        have B3 := blk_put (cs' := #[.bool true, .slice Av p.length cv_, .int .i64 k]) B2 2 (.int .i64 k) rfl
        refine bodyPost_ret (results_cell_row rfl _ _ (w.heap.size + 1) 49 #[.bool true, .slice Av p.length cv_, .int .i64 k] (0, 0) _ rfl B3 hu49 rfl (by kernel_rfl)) rfl ?_
        rw [em.out]
        exact ⟨_, rfl, Kd.R_set (Kd.R_set (Kd.R_set HR.out K6.out (by decide) 0 _) B1 (by decide) 1 _) B2 (by decide) 2 _, below_set (below_set (below_set HB.out (Nat.le_succ _)) (Nat.le_succ _)) (Nat.le_succ _)⟩

/-! ### zL_rec: a text by hand -/
def put2 (x : Int) : List Int := [x % 256, x / 256 % 256]
theorem put_step2 (k : Nat) (x : Int) (l : List Int) (i : Int) (h0 : 0 ≤ i) (hi : i < 2) (hl : l.length < 100) (hx : 0 ≤ x) (hx2 : x < 4294967296) :
    spec_l2Put.l0 (k + 1) x 2 l i = spec_l2Put.l0 k (x / 256) 2 (l ++ [x % 256]) (i + 1) := by
  rw [spec_l2Put.l0, if_pos hi, if_pos (by omega), Int.tdiv_eq_ediv_of_nonneg hx, Int.tmod_eq_emod_of_nonneg hx]
  rw [show wrap64 (x / 256) = x / 256 from by unfold wrap64; omega, show wrap64 (i + 1) = i + 1 from by unfold wrap64; omega, show x % 256 % 256 = x % 256 from by omega]
theorem put2_ev (x : Int) (hx : 0 ≤ x) (hx2 : x < 4294967296) : Ev (fun k => spec_l2Put.f k x 2) (put2 x) := by
  refine Ev.of (fun k => spec_l2Put.mono _ _ k) (k := 3) ?_
  unfold spec_l2Put.f
  rw [put_step2 _ _ _ _ (by decide) (by decide) (by simp) hx hx2, put_step2 _ _ _ _ (by decide) (by decide) (by simp) (by omega) (by omega), spec_l2Put.l0, if_neg (by decide)]
  rfl
theorem iput_step2 (k : Nat) (xs : List Int) (p x : Int) (i n : Nat) (hi : i < 2) (hp : 0 ≤ p) (hpl : p + i < xs.length) (hxl : xs.length < 1000) (hn : (p + i).toNat = n) :
    impl_put.l0 (k + 1) xs p x 2 i = impl_put.l0 k (xs.set n (x / 2 ^ (8 * i) % 256)) p x 2 ((i + 1 : Nat) : Int) := by
  have e1 : wrap64 (8 * (i : Int)) = ((8 * i : Nat) : Int) := by unfold wrap64; omega
  have e2 : wrap64 (p + (i : Int)) = p + i := by unfold wrap64; omega
  have e3 : wrap64 ((i : Int) + 1) = ((i + 1 : Nat) : Int) := by unfold wrap64; omega
  have e4 : shr IntKind.i64 x ((8 * i : Nat) : Int) = x / 2 ^ (8 * i) := by
    show x / 2 ^ min (((8 * i : Nat) : Int)).toNat 64 = _
    rw [Int.toNat_natCast, Nat.min_eq_left (by omega)]
  rw [impl_put.l0, if_pos (by omega), e1, if_pos (by omega), e2, if_pos (by omega), if_pos (by omega), e3, e4, hn]
theorem impl_put2 (xs : List Int) (p x : Int) (n : Nat) (hp : 0 ≤ p) (hn : p.toNat = n) (hpl : p + 2 ≤ xs.length) (hxl : xs.length < 1000) :
    impl_put.f 5 xs p 2 x = some ((xs.set n (x % 256)).set (n + 1) (x / 256 % 256)) := by
  unfold impl_put.f
  rw [show (0 : Int) = ((0 : Nat) : Int) from rfl, iput_step2 4 xs p x 0 n (by decide) hp (by omega) hxl (by omega), iput_step2 3 _ p x 1 (n + 1) (by decide) hp (by simp; omega) (by simpa using hxl) (by omega), impl_put.l0, if_neg (by omega)]
  rw [show x / 2 ^ (8 * 0) = x from by simp, show x / 2 ^ (8 * 1) = x / 256 from by rw [show (2 : Int) ^ (8 * 1) = 256 from rfl]]
/-- The first 60 bytes of a sector of a record. -/
def sec0 (seq i k : Int) (part : List Int) : List Int := put4 seq ++ put2 i ++ put2 k ++ put2 part.length ++ [82, 49] ++ part ++ List.replicate (48 - part.length) 0
theorem sec0_len (seq i k : Int) (part : List Int) (h : part.length ≤ 48) : (sec0 seq i k part).length = 60 := by
  simp [sec0, put4, put2]
  omega
theorem pHead_eq (seq i k n : Int) (h0 : 0 ≤ seq) (h1 : seq < 4294967296) : pHead seq i k n = some (put4 seq ++ put2 i ++ put2 k ++ put2 n ++ List.replicate 54 0) := by
  unfold pHead
  rw [impl_put4 (List.replicate 64 0) 0 seq 0 (by decide) rfl (by simp) (by simp) h0 h1, Option.bind_some, impl_put2 _ 4 i 4 (by decide) rfl (by simp) (by simp), Option.bind_some, impl_put2 _ 6 k 6 (by decide) rfl (by simp) (by simp), Option.bind_some, impl_put2 _ 8 n 8 (by decide) rfl (by simp) (by simp)]
  rfl
theorem cPiece_eq (kc : Nat) (seq i k : Int) (part : List Int) (h0 : 0 ≤ seq) (h1 : seq < 4294967296) (hp : part.length ≤ 48) : cPiece kc seq i k part = (spec_Crc32.f kc (sec0 seq i k part)).map fun cr => sec0 seq i k part ++ put4 cr := by
  have hx : (cp12 (((put4 seq ++ put2 i ++ put2 k ++ put2 part.length ++ List.replicate 54 0).set 10 82).set 11 49) part) = sec0 seq i k part ++ [0, 0, 0, 0] := by
    have e : ((put4 seq ++ put2 i ++ put2 k ++ put2 (part.length : Int) ++ List.replicate 54 0).set 10 82).set 11 49 = (put4 seq ++ put2 i ++ put2 k ++ put2 (part.length : Int) ++ [82, 49]) ++ List.replicate 52 0 := rfl
    have e2 : (put4 seq ++ put2 i ++ put2 k ++ put2 (part.length : Int) ++ [82, 49]).length = 12 := rfl
    rw [e, cp12, List.take_left' e2, List.drop_append, e2, List.drop_eq_nil_of_le (by rw [e2]; omega), List.nil_append, Nat.add_sub_cancel_left, List.drop_replicate]
    unfold sec0
    rw [show List.replicate (52 - part.length) (0 : Int) = List.replicate (48 - part.length) 0 ++ [0, 0, 0, 0] from by rw [show ([0, 0, 0, 0] : List Int) = List.replicate 4 0 from rfl, List.replicate_append_replicate]; congr 1; omega]
    simp
  have hl := sec0_len seq i k part hp
  unfold cPiece
  rw [pHead_eq seq i k part.length h0 h1, Option.bind_some, hx, List.take_left' hl]
  cases hc : spec_Crc32.f kc (sec0 seq i k part) with
  | none => rfl
  | some cr =>
    have hb := crc_bd kc _ cr (by rw [hl]; omega) hc
    rw [Option.bind_some, impl_put4 _ 60 cr 60 (by decide) rfl (by simp [hl]) (by simp [hl]) hb.1 hb.2, Option.map_some]
    congr 1
    generalize sec0 seq i k part = s at hl
    have hs : ∀ (a b c d : Int), ((((s ++ [0, 0, 0, 0]).set 60 a).set 61 b).set 62 c).set 63 d = s ++ [a, b, c, d] := fun a b c d => by
      rw [List.set_append_right _ _ (by omega), List.set_append_right _ _ (by omega), List.set_append_right _ _ (by omega), List.set_append_right _ _ (by omega), hl]
      rfl
    exact hs _ _ _ _

/-! ### zL_rec2: a text by hand -/
/-- The sum of 60 bytes, as a function. -/
def CrcOk (cr : List Int → Int) : Prop := ∀ l : List Int, l.length = 60 → Ev (fun k => spec_Crc32.f k l) (cr l) ∧ 0 ≤ cr l ∧ cr l < 4294967296
theorem crc_total : ∃ cr : List Int → Int, CrcOk cr := by
  have h : ∀ l : List Int, ∃ c, l.length = 60 → Ev (fun k => spec_Crc32.f k l) c ∧ 0 ≤ c ∧ c < 4294967296 := fun l => by
    by_cases hl : l.length = 60
    · obtain ⟨c, hc⟩ := crc_ev l (by omega)
      obtain ⟨k, hk⟩ := hc.rounds
      exact ⟨c, fun _ => ⟨hc, crc_bd k l c (by omega) hk⟩⟩
    · exact ⟨0, fun h => absurd h hl⟩
  exact ⟨fun l => Classical.choose (h l), fun l hl => Classical.choose_spec (h l) hl⟩
def pcOf (cr : List Int → Int) (seq i k : Int) (part : List Int) : List Int := sec0 seq i k part ++ put4 (cr (sec0 seq i k part))
theorem zeros_evn (n : Nat) (hn : n ≤ 48) : ∀ (m i : Nat), i + m = n → Ev (fun k => spec_l1Zeros.l0 k n (List.replicate i 0) i) (List.replicate n 0)
  | 0, i, h => by
    refine Ev.step (f := fun _ => some (List.replicate n 0)) (fun K => ?_) (Ev.now _)
    rw [spec_l1Zeros.l0, if_neg (by omega), show i = n by omega]
  | m + 1, i, h => by
    refine Ev.step (fun K => ?_) (zeros_evn n hn m (i + 1) (by omega))
    rw [spec_l1Zeros.l0, if_pos (by omega), if_pos (by rw [List.length_replicate]; omega), show wrap64 ((i : Int) + 1) = ((i + 1 : Nat) : Int) from by unfold wrap64; omega, List.replicate_succ']
theorem seal_ev {cr : List Int → Int} (hc : CrcOk cr) (b : List Int) (hl : b.length = 60) : Ev (fun k => spec_l2Seal.f k b) (b ++ put4 (cr b)) := by
  obtain ⟨h1, h2, h3⟩ := hc b hl
  have hc2 := cat_evf [b, put4 (cr b)] (by simp) (by simp [put4, hl])
  rw [show [b, put4 (cr b)].flatten = b ++ put4 (cr b) from by simp] at hc2
  unfold spec_l2Seal.f
  refine Ev.bind h1 (Ev.bind ?_ (Ev.bind hc2 (Ev.now _)))
  rw [show wrap64 (cr b) = cr b from by unfold wrap64; omega]
  exact put_ev (cr b) h2 h3
/-- How many sectors a payload takes. -/
def recK (n : Nat) : Nat := if n = 0 then 1 else (n + 47) / 48
theorem recSec_ev (n : Nat) (h : n ≤ 30000) : Ev (fun k => spec_RecSectors.f k (n : Int)) (recK n : Int) := by
  unfold spec_RecSectors.f
  refine Ev.congr (fun k => by rw [if_neg (by omega), decide_eq_false (by omega)]) ?_
  refine Ev.step (f := fun _ => some ((recK n : Nat) : Int)) (fun K => ?_) (Ev.now _)
  rw [spec_RecSectors.j0, if_neg (by decide)]
  by_cases c : n = 0
  · rw [if_pos (by omega), recK, if_pos c]; rfl
  · rw [if_neg (by omega), recK, if_neg c]
    congr 1
    rw [show wrap64 ((n : Int) + 48) = n + 48 from by unfold wrap64; omega, show wrap64 ((n : Int) + 48 - 1) = n + 47 from by unfold wrap64; omega, Int.tdiv_eq_ediv_of_nonneg (by omega), show ((n : Int) + 47) / 48 = (((n + 47) / 48 : Nat) : Int) from by omega]
    unfold wrap64
    omega
def pieceOf (P : List Int) (i : Nat) : List Int := (P.drop (48 * i)).take 48
theorem pieceOf_len (P : List Int) (i : Nat) : (pieceOf P i).length ≤ 48 := by unfold pieceOf; rw [List.length_take]; omega
def secsOf (cr : List Int → Int) (seq : Int) (P : List Int) : List (List Int) := (List.range (recK P.length)).map fun (i : Nat) => pcOf cr seq i (recK P.length) (pieceOf P i)
theorem sectors_loop {cr : List Int → Int} (hc : CrcOk cr) (seq : Int) (h0 : 0 ≤ seq) (h1 : seq < 4294967296) (P : List Int) (hP : P.length ≤ 30000) (K : Nat) (hK : K = recK P.length) : ∀ (m i : Nat) (acc : List (List Int)), i + m = K → acc.length = i →
    Ev (fun k => spec_l2Sectors.l0 k seq P K acc i) (acc ++ (List.range' i m).map fun (j : Nat) => pcOf cr seq j K (pieceOf P j))
  | 0, i, acc, h, ha => by
    refine Ev.step (f := fun _ => some acc) (fun k => ?_) (by simpa using Ev.now acc)
    rw [spec_l2Sectors.l0, if_neg (by omega)]
  | m + 1, i, acc, h, ha => by
    have hKb : K ≤ 626 := by rw [hK, recK]; split <;> omega
    have hi48 : 48 * i ≤ P.length := by
      rw [recK] at hK
      by_cases c : P.length = 0
      · rw [if_pos c] at hK; omega
      · rw [if_neg c] at hK; omega
    have ih := sectors_loop hc seq h0 h1 P hP K hK m (i + 1) (acc ++ [pcOf cr seq i K (pieceOf P i)]) (by omega) (by simp [ha])
    have hpl := pieceOf_len P i
    have hj : Ev (fun k => spec_l2Sectors.j1 k seq P K acc i (pieceOf P i)) (acc ++ (List.range' i (m + 1)).map fun (j : Nat) => pcOf cr seq j K (pieceOf P j)) := by
      generalize hpq : pieceOf P i = q at hpl ih
      refine Ev.step (f := fun k => (spec_l2Put.f k seq 4).bind fun t604 => (spec_l2Put.f k (i : Int) 2).bind fun t607 => (spec_l2Put.f k (K : Int) 2).bind fun t610 => (spec_l2Put.f k (q.length : Int) 2).bind fun t613 => (spec_l2Cat.f k [t604, t607, t610, t613, [82, 49]]).bind fun t622 => (spec_l1Zeros.f k (wrap64 (48 - (q.length : Int)))).bind fun t625 => (spec_l2Cat.f k [t622, q, t625]).bind fun t631 => (spec_l2Seal.f k t631).bind fun t634 => if acc.length < 5864062014805 then spec_l2Sectors.l0 k seq P (K : Int) (acc ++ [t634]) (wrap64 ((i : Int) + 1)) else none) (fun k => by simp only [spec_l2Sectors.j1]) ?_
      have hcat := cat_evf [put4 seq, put2 i, put2 K, put2 (q.length : Int), [82, 49]] (by simp) (by simp [put4, put2])
      have hcat2 := cat_evf [[put4 seq, put2 i, put2 K, put2 (q.length : Int), [82, 49]].flatten, q, List.replicate (48 - q.length) 0] (by simp) (by simp [put4, put2]; omega)
      have hfl : [[put4 seq, put2 i, put2 K, put2 (q.length : Int), [82, 49]].flatten, q, List.replicate (48 - q.length) 0].flatten = sec0 seq i K q := by simp [sec0]
      rw [hfl] at hcat2
      have hseal := seal_ev hc (sec0 seq i K q) (sec0_len seq i K q hpl)
      have hz := zeros_evn (48 - q.length) (by omega) (48 - q.length) 0 (by omega)
      refine Ev.bind (put_ev seq h0 h1) (Ev.bind (put2_ev i (by omega) (by omega)) (Ev.bind (put2_ev K (by omega) (by omega)) (Ev.bind (put2_ev (q.length : Int) (by omega) (by omega)) (Ev.bind hcat (Ev.bind ?_ (Ev.bind hcat2 (Ev.bind hseal ?_)))))))
      · rw [show wrap64 (48 - (q.length : Int)) = ((48 - q.length : Nat) : Int) from by unfold wrap64; omega]
        exact hz
      · refine Ev.congr (fun k => by rw [if_pos (by omega), show wrap64 ((i : Int) + 1) = ((i + 1 : Nat) : Int) from by unfold wrap64; omega]) ?_
        rw [List.range'_succ, List.map_cons, hpq]
        rw [List.append_assoc] at ih
        exact ih
    refine Ev.step (f := fun k => spec_l2Sectors.j1 k seq P K acc i (pieceOf P i)) (fun k => ?_) hj
    rw [spec_l2Sectors.l0, if_pos (by omega), show wrap64 ((i : Int) * 48) = ((48 * i : Nat) : Int) from by unfold wrap64; omega, if_pos (by omega), if_pos (by omega), Option.bind_some, Int.toNat_natCast]
    by_cases c : ((P.drop (48 * i)).length : Int) > 48
    · rw [if_pos c, if_pos (by omega)]; rfl
    · rw [if_neg c, show pieceOf P i = P.drop (48 * i) from List.take_of_length_le (by omega)]
theorem sectors_ev {cr : List Int → Int} (hc : CrcOk cr) (seq : Int) (h0 : 0 ≤ seq) (h1 : seq < 4294967296) (P : List Int) (hP : P.length ≤ 30000) : Ev (fun k => spec_l2Sectors.f k seq P) (secsOf cr seq P) := by
  unfold spec_l2Sectors.f
  refine Ev.bind (recSec_ev P.length hP) ?_
  have := sectors_loop hc seq h0 h1 P hP (recK P.length) rfl (recK P.length) 0 [] (by omega) rfl
  rw [List.nil_append, ← List.range_eq_range'] at this
  exact this

/-! ### zL_rec3: a text by hand -/
theorem flat_inj : ∀ (xs ys : List (List Int)), (∀ x ∈ xs, x.length = 64) → (∀ y ∈ ys, y.length = 64) → xs.flatten = ys.flatten → xs = ys
  | [], [], _, _, _ => rfl
  | [], y :: ys, _, hy, h => by
    have := congrArg List.length h
    rw [List.flatten_cons, List.length_append, hy y (by simp), List.flatten_nil, List.length_nil] at this
    omega
  | x :: xs, [], hx, _, h => by
    have := congrArg List.length h
    rw [List.flatten_cons, List.length_append, hx x (by simp), List.flatten_nil, List.length_nil] at this
    omega
  | x :: xs, y :: ys, hx, hy, h => by
    rw [List.flatten_cons, List.flatten_cons] at h
    obtain ⟨h1, h2⟩ := List.append_inj h (by rw [hx x (by simp), hy y (by simp)])
    rw [h1, flat_inj xs ys (fun z hz => hx z (List.mem_cons_of_mem _ hz)) (fun z hz => hy z (List.mem_cons_of_mem _ hz)) h2]
theorem drop_flat : ∀ (cs : List (List Int)) (i : Nat), i ≤ cs.length → (∀ (j : Nat) c, j < i → cs[j]? = some c → c.length = 48) → cs.flatten.drop (48 * i) = (cs.drop i).flatten ∧ 48 * i ≤ cs.flatten.length
  | cs, 0, _, _ => by simp
  | [], i + 1, h, _ => by simp at h
  | c :: cs, i + 1, h, hc => by
    have h0 := hc 0 c (by omega) rfl
    obtain ⟨h1, h2⟩ := drop_flat cs i (by simpa using h) (fun j d hj hd => hc (j + 1) d (by omega) (by simpa using hd))
    rw [List.flatten_cons, List.drop_succ_cons, List.length_append, h0]
    refine ⟨?_, by omega⟩
    rw [show 48 * (i + 1) = c.length + 48 * i from by omega, List.drop_append, List.drop_eq_nil_of_le (by omega), List.nil_append, Nat.add_sub_cancel_left]
    exact h1
theorem pcOf_len (cr : List Int → Int) (seq i k : Int) (part : List Int) (h : part.length ≤ 48) : (pcOf cr seq i k part).length = 64 := by
  unfold pcOf
  rw [List.length_append, sec0_len _ _ _ _ h]
  rfl
/-- What a sector of a record tells of its piece. -/
theorem pcOf_tell (cr : List Int → Int) (seq i k : Int) (part : List Int) (h : part.length ≤ 48) : getN (pcOf cr seq i k part) 8 = part.length ∧ cutN (pcOf cr seq i k part) = part := by
  have e : pcOf cr seq i k part = [seq % 256, seq / 256 % 256, seq / 256 / 256 % 256, seq / 256 / 256 / 256 % 256, i % 256, i / 256 % 256, k % 256, k / 256 % 256, (part.length : Int) % 256, (part.length : Int) / 256 % 256, 82, 49] ++ (part ++ (List.replicate (48 - part.length) 0 ++ put4 (cr (sec0 seq i k part)))) := by
    simp [pcOf, sec0, put4, put2]
  have h1 : getN (pcOf cr seq i k part) 8 = part.length := by
    rw [e]
    show (part.length : Int) % 256 + 256 * ((part.length : Int) / 256 % 256) = _
    omega
  refine ⟨h1, ?_⟩
  unfold cutN
  rw [h1, Int.toNat_natCast, e]
  rw [List.drop_take, List.drop_left' (by rfl), Nat.add_sub_cancel_left, List.take_left]
section
variable {cr : List Int → Int} {seq : Int} {K : Nat} {S : Nat → List Int}
theorem good_of_secs (hK : 1 ≤ K) (hl : ∀ i, i < K → (S i).length = 64) (hn : ∀ i, i < K → getN (S i) 8 ≤ 48 ∧ 0 ≤ getN (S i) 8) (P : List Int) (hP : P = ((List.range K).map fun i => cutN (S i)).flatten) (h : (secsOf cr seq P).flatten = ((List.range K).map S).flatten) :
    ∀ i, i < K → rrBad (pcOf cr seq) K i (S i) = false := by
  have hx := flat_inj _ _ (fun x hx => by
      obtain ⟨i, _, rfl⟩ := List.mem_map.1 hx
      exact pcOf_len _ _ _ _ _ (pieceOf_len P i)) (fun y hy => by
      obtain ⟨i, hi, rfl⟩ := List.mem_map.1 hy
      exact hl i (List.mem_range.1 hi)) h
  have hk : recK P.length = K := by
    have := congrArg List.length hx
    simpa [secsOf] using this
  intro i hi
  have hS : S i = pcOf cr seq i K (pieceOf P i) := by
    have := congrArg (fun l => l[i]?) hx
    simp only [secsOf, hk, List.getElem?_map, List.getElem?_range hi, Option.map_some, Option.some.injEq] at this
    exact this.symm
  obtain ⟨t1, t2⟩ := pcOf_tell cr seq i K (pieceOf P i) (pieceOf_len P i)
  rw [← hS] at t1 t2
  have hpl : (pieceOf P i).length = min 48 (P.length - 48 * i) := by unfold pieceOf; rw [List.length_take, List.length_drop]
  have hk2 := hk
  unfold recK at hk2
  unfold rrBad
  rw [t2, ← hS, t1]
  have q1 : (pieceOf P i).length ≤ 48 := pieceOf_len P i
  have q2 : i < K - 1 → (pieceOf P i).length = 48 := fun hik => by
    by_cases c : P.length = 0
    · rw [if_pos c] at hk2; omega
    · rw [if_neg c] at hk2; omega
  have q3 : 1 < K → (pieceOf P i).length ≠ 0 := fun hik => by
    by_cases c : P.length = 0
    · rw [if_pos c] at hk2; omega
    · rw [if_neg c] at hk2; omega
  simp only [Bool.or_eq_false_iff, Bool.and_eq_false_iff, decide_eq_false_iff_not, bne_self_eq_false, and_true]
  refine ⟨⟨by omega, ?_⟩, ?_⟩
  · by_cases c : i < K - 1
    · have := q2 c; omega
    · omega
  · by_cases c : 1 < K
    · have := q3 c; omega
    · omega
theorem secs_of_good (hK : 1 ≤ K) (hl : ∀ i, i < K → (S i).length = 64) (hn : ∀ i, i < K → getN (S i) 8 ≤ 48 ∧ 0 ≤ getN (S i) 8) (P : List Int) (hP : P = ((List.range K).map fun i => cutN (S i)).flatten) (h : ∀ i, i < K → rrBad (pcOf cr seq) K i (S i) = false) :
    (secsOf cr seq P).flatten = ((List.range K).map S).flatten := by
  have hcl : ∀ i, i < K → (cutN (S i)).length = (getN (S i) 8).toNat := fun i hi => by
    unfold cutN
    rw [List.length_drop, List.length_take, hl i hi]
    have := (hn i hi).1
    omega
  have hfull : ∀ i, i < K - 1 → (cutN (S i)).length = 48 := fun i hi => by
    have h1 := h i (by omega)
    have h2 := hn i (by omega)
    rw [hcl i (by omega)]
    simp only [rrBad, Bool.or_eq_false_iff, Bool.and_eq_false_iff, decide_eq_false_iff_not] at h1
    omega
  have hd := drop_flat ((List.range K).map fun i => cutN (S i)) (K - 1) (by simp) (fun j c hj hc => by
    rw [List.getElem?_map, List.getElem?_range (by omega)] at hc
    rw [← Option.some.inj hc]
    exact hfull j hj)
  rw [← hP] at hd
  have hlast : P.length = 48 * (K - 1) + (cutN (S (K - 1))).length := by
    have h1 := congrArg List.length hd.1
    rw [List.length_drop, ← List.map_drop, show (List.range K).drop (K - 1) = [K - 1] from by
      rw [List.range_eq_range', List.drop_range', show K - (K - 1) = 1 by omega]; simp] at h1
    simp at h1
    have := hd.2
    omega
  have hlb := hcl (K - 1) (by omega)
  have hnb := hn (K - 1) (by omega)
  have hbl := h (K - 1) (by omega)
  have hk : recK P.length = K := by
    unfold recK
    simp only [rrBad, Bool.or_eq_false_iff, Bool.and_eq_false_iff, decide_eq_false_iff_not] at hbl
    by_cases c : P.length = 0
    · rw [if_pos c]; omega
    · rw [if_neg c]; omega
  have hp : ∀ i, i < K → pieceOf P i = cutN (S i) := fun i hi => by
    have hd := drop_flat ((List.range K).map fun i => cutN (S i)) i (by simp; omega) (fun j c hj hc => by
      rw [List.getElem?_map, List.getElem?_range (by omega)] at hc
      rw [← Option.some.inj hc]
      exact hfull j (by omega))
    rw [← hP] at hd
    unfold pieceOf
    rw [hd.1, ← List.map_drop, List.range_eq_range', List.drop_range', show K - i = (K - i - 1) + 1 by omega, List.range'_succ, List.map_cons, List.flatten_cons]
    simp only [Nat.zero_add, Nat.mul_one, Nat.one_mul]
    have hle : (cutN (S i)).length ≤ 48 := by rw [hcl i hi]; have := (hn i hi).1; omega
    by_cases c : i < K - 1
    · rw [List.take_left' (hfull i c)]
    · rw [show K - i - 1 = 0 by omega]
      simp only [List.range'_zero, List.map_nil, List.flatten_nil, List.append_nil]
      exact List.take_of_length_le hle
  unfold secsOf
  rw [hk]
  congr 1
  refine List.map_congr_left (fun i hi => ?_)
  have hi := List.mem_range.1 hi
  have h1 := h i hi
  simp only [rrBad, Bool.or_eq_false_iff, bne_eq_false_iff_eq] at h1
  rw [hp i hi]
  exact h1.2.symm
end

/-! ### zL_rec4: a text by hand -/
def sLoop (cr : List Int → Int) (S : Nat → List Int) (seq : Int) (K : Nat) : Nat → Nat → List Int → List Int → Bool × List Int × Int
  | 0, _, P, R => if P.length > 30000 then (false, [], 0) else if (secsOf cr seq P).flatten = R then (true, P, (K : Int)) else (false, [], 0)
  | m + 1, i, P, R => if getN (S i) 8 > 48 then (false, [], 0) else sLoop cr S seq K m (i + 1) (P ++ cutN (S i)) (R ++ S i)
theorem specNum_eq (x : Int) : spec_l2Number.f x = some (gN x) := by
  unfold spec_l2Number.f gN
  by_cases h1 : 1 ≤ x
  · rw [if_pos (by omega), decide_eq_true h1, Bool.true_and]
  · rw [if_neg (by omega), decide_eq_false h1, Bool.false_and]
theorem drop_two (t : List Int) (p : Nat) (hp : p + 2 ≤ t.length) : (t.take (p + 2)).drop p = [rd t p, rd t (p + 1)] := by
  have e1 : rd t (p : Int) = t[p] := rd_nat t p (by omega)
  have e2 : rd t ((p : Int) + 1) = t[p + 1] := rd_nat t (p + 1) (by omega)
  rw [e1, e2]
  refine List.ext_getElem (by simp; omega) (fun i h1 h2 => ?_)
  have hi : i < 2 := by simpa using h2
  rw [List.getElem_drop, List.getElem_take]
  match i, hi with
  | 0, _ => rfl
  | 1, _ => rfl
theorem get2_ev (t : List Int) (hb : byteL t) (hl : t.length = 64) (p : Nat) (hp : p + 2 ≤ 64) : Ev (fun k => spec_l2Get.f k ((t.take (p + 2)).drop p)) (getN t p) := by
  rw [drop_two t p (by omega)]
  have b0 : 0 ≤ rd t (p : Int) ∧ rd t (p : Int) < 256 := by rw [rd_nat t p (by omega)]; exact hb _ (List.getElem_mem _)
  have b1 : 0 ≤ rd t ((p : Int) + 1) ∧ rd t ((p : Int) + 1) < 256 := by rw [show ((p : Int) + 1) = ((p + 1 : Nat) : Int) by omega, rd_nat t (p + 1) (by omega)]; exact hb _ (List.getElem_mem _)
  unfold getN
  generalize rd t (p : Int) = x0 at *
  generalize rd t ((p : Int) + 1) = x1 at *
  refine Ev.of (fun k => spec_l2Get.mono _ k) (k := 3) ?_
  unfold spec_l2Get.f
  rw [show wrap64 ((([x0, x1] : List Int).length : Int) - 1) = ((1 : Nat) : Int) by simp [wrap64]]
  rw [sget_step 2 _ 0 x1 1 (by simp) (by simp) rfl (by omega) (by omega) b1.1 b1.2, show ((1 : Nat) : Int) - 1 = ((0 : Nat) : Int) by omega, sget_step 1 _ _ x0 0 (by simp) (by simp) rfl (by omega) (by omega) b0.1 b0.2, show ((0 : Nat) : Int) - 1 = -1 by omega, sget_end]
  congr 1
  omega
theorem byteL_app {a b : List Int} (ha : byteL a) (hb : byteL b) : byteL (a ++ b) := fun y hy => (List.mem_append.1 hy).elim (ha y) (hb y)
theorem byteL_cut {t : List Int} (h : byteL t) : byteL (cutN t) := fun y hy => h y (List.mem_of_mem_take (List.mem_of_mem_drop hy))
theorem put4_bytes (x : Int) : byteL (put4 x) := fun y hy => by
  simp only [put4, List.mem_cons, List.mem_nil_iff, or_false] at hy
  rcases hy with rfl | rfl | rfl | rfl <;> omega
theorem put2_bytes (x : Int) : byteL (put2 x) := fun y hy => by
  simp only [put2, List.mem_cons, List.mem_nil_iff, or_false] at hy
  rcases hy with rfl | rfl <;> omega
theorem secs_bytes (cr : List Int → Int) (seq : Int) (P : List Int) (h : byteL P) : byteL (secsOf cr seq P).flatten := by
  intro y hy
  obtain ⟨l, hl, hy⟩ := List.mem_flatten.1 hy
  obtain ⟨i, _, rfl⟩ := List.mem_map.1 hl
  have hp : byteL (pieceOf P i) := fun z hz => h z (List.mem_of_mem_drop (List.mem_of_mem_take hz))
  have hz : byteL (List.replicate (48 - (pieceOf P i).length) (0 : Int)) := fun z hz => by rw [(List.mem_replicate.1 hz).2]; omega
  have hr : byteL ([82, 49] : List Int) := fun z hz => by
    simp only [List.mem_cons, List.mem_nil_iff, or_false] at hz
    rcases hz with rfl | rfl <;> omega
  exact byteL_app (byteL_app (byteL_app (byteL_app (byteL_app (byteL_app (byteL_app (put4_bytes _) (put2_bytes _)) (put2_bytes _)) (put2_bytes _)) hr) hp) hz) (put4_bytes _) y hy
theorem specRR_loop {cr : List Int → Int} (hc : CrcOk cr) (l0 : List Int) (l1 : List S79) (a2 : Int) (a3 : Bool) (at_ seq : Int) (hok : RsOk l0 l1) (hv : vD l0 l1 a2 = true) (hs : 1 ≤ seq ∧ seq ≤ 2000000000) (K : Nat) (ha : 0 ≤ at_) (hK : at_ + K ≤ ((l0.length / 64 : Nat) : Int)) :
    ∀ (m i : Nat) (P R : List Int), i + m = K → P.length ≤ 48 * i → R.length = 64 * i → byteL P → byteL R → Ev (fun k => spec_ReadRec.l0 k at_ seq K P R i l0 l1 a2 a3) (sLoop cr (fun j => dRd l0 l1 (at_ + j)) seq K m i P R)
  | 0, i, P, R, h, hp, hr, bp, br => by
    have hst : ∀ k, spec_ReadRec.l0 (k + 1) at_ seq K P R i l0 l1 a2 a3 = if (P.length : Int) > 30000 then (some (false, ([] : List Int), 0)) else ((spec_l2Sectors.f k seq P).bind fun t681 => ((spec_l2Cat.f k t681).bind fun t684 => (if (strOfNums t684).toList = (strOfNums R).toList then (some (true, P, (K : Int))) else (some (false, ([] : List Int), 0))))) := fun k => by
      rw [spec_ReadRec.l0, if_neg (by omega)]
    refine Ev.step hst ?_
    unfold sLoop
    by_cases c : P.length > 30000
    · rw [if_pos c]
      exact Ev.congr (fun k => if_pos (by omega)) (Ev.now _)
    · rw [if_neg c]
      refine Ev.congr (fun k => if_neg (by omega)) ?_
      have hcat := cat_evf (secsOf cr seq P) (by unfold secsOf recK; rw [List.length_map, List.length_range]; split <;> omega) (fun x hx => by
        obtain ⟨i, _, rfl⟩ := List.mem_map.1 hx
        rw [pcOf_len _ _ _ _ _ (pieceOf_len P i)]
        omega)
      refine Ev.bind (sectors_ev hc seq (by omega) (by omega) P (by omega)) (Ev.bind hcat ?_)
      by_cases e : (secsOf cr seq P).flatten = R
      · rw [if_pos e]
        exact Ev.congr (fun k => if_pos (by rw [e])) (Ev.now _)
      · rw [if_neg e]
        exact Ev.congr (fun k => if_neg (fun hh => e (str_inj _ _ (secs_bytes cr seq P bp) br hh))) (Ev.now _)
  | m + 1, i, P, R, h, hp, hr, bp, br => by
    obtain ⟨f1, f2, f3, f4, f5, f6, f7⟩ := vD_facts hv
    have hin : inD l0 (at_ + i) = true := by
      unfold inD
      simp
      omega
    have hR := specRead_ev l0 l1 a2 a3 (at_ + i) hok.1 hok.2.1.1
    rw [if_pos (by rw [hv, hin]; rfl)] at hR
    have hl : (dRd l0 l1 (at_ + i)).length = 64 := dRd_len l0 l1 _ (by omega) (by omega) f3 (fun x hx => (f7 x hx).2.2)
    have hb : byteL (dRd l0 l1 (at_ + i)) := dRd_bytes l0 l1 _ hok.2.2.1 hok.2.2.2
    have ih := specRR_loop hc l0 l1 a2 a3 at_ seq hok hv hs K ha hK m (i + 1) (P ++ cutN (dRd l0 l1 (at_ + i))) (R ++ dRd l0 l1 (at_ + i)) (by omega)
    unfold sLoop
    generalize dRd l0 l1 (at_ + i) = t at hR hl hb ih
    have hg := get2_ev t hb hl 8 (by omega)
    have hn := (iget2 t hb hl 8 (by omega)).2
    have hst : ∀ k, spec_ReadRec.l0 (k + 1) at_ seq K P R i l0 l1 a2 a3 = ((spec_DiskRead.f k l0 l1 a2 a3 (wrap64 (at_ + (i : Int)))).bind fun t661 => (if 8 ≤ 10 then (if 10 ≤ (t661.length : Int) then ((spec_l2Get.f k ((t661.take 10).drop 8)).bind fun t669 => (if t669 > 48 then (some (false, ([] : List Int), 0)) else (if 12 ≤ (wrap64 (12 + t669)) then (if (wrap64 (12 + t669)) ≤ (t661.length : Int) then ((some ((t661.take ((wrap64 (12 + t669)) : Int).toNat).drop 12 : List Int)).bind fun y670 => (if P.length + y670.length < 140737488355328 then (if R.length + t661.length < 140737488355328 then (spec_ReadRec.l0 k at_ seq K (P ++ y670) (R ++ t661) (wrap64 ((i : Int) + 1)) l0 l1 a2 a3) else (none)) else (none))) else (none)) else (none)))) else (none)) else (none))) := fun k => by
      rw [spec_ReadRec.l0, if_pos (by omega)]
    refine Ev.step hst ?_
    refine Ev.congr (fun k => by rw [show wrap64 (at_ + (i : Int)) = at_ + i from by unfold wrap64; omega]) ?_
    refine Ev.bind hR ?_
    refine Ev.congr (fun k => by rw [if_pos (by decide), if_pos (by omega)]) ?_
    refine Ev.bind hg ?_
    have hcl := cutN_len t
    by_cases c : getN t 8 > 48
    · rw [if_pos c]
      exact Ev.congr (fun k => if_pos c) (Ev.now _)
    · rw [if_neg c]
      refine Ev.congr (fun k => by rw [if_neg c, show wrap64 (12 + getN t 8) = 12 + getN t 8 from by unfold wrap64; omega, if_pos (by omega), if_pos (by omega), Option.bind_some, show (12 + getN t 8).toNat = 12 + (getN t 8).toNat by omega]) ?_
      change Ev (fun k => if P.length + (cutN t).length < 140737488355328 then (if R.length + t.length < 140737488355328 then (spec_ReadRec.l0 k at_ seq K (P ++ cutN t) (R ++ t) (wrap64 ((i : Int) + 1)) l0 l1 a2 a3) else none) else none) _
      have h48 : 48 * i ≤ 48 * 65536 := by have := hok.1; omega
      refine Ev.congr (fun k => by rw [if_pos (by omega), if_pos (by omega), show wrap64 ((i : Int) + 1) = ((i + 1 : Nat) : Int) from by unfold wrap64; omega]) ?_
      exact ih (by rw [List.length_append]; omega) (by rw [List.length_append]; omega) (byteL_app bp (byteL_cut hb)) (byteL_app br hb)

/-! ### zL_rec5: a text by hand -/
def catN (f : Nat → List Int) (i : Nat) : List Int := ((List.range i).map f).flatten
theorem catN_succ (f : Nat → List Int) (i : Nat) : catN f (i + 1) = catN f i ++ f i := by
  unfold catN
  rw [List.range_succ, List.map_append, List.flatten_append]
  simp
theorem sLoop_all (cr : List Int → Int) (S : Nat → List Int) (seq : Int) (K : Nat) (h : ∀ j, j < K → getN (S j) 8 ≤ 48) : ∀ (m i : Nat), i + m = K →
    sLoop cr S seq K m i (catN (fun j => cutN (S j)) i) (catN S i) = if (catN (fun j => cutN (S j)) K).length > 30000 then (false, [], 0) else if (secsOf cr seq (catN (fun j => cutN (S j)) K)).flatten = catN S K then (true, catN (fun j => cutN (S j)) K, (K : Int)) else (false, [], 0)
  | 0, i, hi => by
    obtain rfl : i = K := by omega
    rfl
  | m + 1, i, hi => by
    have hg := h i (by omega)
    rw [sLoop, if_neg (by omega), ← catN_succ S i]
    have := catN_succ (fun j => cutN (S j)) i
    rw [← this]
    exact sLoop_all cr S seq K h m (i + 1) (by omega)
theorem sLoop_bad (cr : List Int → Int) (S : Nat → List Int) (seq : Int) (K : Nat) (j : Nat) (hj : j < K) (h : getN (S j) 8 > 48) : ∀ (m i : Nat) (P R : List Int), i + m = K → i ≤ j → sLoop cr S seq K m i P R = (false, [], 0)
  | 0, i, P, R, hi, hij => by omega
  | m + 1, i, P, R, hi, hij => by
    rw [sLoop]
    by_cases c : getN (S i) 8 > 48
    · rw [if_pos c]
    · rw [if_neg c]
      have hne : i ≠ j := fun e => c (e ▸ h)
      exact sLoop_bad cr S seq K j hj h m (i + 1) _ _ (by omega) (by omega)
theorem rrAcc_all {pc : Int → Int → List Int → List Int} {l0 : List Int} {l1 : List S79} {at_ k : Int} : ∀ i : Nat, (∀ j : Nat, j < i → rrBad pc k j (dRd l0 l1 (at_ + j)) = false) → rrAcc pc l0 l1 at_ k i = some (catN (fun j => cutN (dRd l0 l1 (at_ + j))) i)
  | 0, _ => rfl
  | i + 1, h => by
    have hh := catN_succ (fun j => cutN (dRd l0 l1 (at_ + j))) i
    rw [rr_more (rrAcc_all i (fun j hj => h j (by omega))) (h i (by omega)), hh]
theorem rrAcc_bad {pc : Int → Int → List Int → List Int} {l0 : List Int} {l1 : List S79} {at_ k : Int} (j : Nat) (h : rrBad pc k j (dRd l0 l1 (at_ + j)) = true) : ∀ i : Nat, j < i → rrAcc pc l0 l1 at_ k i = none
  | 0, hj => by omega
  | i + 1, hj => by
    rw [rrAcc]
    by_cases e : j = i
    · subst e
      cases rrAcc pc l0 l1 at_ k j with
      | none => rfl
      | some p => rw [Option.bind_some, if_pos h]
    · rw [rrAcc_bad j h i (by omega)]; rfl
theorem specRR_ev {cr : List Int → Int} (hc : CrcOk cr) (l0 : List Int) (l1 : List S79) (a2 : Int) (a3 : Bool) (at_ seq : Int) (hok : RsOk l0 l1) : Ev (fun k => spec_ReadRec.f k l0 l1 a2 a3 at_ seq) (mRR (pcOf cr seq) l0 l1 a2 at_ seq) := by
  have hz : Ev (fun k => spec_ReadRec.j0 k at_ seq true l0 l1 a2 a3) (false, [], 0) := Ev.step (fun K => by simp only [spec_ReadRec.j0]; rw [if_true]) (Ev.now _)
  have hz1 : ∀ kk : Int, Ev (fun k => spec_ReadRec.j1 k at_ seq kk true l0 l1 a2 a3) (false, [], 0) := fun kk => Ev.step (fun K => by simp only [spec_ReadRec.j1]; rw [if_true]) (Ev.now _)
  have hsec := sectors_at l0 hok.1
  unfold spec_ReadRec.f mRR
  refine Ev.bind (specValid_ev l0 l1 a2 a3 hok.1 hok.2.1.1) ?_
  by_cases cv : vD l0 l1 a2 = true
  case neg =>
    have cv' : vD l0 l1 a2 = false := by simpa using cv
    rw [cv']
    exact Ev.congr (fun k => if_neg (by decide)) hz
  refine Ev.congr (fun k => if_pos cv) ?_
  obtain ⟨f1, f2, f3, f4, f5, f6, f7⟩ := vD_facts cv
  refine Ev.congr (fun k => by rw [specNum_eq, Option.bind_some]) ?_
  by_cases cg : gN seq = true
  case neg =>
    have cg' : gN seq = false := by simpa using cg
    rw [cg']
    refine Ev.congr (fun k => if_neg (by decide)) ?_
    rw [if_neg (by simp)]
    exact hz
  refine Ev.congr (fun k => if_pos cg) ?_
  have hs : 1 ≤ seq ∧ seq ≤ 2000000000 := by unfold gN at cg; simpa using cg
  by_cases ca : at_ < 0
  · refine Ev.congr (fun k => if_pos ca) ?_
    rw [if_neg (by unfold inD; simp; omega)]
    exact hz
  refine Ev.congr (fun k => by rw [if_neg ca, spec_l1Sectors.f, hsec, Option.bind_some]) ?_
  by_cases cb : at_ ≥ ((l0.length / 64 : Nat) : Int)
  · refine Ev.congr (fun k => by rw [decide_eq_true cb]) ?_
    rw [if_neg (by unfold inD; simp; omega)]
    exact hz
  have hin : inD l0 at_ = true := by unfold inD; simp; omega
  refine Ev.congr (fun k => by rw [decide_eq_false cb]) ?_
  rw [if_pos (by rw [cv, cg, hin]; rfl)]
  have hR := specRead_ev l0 l1 a2 a3 at_ hok.1 hok.2.1.1
  rw [if_pos (by rw [cv, hin]; rfl)] at hR
  have hlen : ∀ i : Int, 0 ≤ at_ + i → at_ + i < ((l0.length / 64 : Nat) : Int) → (dRd l0 l1 (at_ + i)).length = 64 := fun i h0 h1 => dRd_len l0 l1 _ h0 (by omega) f3 (fun x hx => (f7 x hx).2.2)
  have hbyt : ∀ i : Int, byteL (dRd l0 l1 (at_ + i)) := fun i => dRd_bytes l0 l1 _ hok.2.2.1 hok.2.2.2
  have hl := hlen 0 (by omega) (by omega)
  have hb := hbyt 0
  rw [Int.add_zero] at hl hb
  have hg := get2_ev _ hb hl 6 (by omega)
  have hkb := (iget2 _ hb hl 6 (by omega)).2
  refine Ev.step (fun k => by rw [spec_ReadRec.j0, if_neg (by decide)]) ?_
  refine Ev.bind hR ?_
  refine Ev.congr (fun k => by rw [if_pos (by decide), if_pos (by omega)]) ?_
  refine Ev.bind hg ?_
  generalize getN (dRd l0 l1 at_) 6 = kk at hkb
  by_cases c1 : kk < 1
  · rw [if_pos (Or.inl c1)]
    exact Ev.congr (fun k => if_pos c1) (hz1 kk)
  refine Ev.congr (fun k => by rw [if_neg c1, spec_l1Sectors.f, hsec, Option.bind_some, show wrap64 (at_ + kk) = at_ + kk from by unfold wrap64; omega]) ?_
  by_cases c2 : at_ + kk > ((l0.length / 64 : Nat) : Int)
  · rw [if_pos (Or.inr (by omega))]
    exact Ev.congr (fun k => by rw [decide_eq_true c2]) (hz1 kk)
  rw [if_neg (by omega)]
  refine Ev.congr (fun k => by rw [decide_eq_false c2]) ?_
  refine Ev.step (fun k => by rw [spec_ReadRec.j1, if_neg (by decide)]) ?_
  obtain ⟨K, rfl⟩ : ∃ K : Nat, kk = K := ⟨kk.toNat, by omega⟩
  have hL := specRR_loop hc l0 l1 a2 a3 at_ seq hok cv hs K (by omega) (by omega) K 0 [] [] (by omega) (by simp) (by simp) (fun y hy => by simp at hy) (fun y hy => by simp at hy)
  rw [Int.toNat_natCast]
  have hS : ∀ i, i < K → (dRd l0 l1 (at_ + i)).length = 64 := fun i hi => hlen i (by omega) (by omega)
  have hn0 : ∀ i, i < K → 0 ≤ getN (dRd l0 l1 (at_ + i)) 8 := fun i hi => (iget2 _ (hbyt i) (hS i hi) 8 (by omega)).2.1
  suffices e : sLoop cr (fun j => dRd l0 l1 (at_ + j)) seq K K 0 [] [] = (match rrAcc (pcOf cr seq) l0 l1 at_ K K with
       | none => (false, [], 0)
       | some p => if p.length > 30000 then (false, [], 0) else (true, p, (K : Int))) by
    rw [e] at hL
    exact hL
  by_cases cw : ∃ j, j < K ∧ getN (dRd l0 l1 (at_ + j)) 8 > 48
  · obtain ⟨j, hj, hw⟩ := cw
    rw [sLoop_bad cr _ seq K j hj hw K 0 [] [] (by omega) (by omega), rrAcc_bad j (by unfold rrBad; rw [decide_eq_true hw]; rfl) K hj]
  have hw : ∀ j, j < K → getN (dRd l0 l1 (at_ + j)) 8 ≤ 48 := fun j hj => by
    apply Int.not_lt.1
    exact fun h => cw ⟨j, hj, h⟩
  have ea := sLoop_all cr (fun j => dRd l0 l1 (at_ + j)) seq K hw K 0 (by omega)
  rw [show catN (fun j => cutN ((fun j : Nat => dRd l0 l1 (at_ + j)) j)) 0 = [] from rfl, show catN (fun j : Nat => dRd l0 l1 (at_ + j)) 0 = [] from rfl] at ea
  rw [ea]
  by_cases cb : ∀ j : Nat, j < K → rrBad (pcOf cr seq) K j (dRd l0 l1 (at_ + j)) = false
  · rw [rrAcc_all K cb]
    have : (secsOf cr seq (catN (fun j => cutN (dRd l0 l1 (at_ + j))) K)).flatten = catN (fun j : Nat => dRd l0 l1 (at_ + j)) K := secs_of_good (cr := cr) (seq := seq) (S := fun j : Nat => dRd l0 l1 (at_ + j)) (K := K) (by omega) hS (fun i hi => ⟨hw i hi, hn0 i hi⟩) _ rfl cb
    rw [if_pos this]
  · have : ¬ (secsOf cr seq (catN (fun j => cutN (dRd l0 l1 (at_ + j))) K)).flatten = catN (fun j : Nat => dRd l0 l1 (at_ + j)) K := fun h => cb (good_of_secs (cr := cr) (seq := seq) (S := fun j : Nat => dRd l0 l1 (at_ + j)) (K := K) (by omega) hS (fun i hi => ⟨hw i hi, hn0 i hi⟩) _ rfl h)
    rw [if_neg this]
    obtain ⟨j, hj⟩ := Classical.not_forall.1 cb
    obtain ⟨hj, hbad⟩ := Classical.not_imp.1 hj
    rw [rrAcc_bad j (by simpa using hbad) K hj]
    split <;> rfl

/-! ### impl_ReadRec: function 26, proved by hand -/
-- needs spec_ReadRec.f impl_ReadRec_any specRR_ev cPiece_eq crc_total pcOf RsOk
/-- The specification's answer, where the disk's numbers are bytes and its rows no longer than the laws bring. -/
def m_ReadRec.f (k : Nat) (l0 : List Int) (l1 : List S79) (a2 : Int) (a3 : Bool) (at_ seq : Int) : Option (Bool × List Int × Int) :=
  if l0.length ≤ 1048576 ∧ l1.length ≤ 1048576 ∧ l1.all (fun x => decide (x.f1.length ≤ 1048576) && x.f1.all (fun y => decide (0 ≤ y) && decide (y < 256))) = true ∧ l0.all (fun y => decide (0 ≤ y) && decide (y < 256)) = true then spec_ReadRec.f k l0 l1 a2 a3 at_ seq else none
theorem rsOk_of {l0 : List Int} {l1 : List S79} (h : l0.length ≤ 1048576 ∧ l1.length ≤ 1048576 ∧ l1.all (fun x => decide (x.f1.length ≤ 1048576) && x.f1.all (fun y => decide (0 ≤ y) && decide (y < 256))) = true ∧ l0.all (fun y => decide (0 ≤ y) && decide (y < 256)) = true) : RsOk l0 l1 := by
  obtain ⟨h1, h2, h3, h4⟩ := h
  simp only [List.all_eq_true, Bool.and_eq_true, decide_eq_true_eq] at h3 h4
  exact ⟨h1, ⟨h2, fun x hx => (h3 x hx).1⟩, h4, fun p hp => (h3 p hp).2⟩
theorem rsOk_to {l0 : List Int} {l1 : List S79} (h : RsOk l0 l1) : l0.length ≤ 1048576 ∧ l1.length ≤ 1048576 ∧ l1.all (fun x => decide (x.f1.length ≤ 1048576) && x.f1.all (fun y => decide (0 ≤ y) && decide (y < 256))) = true ∧ l0.all (fun y => decide (0 ≤ y) && decide (y < 256)) = true := by
  simp only [List.all_eq_true, Bool.and_eq_true, decide_eq_true_eq]
  exact ⟨h.1, h.2.1.1, fun x hx => ⟨h.2.1.2 x hx, h.2.2.2 x hx⟩, h.2.2.1⟩
theorem rounds_all {α : Type} {F : Nat → Nat → Option α} {v : Nat → α} : ∀ N : Nat, (∀ i, i < N → Ev (F i) (v i)) → ∃ k, ∀ k' i, k ≤ k' → i < N → F i k' = some (v i)
  | 0, _ => ⟨0, fun _ i _ hi => absurd hi (by omega)⟩
  | N + 1, h => by
    obtain ⟨k, hk⟩ := rounds_all N (fun i hi => h i (by omega))
    obtain ⟨k2, hk2⟩ := h N (by omega)
    refine ⟨k + k2, fun k' i hk' hi => ?_⟩
    by_cases e : i = N
    · subst e; exact hk2 k' (by omega)
    · exact hk k' i (by omega) (by omega)
theorem cPiece_ev {cr : List Int → Int} (hc : CrcOk cr) (seq : Int) (hs : gN seq = true) (i k : Int) (part : List Int) (h : part.length ≤ 48) : Ev (fun kc => cPiece kc seq i k part) (pcOf cr seq i k part) := by
  have hs : 1 ≤ seq ∧ seq ≤ 2000000000 := by unfold gN at hs; simpa using hs
  have := (hc _ (sec0_len seq i k part h)).1
  refine Ev.congr (fun kc => by rw [cPiece_eq kc seq i k part (by omega) (by omega) h]) ?_
  obtain ⟨k0, hk0⟩ := this
  exact ⟨k0, fun k' hk' => by have := hk0 k' hk'; dsimp only at this ⊢; rw [this]; rfl⟩
theorem impl_ReadRec.calls (k : Nat) (A0_0 : Option Addr) (c0_0 : Nat) (l0_0 : List Int) (A0_1 : Option Addr) (c0_1 : Nat) (l0_1 : List (S79)) (a0_2 : Int) (a0_3 : Bool) (a1 : Int) (a2 : Int) (r1 : Bool) (r2 : List Int) (r3 : Int) (w : World) (hr0_0 : Kd.C (Kd.int .u8) w A0_0 l0_0.length l0_0) (hc0_0 : l0_0.length ≤ c0_0) (hr0_1 : Kd.C k79 w A0_1 l0_1.length l0_1) (hc0_1 : l0_1.length ≤ c0_1) (h : m_ReadRec.f k l0_0 l0_1 a0_2 a0_3 a1 a2 = some (r1, r2, r3)) :
    Calls Try.prog 26 #[.agg #[.slice A0_0 l0_0.length c0_0, .slice A0_1 l0_1.length c0_1, .int .i64 a0_2, .bool a0_3], .int .i64 a1, .int .i64 a2] w fun e w' => ∃ v1_ : Value, e = .returned (.agg #[.bool r1, v1_, .int .i64 r3]) ∧ Kd.R (Kd.int .u8) 5 w' w.heap.size (fun _ => True) v1_ r2 ∧ Below w.heap.size w w' := by
  unfold m_ReadRec.f at h
  split at h
  case isFalse => cases h
  next hL =>
  have hok := rsOk_of hL
  obtain ⟨cr, hc⟩ := crc_total
  have hE := specRR_ev hc l0_0 l0_1 a0_2 a0_3 a1 a2 hok
  have e := Ev.uniq hE (Ev.of (fun k => spec_ReadRec.mono _ _ _ _ _ _ k) h)
  have hk : ∃ kc, gN a2 = true → ∀ i : Nat, i < 65536 → (cutN (dRd l0_0 l0_1 (a1 + i))).length ≤ 48 → cPiece kc a2 i (getN (dRd l0_0 l0_1 a1) 6) (cutN (dRd l0_0 l0_1 (a1 + i))) = some (pcOf cr a2 i (getN (dRd l0_0 l0_1 a1) 6) (cutN (dRd l0_0 l0_1 (a1 + i)))) := by
    by_cases cg : gN a2 = true
    · obtain ⟨kc, hkc⟩ := rounds_all (F := fun i kc => cPiece kc a2 i (getN (dRd l0_0 l0_1 a1) 6) (if (cutN (dRd l0_0 l0_1 (a1 + i))).length ≤ 48 then cutN (dRd l0_0 l0_1 (a1 + i)) else [])) (v := fun i => pcOf cr a2 i (getN (dRd l0_0 l0_1 a1) 6) (if (cutN (dRd l0_0 l0_1 (a1 + i))).length ≤ 48 then cutN (dRd l0_0 l0_1 (a1 + i)) else [])) 65536 (fun i hi => cPiece_ev hc a2 cg i _ _ (by
        split
        · assumption
        · simp))
      refine ⟨kc, fun _ i hi hl => ?_⟩
      have := hkc kc i (Nat.le_refl _) hi
      rw [if_pos hl] at this
      exact this
    · exact ⟨0, fun h => absurd h cg⟩
  obtain ⟨kc, hkc⟩ := hk
  have := impl_ReadRec_any kc (pcOf cr a2) A0_0 c0_0 l0_0 A0_1 c0_1 l0_1 a0_2 a0_3 a1 a2 w hr0_0 hc0_0 hr0_1 hc0_1 hok hkc
  rw [e] at this
  exact this

/-! ### laws_eqRecRes: function 27 -/
def laws_eqRecRes.f (k : Nat) (a0_0 : Bool) (l0_1 : List Int) (a0_2 : Int) (a1_0 : Bool) (l1_1 : List Int) (a1_2 : Int) : Option (Bool) := if (a0_0 != a1_0) = true then (some false) else ((laws_eqByteS.f k l0_1 l1_1).bind fun t736 => (if t736 = true then (if a0_2 = a1_2 then (some true) else (some false)) else (some false)))
theorem laws_eqRecRes.mono : ∀ a0 a1 a2 a3 a4 a5 k, LeO (laws_eqRecRes.f k a0 a1 a2 a3 a4 a5) (laws_eqRecRes.f (k + 1) a0 a1 a2 a3 a4 a5) := by
  intro a0 a1 a2 a3 a4 a5 k
  unfold laws_eqRecRes.f
  repeat' first
      | (with_reducible exact laws_eqByteS.mono _ _ _)
      | (with_reducible exact LeO.refl _)
      | (with_reducible exact LeO.none _)
      | (with_reducible refine LeO.ite ?_ ?_)
      | (with_reducible refine LeO.bind ?_ (fun _ => ?_))
      | exact laws_eqByteS.mono _ _ _
      | exact LeO.none _
      | refine LeO.ite ?_ ?_
      | refine LeO.bind ?_ (fun _ => ?_)
set_option maxHeartbeats 8000000 in
set_option maxRecDepth 100000 in
theorem laws_eqRecRes.calls (k : Nat) (a0_0 : Bool) (A0_1 : Option Addr) (c0_1 : Nat) (l0_1 : List Int) (a0_2 : Int) (a1_0 : Bool) (A1_1 : Option Addr) (c1_1 : Nat) (l1_1 : List Int) (a1_2 : Int) (r : Bool) (w : World) (hr0_1 : Kd.C (Kd.int .u8) w A0_1 l0_1.length l0_1) (hc0_1 : l0_1.length ≤ c0_1) (hr1_1 : Kd.C (Kd.int .u8) w A1_1 l1_1.length l1_1) (hc1_1 : l1_1.length ≤ c1_1) (h : laws_eqRecRes.f k a0_0 l0_1 a0_2 a1_0 l1_1 a1_2 = some r) :
    Calls Try.prog 27 #[.agg #[.bool a0_0, .slice A0_1 l0_1.length c0_1, .int .i64 a0_2], .agg #[.bool a1_0, .slice A1_1 l1_1.length c1_1, .int .i64 a1_2]] w fun e w' => e = .returned (.bool r) ∧ Below w.heap.size w w' := by
  have hu49 := Try.underlying49
  have HR0_1 := Aside0.mk hr0_1
  have HC0_1 := Aside0.mk hc0_1
  clear hr0_1 hc0_1
  have HR1_1 := Aside0.mk hr1_1
  have HC1_1 := Aside0.mk hc1_1
  clear hr1_1 hc1_1
  have HB := Aside0.mk (Below.refl w.heap.size w)
  have H : (if (a0_0 != a1_0) = true then (some false) else ((laws_eqByteS.f k l0_1 l1_1).bind fun t736 => (if t736 = true then (if a0_2 = a1_2 then (some true) else (some false)) else (some false)))) = some r := h
  clear h
  by_cases c3 : (a0_0 != a1_0) = true
  · rw [if_pos c3] at H
    have c3b0 : (a0_0 != a1_0) = true := c3
    (try (have c3b1 : decide (a0_0 = a1_0) = false := by simpa using c3))
    (try (have c3b2 : (a0_0 == a1_0) = false := by simpa using c3))
    (try (have c3b3 : ¬ (a0_0 = a1_0) := by simpa using c3))
    clear c3
    obtain rfl := Option.some.inj H
    go_enter Try.func27, Try.ntmps27
    go_wp2_with (first | ((with_reducible refine gate_dst (N := 2) rfl ?_); refine box_event ?hg (N := 2) ?hd (cs := #[.bool a0_0, .slice A0_1 l0_1.length c0_1, .int .i64 a0_2]) (t := 49) ?hr ?_; (case hd => rfl); (case hg => rfl); (case hr => first | (go_simp; done) | (go_simp; rfl)); intro gb734 hg w4 hbox hb; have n0_ := Aside0.mk (below_step (by repeat (first | (with_reducible first | exact HB.out | apply below_alloc | apply pw_below_drewN | apply below_drew1) | exact HB.out)) hb); have n1_ := Aside0.mk (hbox); have n2_ := Aside0.mk ((by rw [hg]; exact (below_size (by repeat (first | (with_reducible first | exact HB.out | apply below_alloc | apply pw_below_drewN | apply below_drew1) | exact HB.out))) : w.heap.size ≤ gb734)); have n3_ := Aside0.mk ((by rw [hg]; exact (below_size (by repeat (first | (with_reducible first | exact HB.out | apply below_alloc | apply pw_below_drewN | apply below_drew1) | exact HB.out))) : w.heap.size ≤ gb734)); clear HB; have HB := n0_; have BK734 := n1_; have GW734 := n2_; have GE734 := n3_; clear n0_ n1_ n2_ n3_; clear hb hbox hg) | ((with_reducible refine gate_dst (N := 3) rfl ?_); refine box_event ?hg (N := 3) ?hd (cs := #[.bool a1_0, .slice A1_1 l1_1.length c1_1, .int .i64 a1_2]) (t := 49) ?hr ?_; (case hd => rfl); (case hg => rfl); (case hr => first | (go_simp; done) | (go_simp; rfl)); intro gb735 hg w5 hbox hb; have n0_ := Aside0.mk (blk_below (g := gb734) (o := .cells #[.bool a0_0, .slice A0_1 l0_1.length c0_1, .int .i64 a0_2] 49 (0, 0)) (by (with_reducible repeat (first | refine blk_drewN ?_ _ | refine blk_drew ?_ | refine blk_alloc ?_ _)); exact BK734.out) hb); have n1_ := Aside0.mk (below_step (by repeat (first | (with_reducible first | exact HB.out | apply below_alloc | apply pw_below_drewN | apply below_drew1 | refine below_set ?_ GE734.out) | exact HB.out)) hb); have n2_ := Aside0.mk (hbox); have n3_ := Aside0.mk ((by rw [hg]; exact (below_size (by repeat (first | (with_reducible first | exact HB.out | apply below_alloc | apply pw_below_drewN | apply below_drew1 | refine below_set ?_ GE734.out) | exact HB.out))) : w.heap.size ≤ gb735)); have n4_ := Aside0.mk ((by rw [hg]; exact (below_size (by repeat (first | (with_reducible first | exact HB.out | apply below_alloc | apply pw_below_drewN | apply below_drew1 | refine below_set ?_ GE734.out) | exact HB.out))) : w.heap.size ≤ gb735)); have n5_ := Aside0.mk ((by rw [hg]; exact Nat.ne_of_lt (blk_lt (g := gb734) (o := .cells #[.bool a0_0, .slice A0_1 l0_1.length c0_1, .int .i64 a0_2] 49 (0, 0)) (by (with_reducible repeat (first | refine blk_drewN ?_ _ | refine blk_drew ?_ | refine blk_alloc ?_ _)); exact BK734.out)) : gb734 ≠ gb735)); have n6_ := Aside0.mk ((by rw [hg]; exact Nat.ne_of_gt (blk_lt (g := gb734) (o := .cells #[.bool a0_0, .slice A0_1 l0_1.length c0_1, .int .i64 a0_2] 49 (0, 0)) (by (with_reducible repeat (first | refine blk_drewN ?_ _ | refine blk_drew ?_ | refine blk_alloc ?_ _)); exact BK734.out)) : gb735 ≠ gb734)); clear BK734; clear HB; have BK734 := n0_; have HB := n1_; have BK735 := n2_; have GW735 := n3_; have GE735 := n4_; have NB734_735 := n5_; have NB735_734 := n6_; clear n0_ n1_ n2_ n3_ n4_ n5_ n6_; clear hb hbox hg; have hnb6 := NB734_735.out; have hnc6 := NB735_734.out; have hcz7_0 : w5.cell? ⟨gb734, 0, none⟩ = some (.bool a0_0) := (blk_cell BK734.out 0).trans rfl; have hcz7_1 : w5.cell? ⟨gb734, 1, none⟩ = some (.slice A0_1 l0_1.length c0_1) := (blk_cell BK734.out 1).trans rfl; have hcz7_2 : w5.cell? ⟨gb734, 2, none⟩ = some (.int .i64 a0_2) := (blk_cell BK734.out 2).trans rfl; have hfz7_0 := blk_frozen BK734.out 0; have hfz7_1 := blk_frozen BK734.out 1; have hfz7_2 := blk_frozen BK734.out 2; have hcz8_0 : w5.cell? ⟨gb735, 0, none⟩ = some (.bool a1_0) := (blk_cell BK735.out 0).trans rfl; have hcz8_1 : w5.cell? ⟨gb735, 1, none⟩ = some (.slice A1_1 l1_1.length c1_1) := (blk_cell BK735.out 1).trans rfl; have hcz8_2 : w5.cell? ⟨gb735, 2, none⟩ = some (.int .i64 a1_2) := (blk_cell BK735.out 2).trans rfl; have hfz8_0 := blk_frozen BK735.out 0; have hfz8_1 := blk_frozen BK735.out 1; have hfz8_2 := blk_frozen BK735.out 2))
    go_ret
    exact ⟨by first | rfl | (simp [errW_none, errW_some] <;> rfl) | (simp [*, errW_none, errW_some] <;> rfl), by repeat (first | (with_reducible first | exact HB.out | apply below_alloc | apply pw_below_drewN | apply below_drew1 | refine below_set ?_ GE734.out | refine below_set ?_ GE735.out) | exact HB.out)⟩
  · rw [if_neg c3] at H
    have c3b0 : (a0_0 != a1_0) = false := by simpa using c3
    (try (have c3b1 : decide (a0_0 = a1_0) = true := by simpa using c3))
    (try (have c3b2 : (a0_0 == a1_0) = true := by simpa using c3))
    clear c3
    replace H := Option.bind_eq_some_iff.mp H
    obtain ⟨t736, A90, H⟩ := H
    replace H : (if t736 = true then (if a0_2 = a1_2 then (some true) else (some false)) else (some false)) = some r := H
    have A9 := Aside0.mk A90
    clear A90
    by_cases c10 : t736 = true
    · subst c10
      have H1 : (if a0_2 = a1_2 then (some true) else (some false)) = some r := by rw [if_pos rfl] at H; exact H
      clear H
      have H := H1
      clear H1
      by_cases c11 : a0_2 = a1_2
      · rw [if_pos c11] at H
        have c11b0 : (a0_2 == a1_2) = true := beq_iff_eq.mpr c11
        have c11b1 : (a0_2 != a1_2) = false := bne_eq_false_iff_eq.mpr c11
        clear c11
        obtain rfl := Option.some.inj H
        go_enter Try.func27, Try.ntmps27
        go_wp2_with (first | ((with_reducible refine gate_dst (N := 2) rfl ?_); refine box_event ?hg (N := 2) ?hd (cs := #[.bool a0_0, .slice A0_1 l0_1.length c0_1, .int .i64 a0_2]) (t := 49) ?hr ?_; (case hd => rfl); (case hg => rfl); (case hr => first | (go_simp; done) | (go_simp; rfl)); intro gb734 hg w12 hbox hb; have n0_ := Aside0.mk (below_step (by repeat (first | (with_reducible first | exact HB.out | apply below_alloc | apply pw_below_drewN | apply below_drew1) | exact HB.out)) hb); have n1_ := Aside0.mk (hbox); have n2_ := Aside0.mk ((by rw [hg]; exact (below_size (by repeat (first | (with_reducible first | exact HB.out | apply below_alloc | apply pw_below_drewN | apply below_drew1) | exact HB.out))) : w.heap.size ≤ gb734)); have n3_ := Aside0.mk ((by rw [hg]; exact (below_size (by repeat (first | (with_reducible first | exact HB.out | apply below_alloc | apply pw_below_drewN | apply below_drew1) | exact HB.out))) : w.heap.size ≤ gb734)); clear HB; have HB := n0_; have BK734 := n1_; have GW734 := n2_; have GE734 := n3_; clear n0_ n1_ n2_ n3_; clear hb hbox hg) | ((with_reducible refine gate_dst (N := 3) rfl ?_); refine box_event ?hg (N := 3) ?hd (cs := #[.bool a1_0, .slice A1_1 l1_1.length c1_1, .int .i64 a1_2]) (t := 49) ?hr ?_; (case hd => rfl); (case hg => rfl); (case hr => first | (go_simp; done) | (go_simp; rfl)); intro gb735 hg w13 hbox hb; have n0_ := Aside0.mk (blk_below (g := gb734) (o := .cells #[.bool a0_0, .slice A0_1 l0_1.length c0_1, .int .i64 a0_2] 49 (0, 0)) (by (with_reducible repeat (first | refine blk_drewN ?_ _ | refine blk_drew ?_ | refine blk_alloc ?_ _)); exact BK734.out) hb); have n1_ := Aside0.mk (below_step (by repeat (first | (with_reducible first | exact HB.out | apply below_alloc | apply pw_below_drewN | apply below_drew1 | refine below_set ?_ GE734.out) | exact HB.out)) hb); have n2_ := Aside0.mk (hbox); have n3_ := Aside0.mk ((by rw [hg]; exact (below_size (by repeat (first | (with_reducible first | exact HB.out | apply below_alloc | apply pw_below_drewN | apply below_drew1 | refine below_set ?_ GE734.out) | exact HB.out))) : w.heap.size ≤ gb735)); have n4_ := Aside0.mk ((by rw [hg]; exact (below_size (by repeat (first | (with_reducible first | exact HB.out | apply below_alloc | apply pw_below_drewN | apply below_drew1 | refine below_set ?_ GE734.out) | exact HB.out))) : w.heap.size ≤ gb735)); have n5_ := Aside0.mk ((by rw [hg]; exact Nat.ne_of_lt (blk_lt (g := gb734) (o := .cells #[.bool a0_0, .slice A0_1 l0_1.length c0_1, .int .i64 a0_2] 49 (0, 0)) (by (with_reducible repeat (first | refine blk_drewN ?_ _ | refine blk_drew ?_ | refine blk_alloc ?_ _)); exact BK734.out)) : gb734 ≠ gb735)); have n6_ := Aside0.mk ((by rw [hg]; exact Nat.ne_of_gt (blk_lt (g := gb734) (o := .cells #[.bool a0_0, .slice A0_1 l0_1.length c0_1, .int .i64 a0_2] 49 (0, 0)) (by (with_reducible repeat (first | refine blk_drewN ?_ _ | refine blk_drew ?_ | refine blk_alloc ?_ _)); exact BK734.out)) : gb735 ≠ gb734)); clear BK734; clear HB; have BK734 := n0_; have HB := n1_; have BK735 := n2_; have GW735 := n3_; have GE735 := n4_; have NB734_735 := n5_; have NB735_734 := n6_; clear n0_ n1_ n2_ n3_ n4_ n5_ n6_; clear hb hbox hg; have hnb14 := NB734_735.out; have hnc14 := NB735_734.out; have hcz15_0 : w13.cell? ⟨gb734, 0, none⟩ = some (.bool a0_0) := (blk_cell BK734.out 0).trans rfl; have hcz15_1 : w13.cell? ⟨gb734, 1, none⟩ = some (.slice A0_1 l0_1.length c0_1) := (blk_cell BK734.out 1).trans rfl; have hcz15_2 : w13.cell? ⟨gb734, 2, none⟩ = some (.int .i64 a0_2) := (blk_cell BK734.out 2).trans rfl; have hfz15_0 := blk_frozen BK734.out 0; have hfz15_1 := blk_frozen BK734.out 1; have hfz15_2 := blk_frozen BK734.out 2; have hcz16_0 : w13.cell? ⟨gb735, 0, none⟩ = some (.bool a1_0) := (blk_cell BK735.out 0).trans rfl; have hcz16_1 : w13.cell? ⟨gb735, 1, none⟩ = some (.slice A1_1 l1_1.length c1_1) := (blk_cell BK735.out 1).trans rfl; have hcz16_2 : w13.cell? ⟨gb735, 2, none⟩ = some (.int .i64 a1_2) := (blk_cell BK735.out 2).trans rfl; have hfz16_0 := blk_frozen BK735.out 0; have hfz16_1 := blk_frozen BK735.out 1; have hfz16_2 := blk_frozen BK735.out 2) | ((with_reducible refine gate_callee (f := 38) rfl ?_); refine goesL_ (some 14) rfl rfl Try.func38 (by kernel_rfl) rfl #[.slice A0_1 l0_1.length c0_1, .slice A1_1 l1_1.length c1_1] rfl (by (try simp only [List.map_toArray, List.map_cons, List.map_nil]); first | done | rfl | (simp only [List.length_drop, List.length_take]; rfl)) ?_; (with_reducible refine (laws_eqByteS.calls k _ _ l0_1 _ _ l1_1 true _ ?side1 ?side2 ?side3 ?side4 A9.out).mono ?_); (case side1 => repeat (first | exact (Kd.C_below HR0_1.out HB.out) | (with_reducible refine Kd.C_alloc ?_ _) | (with_reducible refine Kd.C_drewN ?_ _) | (with_reducible refine Kd.C_drew ?_))); (case side2 => exact HC0_1.out); (case side3 => repeat (first | exact (Kd.C_below HR1_1.out HB.out) | (with_reducible refine Kd.C_alloc ?_ _) | (with_reducible refine Kd.C_drewN ?_ _) | (with_reducible refine Kd.C_drew ?_))); (case side4 => exact HC1_1.out); rintro e w' ⟨rfl, ⟨nd, rfl⟩⟩; refine ⟨_, rfl, ?_⟩))
        go_ret
        exact ⟨by first | rfl | (simp [errW_none, errW_some] <;> rfl) | (simp [*, errW_none, errW_some] <;> rfl), by repeat (first | (with_reducible first | exact HB.out | apply below_alloc | apply pw_below_drewN | apply below_drew1 | refine below_set ?_ GE734.out | refine below_set ?_ GE735.out) | exact HB.out)⟩
      · rw [if_neg c11] at H
        have c11b0 : (a0_2 == a1_2) = false := beq_eq_false_iff_ne.mpr c11
        have c11b1 : (a0_2 != a1_2) = true := bne_iff_ne.mpr c11
        obtain rfl := Option.some.inj H
        go_enter Try.func27, Try.ntmps27
        go_wp2_with (first | ((with_reducible refine gate_dst (N := 2) rfl ?_); refine box_event ?hg (N := 2) ?hd (cs := #[.bool a0_0, .slice A0_1 l0_1.length c0_1, .int .i64 a0_2]) (t := 49) ?hr ?_; (case hd => rfl); (case hg => rfl); (case hr => first | (go_simp; done) | (go_simp; rfl)); intro gb734 hg w17 hbox hb; have n0_ := Aside0.mk (below_step (by repeat (first | (with_reducible first | exact HB.out | apply below_alloc | apply pw_below_drewN | apply below_drew1) | exact HB.out)) hb); have n1_ := Aside0.mk (hbox); have n2_ := Aside0.mk ((by rw [hg]; exact (below_size (by repeat (first | (with_reducible first | exact HB.out | apply below_alloc | apply pw_below_drewN | apply below_drew1) | exact HB.out))) : w.heap.size ≤ gb734)); have n3_ := Aside0.mk ((by rw [hg]; exact (below_size (by repeat (first | (with_reducible first | exact HB.out | apply below_alloc | apply pw_below_drewN | apply below_drew1) | exact HB.out))) : w.heap.size ≤ gb734)); clear HB; have HB := n0_; have BK734 := n1_; have GW734 := n2_; have GE734 := n3_; clear n0_ n1_ n2_ n3_; clear hb hbox hg) | ((with_reducible refine gate_dst (N := 3) rfl ?_); refine box_event ?hg (N := 3) ?hd (cs := #[.bool a1_0, .slice A1_1 l1_1.length c1_1, .int .i64 a1_2]) (t := 49) ?hr ?_; (case hd => rfl); (case hg => rfl); (case hr => first | (go_simp; done) | (go_simp; rfl)); intro gb735 hg w18 hbox hb; have n0_ := Aside0.mk (blk_below (g := gb734) (o := .cells #[.bool a0_0, .slice A0_1 l0_1.length c0_1, .int .i64 a0_2] 49 (0, 0)) (by (with_reducible repeat (first | refine blk_drewN ?_ _ | refine blk_drew ?_ | refine blk_alloc ?_ _)); exact BK734.out) hb); have n1_ := Aside0.mk (below_step (by repeat (first | (with_reducible first | exact HB.out | apply below_alloc | apply pw_below_drewN | apply below_drew1 | refine below_set ?_ GE734.out) | exact HB.out)) hb); have n2_ := Aside0.mk (hbox); have n3_ := Aside0.mk ((by rw [hg]; exact (below_size (by repeat (first | (with_reducible first | exact HB.out | apply below_alloc | apply pw_below_drewN | apply below_drew1 | refine below_set ?_ GE734.out) | exact HB.out))) : w.heap.size ≤ gb735)); have n4_ := Aside0.mk ((by rw [hg]; exact (below_size (by repeat (first | (with_reducible first | exact HB.out | apply below_alloc | apply pw_below_drewN | apply below_drew1 | refine below_set ?_ GE734.out) | exact HB.out))) : w.heap.size ≤ gb735)); have n5_ := Aside0.mk ((by rw [hg]; exact Nat.ne_of_lt (blk_lt (g := gb734) (o := .cells #[.bool a0_0, .slice A0_1 l0_1.length c0_1, .int .i64 a0_2] 49 (0, 0)) (by (with_reducible repeat (first | refine blk_drewN ?_ _ | refine blk_drew ?_ | refine blk_alloc ?_ _)); exact BK734.out)) : gb734 ≠ gb735)); have n6_ := Aside0.mk ((by rw [hg]; exact Nat.ne_of_gt (blk_lt (g := gb734) (o := .cells #[.bool a0_0, .slice A0_1 l0_1.length c0_1, .int .i64 a0_2] 49 (0, 0)) (by (with_reducible repeat (first | refine blk_drewN ?_ _ | refine blk_drew ?_ | refine blk_alloc ?_ _)); exact BK734.out)) : gb735 ≠ gb734)); clear BK734; clear HB; have BK734 := n0_; have HB := n1_; have BK735 := n2_; have GW735 := n3_; have GE735 := n4_; have NB734_735 := n5_; have NB735_734 := n6_; clear n0_ n1_ n2_ n3_ n4_ n5_ n6_; clear hb hbox hg; have hnb19 := NB734_735.out; have hnc19 := NB735_734.out; have hcz20_0 : w18.cell? ⟨gb734, 0, none⟩ = some (.bool a0_0) := (blk_cell BK734.out 0).trans rfl; have hcz20_1 : w18.cell? ⟨gb734, 1, none⟩ = some (.slice A0_1 l0_1.length c0_1) := (blk_cell BK734.out 1).trans rfl; have hcz20_2 : w18.cell? ⟨gb734, 2, none⟩ = some (.int .i64 a0_2) := (blk_cell BK734.out 2).trans rfl; have hfz20_0 := blk_frozen BK734.out 0; have hfz20_1 := blk_frozen BK734.out 1; have hfz20_2 := blk_frozen BK734.out 2; have hcz21_0 : w18.cell? ⟨gb735, 0, none⟩ = some (.bool a1_0) := (blk_cell BK735.out 0).trans rfl; have hcz21_1 : w18.cell? ⟨gb735, 1, none⟩ = some (.slice A1_1 l1_1.length c1_1) := (blk_cell BK735.out 1).trans rfl; have hcz21_2 : w18.cell? ⟨gb735, 2, none⟩ = some (.int .i64 a1_2) := (blk_cell BK735.out 2).trans rfl; have hfz21_0 := blk_frozen BK735.out 0; have hfz21_1 := blk_frozen BK735.out 1; have hfz21_2 := blk_frozen BK735.out 2) | ((with_reducible refine gate_callee (f := 38) rfl ?_); refine goesL_ (some 14) rfl rfl Try.func38 (by kernel_rfl) rfl #[.slice A0_1 l0_1.length c0_1, .slice A1_1 l1_1.length c1_1] rfl (by (try simp only [List.map_toArray, List.map_cons, List.map_nil]); first | done | rfl | (simp only [List.length_drop, List.length_take]; rfl)) ?_; (with_reducible refine (laws_eqByteS.calls k _ _ l0_1 _ _ l1_1 true _ ?side1 ?side2 ?side3 ?side4 A9.out).mono ?_); (case side1 => repeat (first | exact (Kd.C_below HR0_1.out HB.out) | (with_reducible refine Kd.C_alloc ?_ _) | (with_reducible refine Kd.C_drewN ?_ _) | (with_reducible refine Kd.C_drew ?_))); (case side2 => exact HC0_1.out); (case side3 => repeat (first | exact (Kd.C_below HR1_1.out HB.out) | (with_reducible refine Kd.C_alloc ?_ _) | (with_reducible refine Kd.C_drewN ?_ _) | (with_reducible refine Kd.C_drew ?_))); (case side4 => exact HC1_1.out); rintro e w' ⟨rfl, ⟨nd, rfl⟩⟩; refine ⟨_, rfl, ?_⟩))
        go_ret
        exact ⟨by first | rfl | (simp [errW_none, errW_some] <;> rfl) | (simp [*, errW_none, errW_some] <;> rfl), by repeat (first | (with_reducible first | exact HB.out | apply below_alloc | apply pw_below_drewN | apply below_drew1 | refine below_set ?_ GE734.out | refine below_set ?_ GE735.out) | exact HB.out)⟩
    · replace c10 := Bool.eq_false_iff.mpr c10
      subst c10
      have H1 : (some false) = some r := by rw [if_neg (show ¬ (false = true) by decide)] at H; exact H
      clear H
      have H := H1
      clear H1
      obtain rfl := Option.some.inj H
      go_enter Try.func27, Try.ntmps27
      go_wp2_with (first | ((with_reducible refine gate_dst (N := 2) rfl ?_); refine box_event ?hg (N := 2) ?hd (cs := #[.bool a0_0, .slice A0_1 l0_1.length c0_1, .int .i64 a0_2]) (t := 49) ?hr ?_; (case hd => rfl); (case hg => rfl); (case hr => first | (go_simp; done) | (go_simp; rfl)); intro gb734 hg w22 hbox hb; have n0_ := Aside0.mk (below_step (by repeat (first | (with_reducible first | exact HB.out | apply below_alloc | apply pw_below_drewN | apply below_drew1) | exact HB.out)) hb); have n1_ := Aside0.mk (hbox); have n2_ := Aside0.mk ((by rw [hg]; exact (below_size (by repeat (first | (with_reducible first | exact HB.out | apply below_alloc | apply pw_below_drewN | apply below_drew1) | exact HB.out))) : w.heap.size ≤ gb734)); have n3_ := Aside0.mk ((by rw [hg]; exact (below_size (by repeat (first | (with_reducible first | exact HB.out | apply below_alloc | apply pw_below_drewN | apply below_drew1) | exact HB.out))) : w.heap.size ≤ gb734)); clear HB; have HB := n0_; have BK734 := n1_; have GW734 := n2_; have GE734 := n3_; clear n0_ n1_ n2_ n3_; clear hb hbox hg) | ((with_reducible refine gate_dst (N := 3) rfl ?_); refine box_event ?hg (N := 3) ?hd (cs := #[.bool a1_0, .slice A1_1 l1_1.length c1_1, .int .i64 a1_2]) (t := 49) ?hr ?_; (case hd => rfl); (case hg => rfl); (case hr => first | (go_simp; done) | (go_simp; rfl)); intro gb735 hg w23 hbox hb; have n0_ := Aside0.mk (blk_below (g := gb734) (o := .cells #[.bool a0_0, .slice A0_1 l0_1.length c0_1, .int .i64 a0_2] 49 (0, 0)) (by (with_reducible repeat (first | refine blk_drewN ?_ _ | refine blk_drew ?_ | refine blk_alloc ?_ _)); exact BK734.out) hb); have n1_ := Aside0.mk (below_step (by repeat (first | (with_reducible first | exact HB.out | apply below_alloc | apply pw_below_drewN | apply below_drew1 | refine below_set ?_ GE734.out) | exact HB.out)) hb); have n2_ := Aside0.mk (hbox); have n3_ := Aside0.mk ((by rw [hg]; exact (below_size (by repeat (first | (with_reducible first | exact HB.out | apply below_alloc | apply pw_below_drewN | apply below_drew1 | refine below_set ?_ GE734.out) | exact HB.out))) : w.heap.size ≤ gb735)); have n4_ := Aside0.mk ((by rw [hg]; exact (below_size (by repeat (first | (with_reducible first | exact HB.out | apply below_alloc | apply pw_below_drewN | apply below_drew1 | refine below_set ?_ GE734.out) | exact HB.out))) : w.heap.size ≤ gb735)); have n5_ := Aside0.mk ((by rw [hg]; exact Nat.ne_of_lt (blk_lt (g := gb734) (o := .cells #[.bool a0_0, .slice A0_1 l0_1.length c0_1, .int .i64 a0_2] 49 (0, 0)) (by (with_reducible repeat (first | refine blk_drewN ?_ _ | refine blk_drew ?_ | refine blk_alloc ?_ _)); exact BK734.out)) : gb734 ≠ gb735)); have n6_ := Aside0.mk ((by rw [hg]; exact Nat.ne_of_gt (blk_lt (g := gb734) (o := .cells #[.bool a0_0, .slice A0_1 l0_1.length c0_1, .int .i64 a0_2] 49 (0, 0)) (by (with_reducible repeat (first | refine blk_drewN ?_ _ | refine blk_drew ?_ | refine blk_alloc ?_ _)); exact BK734.out)) : gb735 ≠ gb734)); clear BK734; clear HB; have BK734 := n0_; have HB := n1_; have BK735 := n2_; have GW735 := n3_; have GE735 := n4_; have NB734_735 := n5_; have NB735_734 := n6_; clear n0_ n1_ n2_ n3_ n4_ n5_ n6_; clear hb hbox hg; have hnb24 := NB734_735.out; have hnc24 := NB735_734.out; have hcz25_0 : w23.cell? ⟨gb734, 0, none⟩ = some (.bool a0_0) := (blk_cell BK734.out 0).trans rfl; have hcz25_1 : w23.cell? ⟨gb734, 1, none⟩ = some (.slice A0_1 l0_1.length c0_1) := (blk_cell BK734.out 1).trans rfl; have hcz25_2 : w23.cell? ⟨gb734, 2, none⟩ = some (.int .i64 a0_2) := (blk_cell BK734.out 2).trans rfl; have hfz25_0 := blk_frozen BK734.out 0; have hfz25_1 := blk_frozen BK734.out 1; have hfz25_2 := blk_frozen BK734.out 2; have hcz26_0 : w23.cell? ⟨gb735, 0, none⟩ = some (.bool a1_0) := (blk_cell BK735.out 0).trans rfl; have hcz26_1 : w23.cell? ⟨gb735, 1, none⟩ = some (.slice A1_1 l1_1.length c1_1) := (blk_cell BK735.out 1).trans rfl; have hcz26_2 : w23.cell? ⟨gb735, 2, none⟩ = some (.int .i64 a1_2) := (blk_cell BK735.out 2).trans rfl; have hfz26_0 := blk_frozen BK735.out 0; have hfz26_1 := blk_frozen BK735.out 1; have hfz26_2 := blk_frozen BK735.out 2) | ((with_reducible refine gate_callee (f := 38) rfl ?_); refine goesL_ (some 14) rfl rfl Try.func38 (by kernel_rfl) rfl #[.slice A0_1 l0_1.length c0_1, .slice A1_1 l1_1.length c1_1] rfl (by (try simp only [List.map_toArray, List.map_cons, List.map_nil]); first | done | rfl | (simp only [List.length_drop, List.length_take]; rfl)) ?_; (with_reducible refine (laws_eqByteS.calls k _ _ l0_1 _ _ l1_1 false _ ?side1 ?side2 ?side3 ?side4 A9.out).mono ?_); (case side1 => repeat (first | exact (Kd.C_below HR0_1.out HB.out) | (with_reducible refine Kd.C_alloc ?_ _) | (with_reducible refine Kd.C_drewN ?_ _) | (with_reducible refine Kd.C_drew ?_))); (case side2 => exact HC0_1.out); (case side3 => repeat (first | exact (Kd.C_below HR1_1.out HB.out) | (with_reducible refine Kd.C_alloc ?_ _) | (with_reducible refine Kd.C_drewN ?_ _) | (with_reducible refine Kd.C_drew ?_))); (case side4 => exact HC1_1.out); rintro e w' ⟨rfl, ⟨nd, rfl⟩⟩; refine ⟨_, rfl, ?_⟩))
      go_ret
      exact ⟨by first | rfl | (simp [errW_none, errW_some] <;> rfl) | (simp [*, errW_none, errW_some] <;> rfl), by repeat (first | (with_reducible first | exact HB.out | apply below_alloc | apply pw_below_drewN | apply below_drew1 | refine below_set ?_ GE734.out | refine below_set ?_ GE735.out) | exact HB.out)⟩

/-! ### laws_markRecRes: function 29 -/
def laws_markRecRes.f (k : Nat) (a0_0 : Bool) (l0_1 : List Int) (a0_2 : Int) (a1 : Int) : Option (Int × List Int) := (laws_markByteS.f k l0_1 a1).bind fun bt738 => (some (bt738.1, bt738.2))
theorem laws_markRecRes.mono : ∀ a0 a1 a2 a3 k, LeO (laws_markRecRes.f k a0 a1 a2 a3) (laws_markRecRes.f (k + 1) a0 a1 a2 a3) := by
  intro a0 a1 a2 a3 k
  unfold laws_markRecRes.f
  repeat' first
      | (with_reducible exact laws_markByteS.mono _ _ _)
      | (with_reducible exact LeO.refl _)
      | (with_reducible exact LeO.none _)
      | (with_reducible refine LeO.ite ?_ ?_)
      | (with_reducible refine LeO.bind ?_ (fun _ => ?_))
      | exact laws_markByteS.mono _ _ _
      | exact LeO.none _
      | refine LeO.ite ?_ ?_
      | refine LeO.bind ?_ (fun _ => ?_)
set_option maxHeartbeats 8000000 in
set_option maxRecDepth 100000 in
theorem laws_markRecRes.calls (k : Nat) (a0_0 : Bool) (P0_1_ : Nat → Prop) (u9000_ : Value) (l0_1 : List Int) (a0_2 : Int) (a1 : Int) (r1 : Int) (r2 : List Int) (w0 w : World) (hB : Below w0.heap.size w0 w) (ho0_1 : Kd.R (Kd.int .u8) 5 w w0.heap.size P0_1_ u9000_ l0_1) (h : laws_markRecRes.f k a0_0 l0_1 a0_2 a1 = some (r1, r2)) :
    Calls Try.prog 29 #[.agg #[.bool a0_0, u9000_, .int .i64 a0_2], .int .i64 a1] w fun e w' => e = .returned (.int .i64 r1) ∧ Kd.R (Kd.int .u8) 5 w' w0.heap.size (fun k_ => (P0_1_ k_ ∨ w.heap.size ≤ k_)) u9000_ r2 ∧ Below w0.heap.size w0 w' ∧ Kept w w' (fun k_ => P0_1_ k_) := by
  have hu49 := Try.underlying49
  have HO0_1 := Aside0.mk (show Kd.R (Kd.int .u8) 5 w w0.heap.size (fun k_ => (P0_1_ k_ ∨ w.heap.size ≤ k_)) u9000_ l0_1 from Kd.R_mono ho0_1 (fun k_ hk => (.inl hk)))
  have HK := Aside0.mk (Kept.refl w (fun k_ => P0_1_ k_))
  have HW0 := Aside0.mk hB.size
  have HB := Aside0.mk hB
  clear hB
  have H : ((laws_markByteS.f k l0_1 a1).bind fun bt738 => (some (bt738.1, bt738.2))) = some (r1, r2) := h
  clear h
  replace H := Option.bind_eq_some_iff.mp H
  obtain ⟨⟨t738, t739⟩, A30, H⟩ := H
  replace H : (some (t738, t739)) = some (r1, r2) := H
  have A3 := Aside0.mk A30
  clear A30
  simp only [Option.some.injEq, Prod.mk.injEq] at H
  obtain ⟨rfl, rfl⟩ := H
  obtain ⟨Ao4, co4, eo4⟩ := Kd.R_slice HO0_1.out
  subst eo4
  go_enter Try.func29, Try.ntmps29
  go_wp2_with (first | ((with_reducible refine gate_dst (N := 2) rfl ?_); refine box_event ?hg (N := 2) ?hd (cs := #[.bool a0_0, .slice Ao4 l0_1.length co4, .int .i64 a0_2]) (t := 49) ?hr ?_; (case hd => rfl); (case hg => rfl); (case hr => first | (go_simp; done) | (go_simp; rfl)); intro gb737 hg w5 hbox hb; have n0_ := Aside0.mk (Kd.R_below (by (with_reducible repeat (first | apply Kd.R_alloc | apply Kd.R_drewN | apply Kd.R_drew)); exact HO0_1.out) hb); have n1_ := Aside0.mk (Kept.below (S := (fun k_ => P0_1_ k_)) (by repeat (first | (with_reducible first | exact HK.out | apply Kept.alloc | apply Kept.drewN | apply Kept.drew) | exact HK.out)) hb); have n2_ := Aside0.mk (below_step (by repeat (first | (with_reducible first | exact HB.out | apply below_alloc | apply pw_below_drewN | apply below_drew1) | exact HB.out)) hb); have n3_ := Aside0.mk (hbox); have n4_ := Aside0.mk ((by rw [hg]; exact (by first | exact HK.out.1 | exact (show Kept w _ (fun k_ => P0_1_ k_) from by repeat (first | (with_reducible first | exact HK.out | apply Kept.alloc | apply Kept.drewN | apply Kept.drew) | exact HK.out)).1) : w.heap.size ≤ gb737)); have n5_ := Aside0.mk ((by rw [hg]; exact (below_size (by repeat (first | (with_reducible first | exact HB.out | apply below_alloc | apply pw_below_drewN | apply below_drew1) | exact HB.out))) : w0.heap.size ≤ gb737)); clear HO0_1; clear HK; clear HB; have HO0_1 := n0_; have HK := n1_; have HB := n2_; have BK737 := n3_; have GW737 := n4_; have GE737 := n5_; clear n0_ n1_ n2_ n3_ n4_ n5_; clear hb hbox hg; have hcz6_0 : w5.cell? ⟨gb737, 0, none⟩ = some (.bool a0_0) := (blk_cell BK737.out 0).trans rfl; have hcz6_1 : w5.cell? ⟨gb737, 1, none⟩ = some (.slice Ao4 l0_1.length co4) := (blk_cell BK737.out 1).trans rfl; have hcz6_2 : w5.cell? ⟨gb737, 2, none⟩ = some (.int .i64 a0_2) := (blk_cell BK737.out 2).trans rfl; have hfz6_0 := blk_frozen BK737.out 0; have hfz6_1 := blk_frozen BK737.out 1; have hfz6_2 := blk_frozen BK737.out 2) | ((with_reducible refine gate_callee (f := 39) rfl ?_); refine goesL_ (some 8) rfl rfl Try.func39 (by kernel_rfl) rfl #[.slice Ao4 l0_1.length co4, .int .i64 a1] rfl (by (try simp only [List.map_toArray, List.map_cons, List.map_nil]); first | done | rfl | (simp only [List.length_drop, List.length_take]; rfl)) ?_; (with_reducible refine (laws_markByteS.calls k (fun k_ => some k_ = (.slice Ao4 l0_1.length co4 : Value).ownBlock) (.slice Ao4 l0_1.length co4) l0_1 a1 t738 t739 w0 _ ?side1 ?side2 A3.out).mono ?_); (case side1 => repeat (first | (with_reducible first | exact HB.out | apply below_alloc | apply pw_below_drewN | apply below_drew1 | refine below_set ?_ GE737.out) | exact HB.out)); (case side2 => exact Kd.R_tight rfl HO0_1.out); rintro e w7 ⟨rfl, hy0, hb, hkp⟩; refine ⟨_, rfl, ?_⟩; have n0_ := Aside0.mk (Kd.R_reok rfl hy0 (fun k_ e_ => HO0_1.out.1 k_ e_)); have n1_ := Aside0.mk (blk_kept (by (with_reducible repeat (first | refine blk_drewN ?_ _ | refine blk_drew ?_ | refine blk_alloc ?_ _)); exact BK737.out) hkp (fun hs_ => (fun e_ => (Kd.R_ne HO0_1.out BK737.out (by decide)) e_) hs_)); have n2_ := Aside0.mk (Kept.then_ (S := (fun k_ => P0_1_ k_)) (by repeat (first | (with_reducible first | exact HK.out | apply Kept.alloc | apply Kept.drewN | apply Kept.drew | refine Kept.setCell ?_ (.inr GW737.out) _) | exact HK.out)) hkp (fun k_ hs_ => (fun e_ => (HO0_1.out.1 k_ e_.symm)) hs_)); have n3_ := Aside0.mk (hb); clear HO0_1; clear BK737; clear HK; clear HB; have HO0_1 := n0_; have BK737 := n1_; have HK := n2_; have HB := n3_; clear n0_ n1_ n2_ n3_; (try clear hb); (try clear hkp); (try clear hy0)))
  go_ret
  exact ⟨by first | rfl | (simp [errW_none, errW_some] <;> rfl) | (simp [*, errW_none, errW_some] <;> rfl), by (with_reducible repeat (first | apply Kd.R_alloc | apply Kd.R_drewN | apply Kd.R_drew)); exact HO0_1.out, by repeat (first | (with_reducible first | exact HB.out | apply below_alloc | apply pw_below_drewN | apply below_drew1 | refine below_set ?_ GE737.out) | exact HB.out), by repeat (first | (with_reducible first | exact HK.out | apply Kept.alloc | apply Kept.drewN | apply Kept.drew | refine Kept.setCell ?_ (.inr GW737.out) _) | exact HK.out)⟩

/-! ### laws_heldRecRes: function 30 -/
def laws_heldRecRes.f (k : Nat) (a0_0 : Bool) (l0_1 : List Int) (a0_2 : Int) (a1 : Int) : Option (Int) := (laws_heldByteS.f k l0_1 a1).bind fun t741 => (if t741 < 0 then (some (-1)) else (some t741))
theorem laws_heldRecRes.mono : ∀ a0 a1 a2 a3 k, LeO (laws_heldRecRes.f k a0 a1 a2 a3) (laws_heldRecRes.f (k + 1) a0 a1 a2 a3) := by
  intro a0 a1 a2 a3 k
  unfold laws_heldRecRes.f
  repeat' first
      | (with_reducible exact laws_heldByteS.mono _ _ _)
      | (with_reducible exact LeO.refl _)
      | (with_reducible exact LeO.none _)
      | (with_reducible refine LeO.ite ?_ ?_)
      | (with_reducible refine LeO.bind ?_ (fun _ => ?_))
      | exact laws_heldByteS.mono _ _ _
      | exact LeO.none _
      | refine LeO.ite ?_ ?_
      | refine LeO.bind ?_ (fun _ => ?_)
set_option maxHeartbeats 8000000 in
set_option maxRecDepth 100000 in
theorem laws_heldRecRes.calls (k : Nat) (a0_0 : Bool) (A0_1 : Option Addr) (c0_1 : Nat) (l0_1 : List Int) (a0_2 : Int) (a1 : Int) (r : Int) (w : World) (hr0_1 : Kd.C (Kd.int .u8) w A0_1 l0_1.length l0_1) (hc0_1 : l0_1.length ≤ c0_1) (h : laws_heldRecRes.f k a0_0 l0_1 a0_2 a1 = some r) :
    Calls Try.prog 30 #[.agg #[.bool a0_0, .slice A0_1 l0_1.length c0_1, .int .i64 a0_2], .int .i64 a1] w fun e w' => e = .returned (.int .i64 r) ∧ Below w.heap.size w w' := by
  have hu49 := Try.underlying49
  have HR0_1 := Aside0.mk hr0_1
  have HC0_1 := Aside0.mk hc0_1
  clear hr0_1 hc0_1
  have HB := Aside0.mk (Below.refl w.heap.size w)
  have H : ((laws_heldByteS.f k l0_1 a1).bind fun t741 => (if t741 < 0 then (some (-1)) else (some t741))) = some r := h
  clear h
  replace H := Option.bind_eq_some_iff.mp H
  obtain ⟨t741, A30, H⟩ := H
  replace H : (if t741 < 0 then (some (-1)) else (some t741)) = some r := H
  have A3 := Aside0.mk A30
  clear A30
  by_cases c4 : t741 < 0
  · rw [if_pos c4] at H
    have c4b0 : decide (t741 < 0) = true := decide_eq_true c4
    clear c4
    obtain rfl := Option.some.inj H
    go_enter Try.func30, Try.ntmps30
    go_wp2_with (first | ((with_reducible refine gate_dst (N := 2) rfl ?_); refine box_event ?hg (N := 2) ?hd (cs := #[.bool a0_0, .slice A0_1 l0_1.length c0_1, .int .i64 a0_2]) (t := 49) ?hr ?_; (case hd => rfl); (case hg => rfl); (case hr => first | (go_simp; done) | (go_simp; rfl)); intro gb740 hg w5 hbox hb; have n0_ := Aside0.mk (below_step (by repeat (first | (with_reducible first | exact HB.out | apply below_alloc | apply pw_below_drewN | apply below_drew1) | exact HB.out)) hb); have n1_ := Aside0.mk (hbox); have n2_ := Aside0.mk ((by rw [hg]; exact (below_size (by repeat (first | (with_reducible first | exact HB.out | apply below_alloc | apply pw_below_drewN | apply below_drew1) | exact HB.out))) : w.heap.size ≤ gb740)); have n3_ := Aside0.mk ((by rw [hg]; exact (below_size (by repeat (first | (with_reducible first | exact HB.out | apply below_alloc | apply pw_below_drewN | apply below_drew1) | exact HB.out))) : w.heap.size ≤ gb740)); clear HB; have HB := n0_; have BK740 := n1_; have GW740 := n2_; have GE740 := n3_; clear n0_ n1_ n2_ n3_; clear hb hbox hg; have hcz6_0 : w5.cell? ⟨gb740, 0, none⟩ = some (.bool a0_0) := (blk_cell BK740.out 0).trans rfl; have hcz6_1 : w5.cell? ⟨gb740, 1, none⟩ = some (.slice A0_1 l0_1.length c0_1) := (blk_cell BK740.out 1).trans rfl; have hcz6_2 : w5.cell? ⟨gb740, 2, none⟩ = some (.int .i64 a0_2) := (blk_cell BK740.out 2).trans rfl; have hfz6_0 := blk_frozen BK740.out 0; have hfz6_1 := blk_frozen BK740.out 1; have hfz6_2 := blk_frozen BK740.out 2) | ((with_reducible refine gate_callee (f := 74) rfl ?_); refine goesL_ (some 8) rfl rfl Try.func74 (by kernel_rfl) rfl #[.slice A0_1 l0_1.length c0_1, .int .i64 a1] rfl (by (try simp only [List.map_toArray, List.map_cons, List.map_nil]); first | done | rfl | (simp only [List.length_drop, List.length_take]; rfl)) ?_; (with_reducible refine (laws_heldByteS.calls k _ _ l0_1 a1 t741 _ ?side1 ?side2 A3.out).mono ?_); (case side1 => repeat (first | exact (Kd.C_below HR0_1.out HB.out) | (with_reducible refine Kd.C_alloc ?_ _) | (with_reducible refine Kd.C_drewN ?_ _) | (with_reducible refine Kd.C_drew ?_))); (case side2 => exact HC0_1.out); rintro e w' ⟨rfl, ⟨nd, rfl⟩⟩; refine ⟨_, rfl, ?_⟩))
    go_ret
    exact ⟨by first | rfl | (simp [errW_none, errW_some] <;> rfl) | (simp [*, errW_none, errW_some] <;> rfl), by repeat (first | (with_reducible first | exact HB.out | apply below_alloc | apply pw_below_drewN | apply below_drew1 | refine below_set ?_ GE740.out) | exact HB.out)⟩
  · rw [if_neg c4] at H
    have c4b0 : decide (t741 < 0) = false := decide_eq_false c4
    clear c4
    obtain rfl := Option.some.inj H
    go_enter Try.func30, Try.ntmps30
    go_wp2_with (first | ((with_reducible refine gate_dst (N := 2) rfl ?_); refine box_event ?hg (N := 2) ?hd (cs := #[.bool a0_0, .slice A0_1 l0_1.length c0_1, .int .i64 a0_2]) (t := 49) ?hr ?_; (case hd => rfl); (case hg => rfl); (case hr => first | (go_simp; done) | (go_simp; rfl)); intro gb740 hg w7 hbox hb; have n0_ := Aside0.mk (below_step (by repeat (first | (with_reducible first | exact HB.out | apply below_alloc | apply pw_below_drewN | apply below_drew1) | exact HB.out)) hb); have n1_ := Aside0.mk (hbox); have n2_ := Aside0.mk ((by rw [hg]; exact (below_size (by repeat (first | (with_reducible first | exact HB.out | apply below_alloc | apply pw_below_drewN | apply below_drew1) | exact HB.out))) : w.heap.size ≤ gb740)); have n3_ := Aside0.mk ((by rw [hg]; exact (below_size (by repeat (first | (with_reducible first | exact HB.out | apply below_alloc | apply pw_below_drewN | apply below_drew1) | exact HB.out))) : w.heap.size ≤ gb740)); clear HB; have HB := n0_; have BK740 := n1_; have GW740 := n2_; have GE740 := n3_; clear n0_ n1_ n2_ n3_; clear hb hbox hg; have hcz8_0 : w7.cell? ⟨gb740, 0, none⟩ = some (.bool a0_0) := (blk_cell BK740.out 0).trans rfl; have hcz8_1 : w7.cell? ⟨gb740, 1, none⟩ = some (.slice A0_1 l0_1.length c0_1) := (blk_cell BK740.out 1).trans rfl; have hcz8_2 : w7.cell? ⟨gb740, 2, none⟩ = some (.int .i64 a0_2) := (blk_cell BK740.out 2).trans rfl; have hfz8_0 := blk_frozen BK740.out 0; have hfz8_1 := blk_frozen BK740.out 1; have hfz8_2 := blk_frozen BK740.out 2) | ((with_reducible refine gate_callee (f := 74) rfl ?_); refine goesL_ (some 8) rfl rfl Try.func74 (by kernel_rfl) rfl #[.slice A0_1 l0_1.length c0_1, .int .i64 a1] rfl (by (try simp only [List.map_toArray, List.map_cons, List.map_nil]); first | done | rfl | (simp only [List.length_drop, List.length_take]; rfl)) ?_; (with_reducible refine (laws_heldByteS.calls k _ _ l0_1 a1 t741 _ ?side1 ?side2 A3.out).mono ?_); (case side1 => repeat (first | exact (Kd.C_below HR0_1.out HB.out) | (with_reducible refine Kd.C_alloc ?_ _) | (with_reducible refine Kd.C_drewN ?_ _) | (with_reducible refine Kd.C_drew ?_))); (case side2 => exact HC0_1.out); rintro e w' ⟨rfl, ⟨nd, rfl⟩⟩; refine ⟨_, rfl, ?_⟩))
    go_ret
    exact ⟨by first | rfl | (simp [errW_none, errW_some] <;> rfl) | (simp [*, errW_none, errW_some] <;> rfl), by repeat (first | (with_reducible first | exact HB.out | apply below_alloc | apply pw_below_drewN | apply below_drew1 | refine below_set ?_ GE740.out) | exact HB.out)⟩
end Go.Proofs.Yteddpdonmhiplaa.PR
